/-
  Lemmas and walks for the row of TofourTells (part 26 of 37).
-/
import Derived.Test.YtjnphelfloiadaaFtAI
import Derived.Test.YtjnphelfloiadaaFtAY
set_option linter.unusedVariables false
set_option linter.unusedSimpArgs false
namespace Go.Proofs.Ytjnphelfloiadaa
open Go.RowKit Go.Shelf
attribute [local irreducible] wpList Code.wp Oper.wp wpOp wpAnyH

theorem two17_zero {l : List Int} (h : InB l) (k : Nat) : two17 l k = 0 ↔ l.getD k 0 = 0 ∧ l.getD (k + 1) 0 = 0 := by
 have h1 := getD_rng h k
 have h2 := getD_rng h (k + 1)
 unfold two17
 omega
/-- a row of its own, or a panic with an error's number -/
def Ends18 (r : List Int × Int) (base : Nat) (w' : World) (e : Ending) : Prop := (r.2 = 0 → ∃ v, e = .returned v ∧ OwnB w' base v r.1) ∧ (r.2 ≠ 0 → e = Fault18 r.2)
theorem Ends18.ok {r : List Int × Int} {base : Nat} {w' : World} {v : Value} {l : List Int} (h : r = (l, 0)) (hO : OwnB w' base v l) : Ends18 r base w' (.returned v) := by
 subst h
 exact ⟨fun _ => ⟨v, rfl, hO⟩, fun h => absurd rfl h⟩
theorem Ends18.bad {r : List Int × Int} {base : Nat} {w' : World} {k : Int} (h : r = ([], k)) (hk : k ≠ 0) : Ends18 r base w' (Fault18 k) := by
 subst h
 exact ⟨fun h => absurd h hk, fun _ => rfl⟩

set_option maxRecDepth 100000 in
set_option maxHeartbeats 4000000 in
theorem body18_any (d : D6) (p : W6) (s t : List Int) (hE : E4ok s t) (w : World) (hR : Rd6 w.heap.size w d p) (hm : d.bl.length ≤ 65535) :
  Calls Try.prog 34 #[.agg (d.cells p), .agg (e4c s t)] w fun e w' => Ends18 (body18 d s t) w.heap.size w' e ∧ Below w.heap.size w w' := by
 have yb6 := hR.body
 have hlb := yb6.len
 go_enter Try.func34, Try.ntmps34
 refine wp_sr ?_
 refine lz (ow_box 28 (.tmp 0) _ rfl rfl ?_)
 intro g1 W2 hg3 ge4 sz5 hb6
 have z7 := hb6.size
 simp only [lay]
 refine lz (ow_box 32 (.tmp 1) _ rfl rfl ?_)
 intro g8 W9 hg10 ge11 sz12 hb13
 have z14 := hb13.size
 simp only [lay]
 refine lv (.slice none 0 0) (by exact xa) ?_
 simp only [lay]
 refine wn ?_
 refine wp_sr ?_
 refine lv (.pointer (some ⟨g1, 41, none⟩)) (by exact xf 41 0 Try.underlying28) ?_
 simp only [lay]
 have has15 := hg3.to hb13
 refine lv (.slice p.bA d.bl.length p.bc) (by exact xc Try.underlying26 (has15.cell 41 rfl)) ?_
 simp only [lay]
 have b16 := bt hb6 hb13
 have by17 := yb6.to b16
 refine lz (ow_call (fun v w' => OwnB w' W9.heap.size v d.bl ∧ Below W9.heap.size W9 w') (by exact xk Try.func46) (clone_n _ _ _ d.bl W9 by17 (by omega)) ?_)
 rintro v20 W18 ⟨hO21, hb19⟩
 have z22 := hb19.size
 obtain ⟨A23, c24, rfl, y25⟩ := hO21.by_
 simp only [lay]
 refine lv (.slice A23 d.bl.length c24) (by exact xa) ?_
 simp only [lay]
 refine wn ?_
 refine wp_seq ?_
 refine wp_sr ?_
 refine lv (.pointer (some ⟨g1, 38, none⟩)) (by exact xf 38 0 Try.underlying28) ?_
 simp only [lay]
 have b26 := bt hb13 hb19
 have has27 := hg3.to b26
 refine lv (.int .i64 d.off) (by exact xc Try.underlying3 (has27.cell 38 rfl)) ?_
 simp only [lay]
 by_cases q28 : d.off > 0
 case pos =>
  refine lv (.bool true) (by exact ex_gtr (by exact rfl) (by exact rfl) (by exact rfl) (decide_eq_true (by first | assumption | omega | decide))) ?_
  simp only [lay]
  refine wn ?_
  refine cT9 ?_
  refine wp_sr ?_
  refine lv (.slice A23 d.bl.length c24) (by exact xm) ?_
  simp only [lay]
  refine lv (.slice A23 d.bl.length c24) (by exact xa) ?_
  simp only [lay]
  refine wn ?_
  refine wp_ret ?_
  try simp only [Exit.then]
  have e : body18 d s t = (d.bl, 0) := by
   unfold body18
   repeat (first | rw [if_pos (by first | assumption | omega | exact ne_true_of_eq_false (by assumption))] | rw [if_neg (by first | assumption | omega | exact ne_true_of_eq_false (by assumption))])
  have b29 := bt b16 hb19
  exact bodyPost_ret (res_one Try.results34 rfl) rfl ⟨Ends18.ok e (hO21.more b16.size), b29⟩
 refine lv (.bool false) (by exact ex_gtr (by exact rfl) (by exact rfl) (by exact rfl) (decide_eq_false (by first | assumption | omega | decide))) ?_
 simp only [lay]
 refine wn ?_
 refine cF9 ?_
 refine wp_skip ?_
 change Code.wp _ _ _ _ _
 refine wp_seq ?_
 refine wp_sr ?_
 refine lv (.pointer (some ⟨g1, 40, none⟩)) (by exact xf 40 0 Try.underlying28) ?_
 simp only [lay]
 refine lv (.int .u8 d.pro) (by exact xc Try.underlying5 (has27.cell 40 rfl)) ?_
 simp only [lay]
 refine wn ?_
 refine wp_block ?_
 refine wp_sr ?_
 by_cases q30 : d.pro = 6
 case pos =>
  refine lv (.bool true) (by exact yq) ?_
  simp only [lay]
  refine lv (.bool true) (by exact xa) ?_
  simp only [lay]
  refine wn ?_
  refine cT9 ?_
  refine wp_seq ?_
  refine wp_sr ?_
  refine lv (.slice A23 d.bl.length c24) (by exact xm) ?_
  simp only [lay]
  refine lv (.int .i64 (d.bl.length : Int)) (by exact xz Try.underlying26) ?_
  simp only [lay]
  by_cases q31 : (d.bl.length : Int) < 20
  case pos =>
   refine lv (.bool true) (by exact ex_lss (by exact rfl) (by exact rfl) (by exact rfl) (decide_eq_true (by first | assumption | omega | decide))) ?_
   simp only [lay]
   refine wn ?_
   refine cT9 ?_
   refine wp_region_lit ?_
   refine lv (.iface 36 (.int .i64 173)) (by kernel_rfl) ?_
   simp only [lay]
   refine lz (ow_raise _ _ rfl (by exact rfl) ?_)
   have e : body18 d s t = ([], 173) := by
    unfold body18
    repeat (first | rw [if_pos (by first | assumption | omega | exact ne_true_of_eq_false (by assumption))] | rw [if_neg (by first | assumption | omega | exact ne_true_of_eq_false (by assumption))])
   have b32 := bt b16 hb19
   exact ⟨rfl, Ends18.bad e (by decide), b32⟩
  refine lv (.bool false) (by exact ex_lss (by exact rfl) (by exact rfl) (by exact rfl) (decide_eq_false (by first | assumption | omega | decide))) ?_
  simp only [lay]
  refine wn ?_
  refine cF9 ?_
  refine wp_skip ?_
  change Code.wp _ _ _ _ _
  refine wp_region_lit ?_
  refine lv (.slice A23 d.bl.length c24) (by exact xm) ?_
  simp only [lay]
  refine lv (.agg (d.cells p)) (by exact xo (has27.load (P := Try.prog) 28 Try.underlying28 rfl (by kernel_rfl))) ?_
  simp only [lay]
  have has33 := hg10.to hb19
  refine lv (.agg (e4c s t)) (by exact xo (has33.load (P := Try.prog) 32 Try.underlying32 rfl (by kernel_rfl))) ?_
  simp only [lay]
  obtain ⟨g34, rfl, h35, h36⟩ := own_form hO21 (by first | omega | (simp only [List.length_append]; omega) | simp [D4.src])
  have b41 := bt b16 hb19
  have rd42 := hR.to b41
  refine lz (ow_call (fun v w' => v = .tuple #[] ∧ OwnB w' W9.heap.size (.slice (some ⟨g34, 0, none⟩) d.bl.length c24) (carry17 (d.pro == 17) (from18 d) (to18 s t) d.bl 16) ∧ ButG g34 W18 w' ∧ Below g34 W18 w') (by exact xk Try.func71) ((carry18_any d p s t hE 16 g34 d.bl.length c24 _ W9 W18 hb19 hO21 h35 (by omega) (by omega) (by omega) rd42).mono fun e w' h => ⟨_, h.1, rfl, h.2⟩) ?_)
  rintro _ W39 ⟨rfl, hO38, bs37, hb40⟩
  have z43 := hb40.size
  simp only [lay]
  refine wn ?_
  refine wp_sr ?_
  refine lv (.slice (some ⟨g34, 0, none⟩) d.bl.length c24) (by exact xm) ?_
  simp only [lay]
  refine lv (.slice (some ⟨g34, 0, none⟩) d.bl.length c24) (by exact xa) ?_
  simp only [lay]
  refine wn ?_
  refine wp_ret ?_
  try simp only [Exit.then]
  have hu : (d.pro == 17) = false := by rw [show d.pro = 6 from by assumption]; rfl
  have e : body18 d s t = (carry17 (d.pro == 17) (from18 d) (to18 s t) d.bl 16, 0) := by
   unfold body18
   repeat (first | rw [if_pos (by first | assumption | omega | exact ne_true_of_eq_false (by assumption))] | rw [if_neg (by first | assumption | omega | exact ne_true_of_eq_false (by assumption))])
   rw [hu]
  have l44 := Nat.le_trans b16.size h35
  have b45 := b41.trans (hb40.mono l44)
  exact bodyPost_ret (res_one Try.results34 rfl) rfl ⟨Ends18.ok e (hO38.more b16.size), b45⟩
 refine lv (.bool false) (by exact yqn) ?_
 simp only [lay]
 refine lv (.bool false) (by exact xa) ?_
 simp only [lay]
 refine wn ?_
 refine cF9 ?_
 refine wp_sr ?_
 by_cases q46 : d.pro = 17
 case pos =>
  refine lv (.bool true) (by exact yq) ?_
  simp only [lay]
  refine lv (.bool true) (by exact xa) ?_
  simp only [lay]
  refine wn ?_
  refine cT9 ?_
  refine wp_seq ?_
  refine wp_sr ?_
  refine lv (.slice A23 d.bl.length c24) (by exact xm) ?_
  simp only [lay]
  refine lv (.int .i64 (d.bl.length : Int)) (by exact xz Try.underlying26) ?_
  simp only [lay]
  by_cases q47 : (d.bl.length : Int) < 8
  case pos =>
   refine lv (.bool true) (by exact ex_lss (by exact rfl) (by exact rfl) (by exact rfl) (decide_eq_true (by first | assumption | omega | decide))) ?_
   simp only [lay]
   refine wn ?_
   refine cT9 ?_
   refine wp_region_lit ?_
   refine lv (.iface 36 (.int .i64 173)) (by kernel_rfl) ?_
   simp only [lay]
   refine lz (ow_raise _ _ rfl (by exact rfl) ?_)
   have e : body18 d s t = ([], 173) := by
    unfold body18
    repeat (first | rw [if_pos (by first | assumption | omega | exact ne_true_of_eq_false (by assumption))] | rw [if_neg (by first | assumption | omega | exact ne_true_of_eq_false (by assumption))])
   have b48 := bt b16 hb19
   exact ⟨rfl, Ends18.bad e (by decide), b48⟩
  refine lv (.bool false) (by exact ex_lss (by exact rfl) (by exact rfl) (by exact rfl) (decide_eq_false (by first | assumption | omega | decide))) ?_
  simp only [lay]
  refine wn ?_
  refine cF9 ?_
  refine wp_skip ?_
  change Code.wp _ _ _ _ _
  refine wp_seq ?_
  refine wp_sr ?_
  refine lv (.slice A23 d.bl.length c24) (by exact xm) ?_
  simp only [lay]
  have y49 := (own_byS hO21)
  refine lz (ow_call (fun v w' => v = .int .u16 (two17 d.bl 6) ∧ Below W18.heap.size W18 w') (by exact xk Try.func50) ((two18_any _ _ _ _ 6 W18 y49 (by omega) (by omega)).mono fun e w' h => ⟨_, h.1, rfl, h.2⟩) ?_)
  rintro _ W50 ⟨rfl, hb51⟩
  have z52 := hb51.size
  simp only [lay]
  by_cases q53 : two17 d.bl 6 = 0
  case pos =>
   have hz : d.bl.getD 6 0 = 0 ∧ d.bl.getD 7 0 = 0 := (two17_zero hR.body.rng 6).1 q53
   refine lv (.bool true) (by exact yq) ?_
   simp only [lay]
   refine wn ?_
   refine cT9 ?_
   refine wp_region_lit ?_
   refine lv (.iface 36 (.int .i64 172)) (by kernel_rfl) ?_
   simp only [lay]
   refine lz (ow_raise _ _ rfl (by exact rfl) ?_)
   have e : body18 d s t = ([], 172) := by
    unfold body18
    repeat (first | rw [if_pos (by first | assumption | omega | exact ne_true_of_eq_false (by assumption))] | rw [if_neg (by first | assumption | omega | exact ne_true_of_eq_false (by assumption))])
   have b54 := bt b16 hb19
   have b55 := bt b54 hb51
   exact ⟨rfl, Ends18.bad e (by decide), b55⟩
  have hz : ¬ (d.bl.getD 6 0 = 0 ∧ d.bl.getD 7 0 = 0) := (not_congr (two17_zero hR.body.rng 6)).1 q53
  refine lv (.bool false) (by exact yqn) ?_
  simp only [lay]
  refine wn ?_
  refine cF9 ?_
  refine wp_skip ?_
  change Code.wp _ _ _ _ _
  refine wp_region_lit ?_
  refine lv (.slice A23 d.bl.length c24) (by exact xm) ?_
  simp only [lay]
  have b56 := bt b26 hb51
  have has57 := hg3.to b56
  refine lv (.agg (d.cells p)) (by exact xo (has57.load (P := Try.prog) 28 Try.underlying28 rfl (by kernel_rfl))) ?_
  simp only [lay]
  have b58 := bt hb19 hb51
  have has59 := hg10.to b58
  refine lv (.agg (e4c s t)) (by exact xo (has59.load (P := Try.prog) 32 Try.underlying32 rfl (by kernel_rfl))) ?_
  simp only [lay]
  obtain ⟨g60, rfl, h61, h62⟩ := own_form hO21 (by first | omega | (simp only [List.length_append]; omega) | simp [D4.src])
  have own67 := hO21.to hb51
  have b68 := bt b16 hb19
  have b69 := bt b68 hb51
  have rd70 := hR.to b69
  refine lz (ow_call (fun v w' => v = .tuple #[] ∧ OwnB w' W9.heap.size (.slice (some ⟨g60, 0, none⟩) d.bl.length c24) (carry17 (d.pro == 17) (from18 d) (to18 s t) d.bl 6) ∧ ButG g60 W50 w' ∧ Below g60 W50 w') (by exact xk Try.func71) ((carry18_any d p s t hE 6 g60 d.bl.length c24 _ W9 W50 b58 own67 h61 (by omega) (by omega) (by omega) rd70).mono fun e w' h => ⟨_, h.1, rfl, h.2⟩) ?_)
  rintro _ W65 ⟨rfl, hO64, bs63, hb66⟩
  have z71 := hb66.size
  simp only [lay]
  refine wn ?_
  refine wp_sr ?_
  refine lv (.slice (some ⟨g60, 0, none⟩) d.bl.length c24) (by exact xm) ?_
  simp only [lay]
  refine lv (.slice (some ⟨g60, 0, none⟩) d.bl.length c24) (by exact xa) ?_
  simp only [lay]
  refine wn ?_
  refine wp_ret ?_
  try simp only [Exit.then]
  have hu : (d.pro == 17) = true := by rw [show d.pro = 17 from by assumption]; rfl
  have e : body18 d s t = (carry17 (d.pro == 17) (from18 d) (to18 s t) d.bl 6, 0) := by
   unfold body18
   repeat (first | rw [if_pos (by first | assumption | omega | exact ne_true_of_eq_false (by assumption))] | rw [if_neg (by first | assumption | omega | exact ne_true_of_eq_false (by assumption))])
   rw [hu]
  have l72 := Nat.le_trans b16.size h61
  have b73 := b69.trans (hb66.mono l72)
  exact bodyPost_ret (res_one Try.results34 rfl) rfl ⟨Ends18.ok e (hO64.more b16.size), b73⟩
 refine lv (.bool false) (by exact yqn) ?_
 simp only [lay]
 refine lv (.bool false) (by exact xa) ?_
 simp only [lay]
 refine wn ?_
 refine cF9 ?_
 refine wp_skip ?_
 change Code.wp _ _ _ _ _
 refine wp_sr ?_
 refine lv (.slice A23 d.bl.length c24) (by exact xm) ?_
 simp only [lay]
 refine lv (.slice A23 d.bl.length c24) (by exact xa) ?_
 simp only [lay]
 refine wn ?_
 refine wp_ret ?_
 try simp only [Exit.then]
 have e : body18 d s t = (d.bl, 0) := by
  unfold body18
  repeat (first | rw [if_pos (by first | assumption | omega | exact ne_true_of_eq_false (by assumption))] | rw [if_neg (by first | assumption | omega | exact ne_true_of_eq_false (by assumption))])
 have b74 := bt b16 hb19
 exact bodyPost_ret (res_one Try.results34 rfl) rfl ⟨Ends18.ok e (hO21.more b16.size), b74⟩
end Go.Proofs.Ytjnphelfloiadaa
