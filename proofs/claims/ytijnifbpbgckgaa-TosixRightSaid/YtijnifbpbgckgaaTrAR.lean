/-
  Lemmas and walks for the row of TosixRight (part 18 of 33).
-/
import Derived.Test.YtijnifbpbgckgaaTrAF
import Derived.Test.YtijnifbpbgckgaaTrAQ
set_option linter.unusedVariables false
set_option linter.unusedSimpArgs false
namespace Go.Proofs.Ytijnifbpbgckgaa
open Go.RowKit Go.Shelf
attribute [local irreducible] wpList Code.wp Oper.wp wpOp wpAnyH

/-- a row of bytes, or a fault of tosix -/
def Ends17 (r : List Int × Int) (base : Nat) (w' : World) (e : Ending) : Prop := (r.2 = 0 → ∃ v, e = .returned v ∧ OwnB w' base v r.1) ∧ (r.2 ≠ 0 → e = Fault17 r.2)
theorem Ends17.ok {r : List Int × Int} {base : Nat} {w' : World} {v : Value} {l : List Int} (h : r = (l, 0)) (hO : OwnB w' base v l) : Ends17 r base w' (.returned v) := by
 subst h
 exact ⟨fun _ => ⟨v, rfl, hO⟩, fun h => absurd rfl h⟩
theorem Ends17.bad {r : List Int × Int} {base : Nat} {w' : World} {k : Int} (h : r = ([], k)) (hk : k ≠ 0) : Ends17 r base w' (Fault17 k) := by
 subst h
 exact ⟨fun h => absurd h hk, fun _ => rfl⟩
theorem of2 {g n1 n2 c1 c2 : Nat} {A1 A2 : Option Addr} {l1 l2 : List Int} {w : World} (h : Has w g (.cells #[.slice A1 n1 c1, .slice A2 n2 c2] 25 (0, 0))) (y1 : By w.heap.size w A1 n1 c1 l1) (y2 : By w.heap.size w A2 n2 c2 l2) :
  Calls Try.prog 75 #[.slice (some ⟨g, 0, none⟩) 2 2] w fun e w' => ∃ v, e = .returned v ∧ (∃ q, v = .int .u16 q ∧ q = 65535 - sumw (l1 ++ l2) ∧ 0 ≤ q ∧ q < 65536) ∧ Below w.heap.size w w' := by
 obtain rfl := y1.len
 obtain rfl := y2.len
 refine (of_new [(A1, c1, l1), (A2, c2, l2)] 2 h rfl (all2 y1 y2) (by simp)).mono fun e w' h => ?_
 obtain ⟨q, rfl, hq, hr, hb⟩ := h
 have hq := hq.out
 rw [flat2] at hq
 exact ⟨_, rfl, ⟨q, rfl, hq, hr.1, hr.2⟩, hb⟩
theorem pseudo6_l {a b : List Int} (ha : a.length = 16) (hb : b.length = 16) (ra : InB a) (rb : InB b) {p n : Int} (hp : 0 ≤ p ∧ p ≤ 255) (hn : 0 ≤ n ∧ n ≤ 65535) (w : World) :
  Calls Try.prog 69 #[.agg (u8s (l16 a)).toArray, .agg (u8s (l16 b)).toArray, .int .u8 p, .int .i64 n] w fun e w' => ∃ v, e = .returned v ∧ (∃ u, v = .tuple #[u, .int .i64 0] ∧ OwnB w' w.heap.size u (pse6 a b n p)) ∧ Below w.heap.size w w' := by
 rw [u8s_16 ha, u8s_16 hb]
 refine (pseudo6_ok a b ha hb ra rb p n hp.1 hp.2 hn.1 hn.2 w).mono fun e w' h => ?_
 obtain ⟨u, rfl, hO, hB⟩ := h
 exact ⟨_, rfl, ⟨u, rfl, hO⟩, hB⟩

set_option maxRecDepth 100000 in
set_option maxHeartbeats 4000000 in
theorem body17_any (d : D4) (p : W4) (s t : List Int) (hE : E6ok s t) (w : World) (hR : Rd4 w.heap.size w d p) (hm : d.bl.length ≤ 65535) :
  Calls Try.prog 42 #[.agg (d.cells p), .agg (ends6 s t)] w fun e w' => Ends17 (body17 d s t) w.heap.size w' e ∧ Below w.heap.size w w' := by
 have sL := hE.sL
 have tL := hE.tL
 have he : (from17 d).length = (s ++ t).length ∧ (s ++ t).length % 2 = 0 := by rw [from17_len, List.length_append, sL, tL]; decide
 have hlb := hR.body.len
 have yo := hR.opt
 have yb := hR.body
 go_enter Try.func42, Try.ntmps42
 refine wp_sr ?_
 refine lz (ow_box 27 (.tmp 0) _ rfl rfl ?_)
 intro g1 W2 hg3 ge4 sz5 hb6
 have z7 := hb6.size
 simp only [lay]
 refine lz (ow_box 31 (.tmp 1) _ rfl rfl ?_)
 intro g8 W9 hg10 ge11 sz12 hb13
 have z14 := hb13.size
 simp only [lay]
 refine lv (.slice none 0 0) (by exact xa) ?_
 simp only [lay]
 refine wn ?_
 refine wp_sr ?_
 have has15 := hg3.to hb13
 refine lv (.agg (d.cells p)) (by exact xo (has15.load (P := Try.prog) 27 Try.underlying27 rfl (by kernel_rfl))) ?_
 simp only [lay]
 refine lv (.agg (ends6 s t)) (by exact xo (hg10.load (P := Try.prog) 31 Try.underlying31 rfl (by kernel_rfl))) ?_
 simp only [lay]
 have b16 := bt hb6 hb13
 have rd17 := hR.to b16
 refine lz (ow_call (fun v w' => Change17 W9.heap.size w' d s t v ∧ Below W9.heap.size W9 w') (by exact xk Try.func71) (changed17_any d _ s t hE W9 rd17) ?_)
 rintro v20 W18 ⟨hv21, hb19⟩
 have z22 := hb19.size
 obtain ⟨A23, c24, A25, c26, rfl, hO27, hO28⟩ := hv21
 simp only [lay]
 refine lz (oa #[.slice none 0 0, .slice none 0 0, .bool false] ?_)
 intro g29 W30 hg31 ge32 sz33 hb34
 have z35 := hb34.size
 simp only [lay]
 refine lz (ow_st 123 (.tmp 5) (.tmp 11) g29 #[.slice A23 ((from17 d).length) c24, .slice A25 ((s ++ t).length) c26, .bool (d.proto == 17)] _ _ rfl (by exact rfl) (by exact rfl) hg31 (by kernel_rfl) rfl (by kernel_rfl) ?_)
 intro W36 hg37 bs38 hb39
 have z40 := hb39.size
 simp only [lay]
 refine wn ?_
 refine wp_seq ?_
 refine wp_block ?_
 refine wp_sr ?_
 refine lv (.pointer (some ⟨g1, 4, none⟩)) (by exact xf 4 0 Try.underlying27) ?_
 simp only [lay]
 have b41 := bt hb13 hb19
 have b42 := bt b41 hb34
 have l43 := lq b41 ge32
 have b44 := b42.trans (hb39.mono l43)
 have has45 := hg3.to b44
 refine lv (.int .i64 d.off) (by exact xc Try.underlying3 (has45.cell 4 rfl)) ?_
 simp only [lay]
 by_cases q46 : d.off > 0
 case pos =>
  refine lv (.bool true) (by exact ex_gtr (by exact rfl) (by exact rfl) (by exact rfl) (decide_eq_true (by first | assumption | omega | decide))) ?_
  simp only [lay]
  refine lv (.bool true) (by exact xa) ?_
  simp only [lay]
  refine wn ?_
  refine wp_cond_true (by exact rfl) ?_
  refine wp_sr ?_
  refine lv (.pointer (some ⟨g1, 16, none⟩)) (by exact xf 16 0 Try.underlying27) ?_
  simp only [lay]
  refine lv (.slice p.bA d.bl.length p.bc) (by exact xc Try.underlying25 (has45.cell 16 rfl)) ?_
  simp only [lay]
  have b47 := bt b16 hb19
  have b48 := bt b47 hb34
  have l49 := lq b47 ge32
  have b50 := b48.trans (hb39.mono l49)
  have by51 := yb.to b50
  refine lz (ow_call (fun v w' => OwnB w' W36.heap.size v d.bl ∧ Below W36.heap.size W36 w') (by exact xk Try.func51) (clone_n _ _ _ d.bl W36 by51 (by omega)) ?_)
  rintro v54 W52 ⟨hO55, hb53⟩
  have z56 := hb53.size
  obtain ⟨A57, c58, rfl, y59⟩ := hO55.by_
  simp only [lay]
  refine lv (.slice A57 d.bl.length c58) (by exact xa) ?_
  simp only [lay]
  refine wn ?_
  refine wp_ret ?_
  simp only [Exit.inBlock, Exit.then]
  have e : body17 d s t = (d.bl, 0) := by
   unfold body17 two17
   try simp only [Nat.reduceAdd]
   repeat (first | rw [if_pos (by first | assumption | omega | exact ne_true_of_eq_false (by assumption))] | rw [if_neg (by first | assumption | omega | exact ne_true_of_eq_false (by assumption))])
  have b60 := bt b50 hb53
  exact bodyPost_ret (res_one Try.results42 rfl) rfl ⟨Ends17.ok e (hO55.more b50.size), b60⟩
 refine lv (.bool false) (by exact ex_gtr (by exact rfl) (by exact rfl) (by exact rfl) (decide_eq_false (by first | assumption | omega | decide))) ?_
 simp only [lay]
 refine lv (.bool false) (by exact xa) ?_
 simp only [lay]
 refine wn ?_
 refine wp_cond_false (by exact rfl) ?_
 refine wp_sr ?_
 refine lv (.pointer (some ⟨g1, 6, none⟩)) (by exact xf 6 0 Try.underlying27) ?_
 simp only [lay]
 refine lv (.int .u8 d.proto) (by exact xc Try.underlying5 (has45.cell 6 rfl)) ?_
 simp only [lay]
 by_cases q61 : d.proto = 6
 case pos =>
  refine lv (.bool true) (by exact yq) ?_
  simp only [lay]
  refine lv (.bool true) (by exact xa) ?_
  simp only [lay]
  refine wn ?_
  refine wp_cond_true (by exact rfl) ?_
  refine wp_sr ?_
  refine lv (.pointer (some ⟨g1, 16, none⟩)) (by exact xf 16 0 Try.underlying27) ?_
  simp only [lay]
  refine lv (.slice p.bA d.bl.length p.bc) (by exact xc Try.underlying25 (has45.cell 16 rfl)) ?_
  simp only [lay]
  refine lv (.int .i64 (d.bl.length : Int)) (by exact xz Try.underlying25) ?_
  simp only [lay]
  by_cases q62 : (d.bl.length : Int) < 20
  case pos =>
   refine lv (.bool true) (by exact ex_lss (by exact rfl) (by exact rfl) (by exact rfl) (decide_eq_true (by first | assumption | omega | decide))) ?_
   simp only [lay]
   refine lz (ow_panic [{ v := .iface 111 (.agg #[.int .i64 173]), recovered := false }] (fun w' => W36 = w') (by exact xk Try.func35) (when17_yes 173 W36) ?_)
   rintro _ rfl
   have e : body17 d s t = ([], 173) := by
    unfold body17 two17
    try simp only [Nat.reduceAdd]
    repeat (first | rw [if_pos (by first | assumption | omega | exact ne_true_of_eq_false (by assumption))] | rw [if_neg (by first | assumption | omega | exact ne_true_of_eq_false (by assumption))])
   have b63 := bt b16 hb19
   have b64 := bt b63 hb34
   have l65 := lq b63 ge32
   have b66 := b64.trans (hb39.mono l65)
   exact ⟨rfl, Ends17.bad e (by decide), b66⟩
  refine lv (.bool false) (by exact ex_lss (by exact rfl) (by exact rfl) (by exact rfl) (decide_eq_false (by first | assumption | omega | decide))) ?_
  simp only [lay]
  refine lz (ow_same (.tuple #[]) (by exact xk Try.func35) (when17_no 173 W36) ?_)
  simp only [lay]
  refine wn ?_
  refine wp_sr ?_
  refine lv (.agg #[.slice A23 ((from17 d).length) c24, .slice A25 ((s ++ t).length) c26, .bool (d.proto == 17)]) (by exact xo (hg37.load (P := Try.prog) 123 Try.underlying123 rfl (by kernel_rfl))) ?_
  simp only [lay]
  refine lv (.pointer (some ⟨g1, 16, none⟩)) (by exact xf 16 0 Try.underlying27) ?_
  simp only [lay]
  refine lv (.slice p.bA d.bl.length p.bc) (by exact xc Try.underlying25 (has45.cell 16 rfl)) ?_
  simp only [lay]
  have l67 : W18.heap.size ≤ g29 := Nat.le_of_eq ge32.symm
  have b68 := hb34.trans (hb39.mono l67)
  have own69 := hO27.to b68
  have own70 := hO28.to b68
  have b71 := bt b16 hb19
  have b72 := bt b71 hb34
  have l73 := lq b71 ge32
  have b74 := b72.trans (hb39.mono l73)
  have by75 := yb.to b74
  refine lz (ow_call (fun v w' => OwnB w' W36.heap.size v (carry17 (d.proto == 17) (from17 d) (s ++ t) d.bl 16) ∧ Below W36.heap.size W36 w') (by exact xk Try.func72) (carry17_any _ _ _ _ _ _ _ _ _ _ d.bl 16 W36 (own_byS own69) (own_byS own70) by75 (by omega) (by omega) he) ?_)
  rintro v78 W76 ⟨hO79, hb77⟩
  have z80 := hb77.size
  obtain ⟨A81, c82, rfl, y83⟩ := hO79.by_
  simp only [lay]
  refine lv (.slice A81 ((carry17 (d.proto == 17) (from17 d) (s ++ t) d.bl 16).length) c82) (by exact xa) ?_
  simp only [lay]
  refine wn ?_
  refine wp_ret ?_
  simp only [Exit.inBlock, Exit.then]
  have hu : (d.proto == 17) = false := by rw [show d.proto = 6 from by assumption]; rfl
  have e : body17 d s t = (carry17 (d.proto == 17) (from17 d) (s ++ t) d.bl 16, 0) := by
   unfold body17 two17
   try simp only [Nat.reduceAdd]
   repeat (first | rw [if_pos (by first | assumption | omega | exact ne_true_of_eq_false (by assumption))] | rw [if_neg (by first | assumption | omega | exact ne_true_of_eq_false (by assumption))])
   rw [hu]
  have b84 := bt b74 hb77
  exact bodyPost_ret (res_one Try.results42 rfl) rfl ⟨Ends17.ok e (hO79.more b74.size), b84⟩
 refine lv (.bool false) (by exact yqn) ?_
 simp only [lay]
 refine lv (.bool false) (by exact xa) ?_
 simp only [lay]
 refine wn ?_
 refine wp_cond_false (by exact rfl) ?_
 refine wp_sr ?_
 refine lv (.pointer (some ⟨g1, 6, none⟩)) (by exact xf 6 0 Try.underlying27) ?_
 simp only [lay]
 refine lv (.int .u8 d.proto) (by exact xc Try.underlying5 (has45.cell 6 rfl)) ?_
 simp only [lay]
 by_cases q85 : d.proto = 17
 case pos =>
  refine lv (.bool true) (by exact yq) ?_
  simp only [lay]
  refine lv (.bool true) (by exact xa) ?_
  simp only [lay]
  refine wn ?_
  refine wp_cond_true (by exact rfl) ?_
  refine wp_sr ?_
  refine lv (.pointer (some ⟨g1, 16, none⟩)) (by exact xf 16 0 Try.underlying27) ?_
  simp only [lay]
  refine lv (.slice p.bA d.bl.length p.bc) (by exact xc Try.underlying25 (has45.cell 16 rfl)) ?_
  simp only [lay]
  refine lv (.int .i64 (d.bl.length : Int)) (by exact xz Try.underlying25) ?_
  simp only [lay]
  by_cases q86 : (d.bl.length : Int) < 8
  case pos =>
   refine lv (.bool true) (by exact ex_lss (by exact rfl) (by exact rfl) (by exact rfl) (decide_eq_true (by first | assumption | omega | decide))) ?_
   simp only [lay]
   refine lz (ow_panic [{ v := .iface 111 (.agg #[.int .i64 173]), recovered := false }] (fun w' => W36 = w') (by exact xk Try.func35) (when17_yes 173 W36) ?_)
   rintro _ rfl
   have e : body17 d s t = ([], 173) := by
    unfold body17 two17
    try simp only [Nat.reduceAdd]
    repeat (first | rw [if_pos (by first | assumption | omega | exact ne_true_of_eq_false (by assumption))] | rw [if_neg (by first | assumption | omega | exact ne_true_of_eq_false (by assumption))])
   have b87 := bt b16 hb19
   have b88 := bt b87 hb34
   have l89 := lq b87 ge32
   have b90 := b88.trans (hb39.mono l89)
   exact ⟨rfl, Ends17.bad e (by decide), b90⟩
  refine lv (.bool false) (by exact ex_lss (by exact rfl) (by exact rfl) (by exact rfl) (decide_eq_false (by first | assumption | omega | decide))) ?_
  simp only [lay]
  refine lz (ow_same (.tuple #[]) (by exact xk Try.func35) (when17_no 173 W36) ?_)
  simp only [lay]
  refine wn ?_
  refine wp_seq ?_
  refine wp_sr ?_
  refine lv (.pointer (some ⟨g1, 16, none⟩)) (by exact xf 16 0 Try.underlying27) ?_
  simp only [lay]
  refine lv (.slice p.bA d.bl.length p.bc) (by exact xc Try.underlying25 (has45.cell 16 rfl)) ?_
  simp only [lay]
  by_cases q91 : d.bl.getD 6 0 = 0 ∧ d.bl.getD 7 0 = 0
  case pos =>
   have b92 := bt b16 hb19
   have b93 := bt b92 hb34
   have l94 := lq b92 ge32
   have b95 := b93.trans (hb39.mono l94)
   have by96 := yb.to b95
   refine lz (ow_same (.bool true) (by exact xk Try.func73) (by have := none17_any _ _ _ d.bl W36 by96 (by omega); rw [decide_eq_true (by first | assumption | omega)] at this; exact this) ?_)
   simp only [lay]
   refine lv (.bool false) (by exact ex_not (b := true) (by exact rfl) (by exact rfl)) ?_
   simp only [lay]
   refine wn ?_
   refine wp_cond_false (by exact rfl) ?_
   refine wp_skip ?_
   change Code.wp _ _ _ _ _
   refine wp_sr ?_
   refine lv (.pointer (some ⟨g1, 3, none⟩)) (by exact xf 3 0 Try.underlying27) ?_
   simp only [lay]
   refine lv (.bool d.mf) (by exact xc Try.underlying4 (has45.cell 3 rfl)) ?_
   simp only [lay]
   by_cases q97 : d.mf = true
   case pos =>
    rw [q97]
    refine lz (ow_panic [{ v := .iface 111 (.agg #[.int .i64 172]), recovered := false }] (fun w' => W36 = w') (by exact xk Try.func35) (when17_yes 172 W36) ?_)
    rintro _ rfl
    have e : body17 d s t = ([], 172) := by
     unfold body17 two17
     try simp only [Nat.reduceAdd]
     repeat (first | rw [if_pos (by first | assumption | omega | exact ne_true_of_eq_false (by assumption))] | rw [if_neg (by first | assumption | omega | exact ne_true_of_eq_false (by assumption))])
    exact ⟨rfl, Ends17.bad e (by decide), b95⟩
   replace q97 := eq_false_of_ne_true q97
   rw [q97]
   refine lz (ow_same (.tuple #[]) (by exact xk Try.func35) (when17_no 172 W36) ?_)
   simp only [lay]
   refine wn ?_
   refine wp_seq ?_
   refine rg_drawn W36.heap.size (by kernel_rfl) (Nat.le_refl _) ?_
   intro W98 hb99 hs100 hS101
   have z102 := hb99.size
   refine te 0 (.pointer (some ⟨g1, 16, none⟩)) hS101 rfl (by intro _ _; exact xf 16 0 Try.underlying27) ?_
   simp only [lay]
   refine te 1 (.slice p.bA d.bl.length p.bc) hS101 rfl (by intro _ h; exact xc Try.underlying25 ((has45.to h).cell 16 rfl)) ?_
   simp only [lay]
   obtain ⟨b103, o104, hA105⟩ := yb.form (k := 4) (by omega)
   refine te 2 (.pointer (some ⟨b103, o104 + 4, none⟩)) hS101 rfl (by intro _ _; exact xi 4 Try.underlying25 hA105) ?_
   simp only [lay]
   refine te 3 (.int .u8 (d.bl.getD 4 0)) hS101 rfl (by intro _ h; exact xc Try.underlying5 ((by96.to h).atE (k := 4) hA105 (by omega))) ?_
   simp only [lay]
   refine te 4 (.int .i64 (d.bl.getD 4 0)) hS101 rfl (by intro _ _; exact xv (conv_i64 5 3 .u8 (d.bl.getD 4 0) (by kernel_rfl) Try.underlying3 (in_rng6 (getD_byte yb.rng 4)) _)) ?_
   simp only [lay]
   refine te 5 (.int .i64 ((d.bl.getD 4 0) * 256)) hS101 rfl (by intro _ _; exact xb (w_shl64 _ _ (getD_byte yb.rng 4) _)) ?_
   simp only [lay]
   refine te 6 (.pointer (some ⟨g1, 16, none⟩)) hS101 rfl (by intro _ _; exact xf 16 0 Try.underlying27) ?_
   simp only [lay]
   refine te 7 (.slice p.bA d.bl.length p.bc) hS101 rfl (by intro _ h; exact xc Try.underlying25 ((has45.to h).cell 16 rfl)) ?_
   simp only [lay]
   refine te 8 (.pointer (some ⟨b103, o104 + 5, none⟩)) hS101 rfl (by intro _ _; exact xi 5 Try.underlying25 hA105) ?_
   simp only [lay]
   refine te 9 (.int .u8 (d.bl.getD 5 0)) hS101 rfl (by intro _ h; exact xc Try.underlying5 ((by96.to h).atE (k := 5) hA105 (by omega))) ?_
   simp only [lay]
   refine te 10 (.int .i64 (d.bl.getD 5 0)) hS101 rfl (by intro _ _; exact xv (conv_i64 5 3 .u8 (d.bl.getD 5 0) (by kernel_rfl) Try.underlying3 (in_rng6 (getD_byte yb.rng 5)) _)) ?_
   simp only [lay]
   refine te 11 (.int .i64 ((d.bl.getD 4 0) * 256 + d.bl.getD 5 0)) hS101 rfl (by intro _ _; exact xb (w_or64 _ _ _ (getD_byte yb.rng 4) (getD_byte yb.rng 5) _)) ?_
   simp only [lay]
   refine te 12 (.pointer (some ⟨g1, 16, none⟩)) hS101 rfl (by intro _ _; exact xf 16 0 Try.underlying27) ?_
   simp only [lay]
   refine te 13 (.slice p.bA d.bl.length p.bc) hS101 rfl (by intro _ h; exact xc Try.underlying25 ((has45.to h).cell 16 rfl)) ?_
   simp only [lay]
   refine te 14 (.int .i64 (d.bl.length : Int)) hS101 rfl (by intro _ _; exact xz Try.underlying25) ?_
   simp only [lay]
   by_cases q106 : (d.bl.getD 4 0) * 256 + d.bl.getD 5 0 = (d.bl.length : Int)
   case pos =>
    refine te 15 (.bool false) hS101 rfl (by intro _ _; exact neq_int_eq (by exact rfl) (by exact rfl) (by exact rfl) (by first | assumption | omega)) ?_
    simp only [lay]
    refine t1 16 rfl (ow_same (.tuple #[]) (by exact xk Try.func35) (when17_no 173 W98) ?_)
    refine ⟨hS101, ?_⟩
    simp only [lay]
    refine wpAnyH_done (by kernel_rfl) ?_ _
    change Code.wp _ _ _ _ _
    refine wp_sr ?_
    refine lv (.pointer (some ⟨g8, 0, none⟩)) (by exact xf 0 15 Try.underlying31) ?_
    simp only [lay]
    have b107 := bt hb19 hb34
    have l108 := lq hb19 ge32
    have b109 := b107.trans (hb39.mono l108)
    have b110 := bt b109 hb99
    have has111 := hg10.to b110
    refine lv (.agg (a16 s)) (by exact ex_loadAt (by exact rfl) (by exact rfl) (has111.loadIn (P := Try.prog) 0 (w16 s) (by kernel_rfl) 29 Try.underlying29 rfl (by kernel_rfl))) ?_
    simp only [lay]
    refine lv (.pointer (some ⟨g8, 16, none⟩)) (by exact xf 16 15 Try.underlying31) ?_
    simp only [lay]
    refine lv (.agg (a16 t)) (by exact ex_loadAt (by exact rfl) (by exact rfl) (has111.loadIn (P := Try.prog) 16 (w16 t) (by kernel_rfl) 29 Try.underlying29 rfl (by kernel_rfl))) ?_
    simp only [lay]
    refine lv (.pointer (some ⟨g1, 16, none⟩)) (by exact xf 16 0 Try.underlying27) ?_
    simp only [lay]
    have b112 := bt b44 hb99
    have has113 := hg3.to b112
    refine lv (.slice p.bA d.bl.length p.bc) (by exact xc Try.underlying25 (has113.cell 16 rfl)) ?_
    simp only [lay]
    refine lv (.int .i64 (d.bl.length : Int)) (by exact xz Try.underlying25) ?_
    simp only [lay]
    refine lz (ow_call (fun v w' => (∃ u, v = .tuple #[u, .int .i64 0] ∧ OwnB w' W98.heap.size u (pse6 s t (d.bl.length : Int) 17)) ∧ Below W98.heap.size W98 w') (by exact xk Try.func69) (pseudo6_l hE.sL hE.tL hE.s hE.t (by omega) (by omega) W98) ?_)
    rintro _ W114 ⟨⟨u116, rfl, hO117⟩, hb115⟩
    have z118 := hb115.size
    obtain ⟨A119, c120, rfl, y121⟩ := hO117.by_
    simp only [lay]
    refine lv (.tuple #[.slice A119 ((pse6 s t (d.bl.length : Int) 17).length) c120, .int .i64 0]) (by exact xm) ?_
    simp only [lay]
    refine lv (.slice A119 ((pse6 s t (d.bl.length : Int) 17).length) c120) (by exact xe) ?_
    simp only [lay]
    refine lv (.int .i64 0) (by exact xe) ?_
    simp only [lay]
    refine lv (.slice A119 ((pse6 s t (d.bl.length : Int) 17).length) c120) (by exact xa) ?_
    simp only [lay]
    refine lv (.int .i64 0) (by exact xa) ?_
    simp only [lay]
    refine wn ?_
    refine wp_sr ?_
    refine lv (.int .i64 0) (by exact xm) ?_
    simp only [lay]
    refine lz (ow_same (.tuple #[]) (by exact xk Try.func33) (must17_no W114) ?_)
    simp only [lay]
    refine wn ?_
    refine wp_sr ?_
    refine lv (.pointer (some ⟨g1, 16, none⟩)) (by exact xf 16 0 Try.underlying27) ?_
    simp only [lay]
    have b122 := bt b112 hb115
    have has123 := hg3.to b122
    refine lv (.slice p.bA d.bl.length p.bc) (by exact xc Try.underlying25 (has123.cell 16 rfl)) ?_
    simp only [lay]
    have b124 := bt b95 hb99
    have b125 := bt b124 hb115
    have by126 := yb.to b125
    refine lz (ow_call (fun v w' => OwnB w' W114.heap.size v d.bl ∧ Below W114.heap.size W114 w') (by exact xk Try.func51) (clone_n _ _ _ d.bl W114 by126 (by omega)) ?_)
    rintro v129 W127 ⟨hO130, hb128⟩
    have z131 := hb128.size
    obtain ⟨A132, c133, rfl, y134⟩ := hO130.by_
    simp only [lay]
    refine lv (.slice A132 d.bl.length c133) (by exact xa) ?_
    simp only [lay]
    refine wn ?_
    refine wp_seq ?_
    obtain ⟨g135, rfl, h136, h137⟩ := own_form hO130 (by first | omega | simp [D4.src])
    refine rg_drawn g135 (by kernel_rfl) (by omega) ?_
    intro W138 hb139 hs140 hS141
    have z142 := hb139.size
    refine te 0 (.slice (some ⟨g135, 0, none⟩) d.bl.length c133) hS141 rfl (by intro _ _; exact xm) ?_
    simp only [lay]
    have own143 := hO130.to hb139
    refine te 1 (.slice (some ⟨g135, 0 + 6, none⟩) (d.bl.length - 6) (c133 - 6)) hS141 rfl (by intro _ _; exact ex_slice (by exact rfl) (by exact rfl) (slice_tail (n := d.bl.length) (c := c133) (k := 6) Try.underlying25 (by kernel_rfl) (by omega) (own_byS own143).cap _)) ?_
    simp only [lay]
    refine te 2 (.slice A119 ((pse6 s t (d.bl.length : Int) 17).length) c120) hS141 rfl (by intro _ _; exact xm) ?_
    simp only [lay]
    refine te 3 (.slice (some ⟨g135, 0, none⟩) d.bl.length c133) hS141 rfl (by intro _ _; exact xm) ?_
    simp only [lay]
    refine t1 4 rfl (ow_build [.slice A119 ((pse6 s t (d.bl.length : Int) 17).length) c120, .slice (some ⟨g135, 0, none⟩) d.bl.length c133] rfl Try.underlying106 (by kernel_rfl) (by kernel_rfl) rfl (by decide) (by decide) (by first | rfl | (simp only [List.map_toArray, List.map_cons, List.map_nil] <;> rfl)) (by simp [Value.cells]) ?_)
    intro g144 W145 hg146 ge147 sz148 hb149
    have z150 := hb149.size
    refine ⟨(Below.trans hS141 (hb149.mono (Nat.le_trans (by omega) hS141.size))), ?_⟩
    have hS151 := (Below.trans hS141 (hb149.mono (Nat.le_trans (by omega) hS141.size)))
    simp only [lay]
    have b152 := bt hb128 hb139
    have b153 := bt b152 hb149
    have own154 := hO117.to b153
    have b155 := bt hb139 hb149
    have own156 := hO130.to b155
    refine t1 5 rfl (ow_call (fun v w' => (∃ q, v = .int .u16 q ∧ q = 65535 - sumw (pse6 s t (d.bl.length : Int) 17 ++ d.bl) ∧ 0 ≤ q ∧ q < 65536) ∧ Below W145.heap.size W145 w') (by exact xk Try.func75) (of2 hg146 (own_byS own154) (own_byS own156)) ?_)
    rintro _ W157 ⟨⟨q159, rfl, hq160, q0161, q1162⟩, hb158⟩
    have z163 := hb158.size
    refine ⟨(Below.trans hS151 (hb158.mono (Nat.le_trans (by omega) hS151.size))), ?_⟩
    have hS164 := (Below.trans hS151 (hb158.mono (Nat.le_trans (by omega) hS151.size)))
    simp only [lay]
    have b169 := bt b155 hb158
    have own170 := hO130.to b169
    refine t1 6 rfl (ow_call (fun v w' => v = .tuple #[] ∧ OwnB w' W114.heap.size (.slice (some ⟨g135, 0, none⟩) d.bl.length c133) (put17 d.bl (0 + 6) (fix17 true q159)) ∧ But6 g135 W157 w' ∧ Below g135 W157 w') (by exact xk Try.func74) ((store17_any true g135 (0 + 6) d.bl.length c133 (d.bl.length - 6) (c133 - 6) W114.heap.size q159 (by omega) _ W157 own170 (by omega) (by omega)).mono fun e w' h => ⟨_, h.1, rfl, h.2⟩) ?_)
    rintro _ W167 ⟨rfl, hO166, bs165, hb168⟩
    have has171 := hg146.to hb158
    have z172 := hb168.size
    have has173 := has171.but6 bs165 (by omega)
    refine ⟨(Below.trans hS164 hb168), ?_⟩
    have hS174 := (Below.trans hS164 hb168)
    simp only [lay]
    refine wpAnyH_done (by kernel_rfl) ?_ _
    change Code.wp _ _ _ _ _
    refine wp_sr ?_
    refine lv (.slice (some ⟨g135, 0, none⟩) d.bl.length c133) (by exact xm) ?_
    simp only [lay]
    refine lv (.slice (some ⟨g135, 0, none⟩) d.bl.length c133) (by exact xa) ?_
    simp only [lay]
    refine wn ?_
    refine wp_ret ?_
    simp only [Exit.inBlock, Exit.then]
    have e : body17 d s t = (put17 d.bl (0 + 6) (fix17 true q159), 0) := by
     unfold body17 two17
     try simp only [Nat.reduceAdd]
     repeat (first | rw [if_pos (by first | assumption | omega | exact ne_true_of_eq_false (by assumption))] | rw [if_neg (by first | assumption | omega | exact ne_true_of_eq_false (by assumption))])
     rw [hq160]
    have b175 := bt b125 hb128
    have b176 := bt b175 hb139
    have b177 := bt b176 hb149
    have b178 := bt b177 hb158
    have l179 := Nat.le_trans b125.size h136
    have b180 := b178.trans (hb168.mono l179)
    exact bodyPost_ret (res_one Try.results42 rfl) rfl ⟨Ends17.ok e (hO166.more b125.size), b180⟩
   refine te 15 (.bool true) hS101 rfl (by intro _ _; exact neq_int_ne (by exact rfl) (by exact rfl) (by exact rfl) (by first | assumption | omega)) ?_
   simp only [lay]
   refine t1 16 rfl (ow_panic [{ v := .iface 111 (.agg #[.int .i64 173]), recovered := false }] (fun w' => W98 = w') (by exact xk Try.func35) (when17_yes 173 W98) ?_)
   rintro _ rfl
   have e : body17 d s t = ([], 173) := by
    unfold body17 two17
    try simp only [Nat.reduceAdd]
    repeat (first | rw [if_pos (by first | assumption | omega | exact ne_true_of_eq_false (by assumption))] | rw [if_neg (by first | assumption | omega | exact ne_true_of_eq_false (by assumption))])
   have b181 := bt b95 hb99
   exact ⟨rfl, Ends17.bad e (by decide), b181⟩
  have b182 := bt b16 hb19
  have b183 := bt b182 hb34
  have l184 := lq b182 ge32
  have b185 := b183.trans (hb39.mono l184)
  have by186 := yb.to b185
  refine lz (ow_same (.bool false) (by exact xk Try.func73) (by have := none17_any _ _ _ d.bl W36 by186 (by omega); rw [decide_eq_false (by first | assumption | omega)] at this; exact this) ?_)
  simp only [lay]
  refine lv (.bool true) (by exact ex_not (b := false) (by exact rfl) (by exact rfl)) ?_
  simp only [lay]
  refine wn ?_
  refine wp_cond_true (by exact rfl) ?_
  refine wp_sr ?_
  refine lv (.agg #[.slice A23 ((from17 d).length) c24, .slice A25 ((s ++ t).length) c26, .bool (d.proto == 17)]) (by exact xo (hg37.load (P := Try.prog) 123 Try.underlying123 rfl (by kernel_rfl))) ?_
  simp only [lay]
  refine lv (.pointer (some ⟨g1, 16, none⟩)) (by exact xf 16 0 Try.underlying27) ?_
  simp only [lay]
  refine lv (.slice p.bA d.bl.length p.bc) (by exact xc Try.underlying25 (has45.cell 16 rfl)) ?_
  simp only [lay]
  have l187 : W18.heap.size ≤ g29 := Nat.le_of_eq ge32.symm
  have b188 := hb34.trans (hb39.mono l187)
  have own189 := hO27.to b188
  have own190 := hO28.to b188
  refine lz (ow_call (fun v w' => OwnB w' W36.heap.size v (carry17 (d.proto == 17) (from17 d) (s ++ t) d.bl 6) ∧ Below W36.heap.size W36 w') (by exact xk Try.func72) (carry17_any _ _ _ _ _ _ _ _ _ _ d.bl 6 W36 (own_byS own189) (own_byS own190) by186 (by omega) (by omega) he) ?_)
  rintro v193 W191 ⟨hO194, hb192⟩
  have z195 := hb192.size
  obtain ⟨A196, c197, rfl, y198⟩ := hO194.by_
  simp only [lay]
  refine lv (.slice A196 ((carry17 (d.proto == 17) (from17 d) (s ++ t) d.bl 6).length) c197) (by exact xa) ?_
  simp only [lay]
  refine wn ?_
  refine wp_ret ?_
  simp only [Exit.inBlock, Exit.then]
  have hu : (d.proto == 17) = true := by rw [show d.proto = 17 from by assumption]; rfl
  have e : body17 d s t = (carry17 (d.proto == 17) (from17 d) (s ++ t) d.bl 6, 0) := by
   unfold body17 two17
   try simp only [Nat.reduceAdd]
   repeat (first | rw [if_pos (by first | assumption | omega | exact ne_true_of_eq_false (by assumption))] | rw [if_neg (by first | assumption | omega | exact ne_true_of_eq_false (by assumption))])
   rw [hu]
  have b199 := bt b185 hb192
  exact bodyPost_ret (res_one Try.results42 rfl) rfl ⟨Ends17.ok e (hO194.more b185.size), b199⟩
 refine lv (.bool false) (by exact yqn) ?_
 simp only [lay]
 refine lv (.bool false) (by exact xa) ?_
 simp only [lay]
 refine wn ?_
 refine wp_cond_false (by exact rfl) ?_
 refine wp_skip ?_
 change Code.wp _ _ _ _ _
 refine wp_sr ?_
 refine lv (.pointer (some ⟨g1, 16, none⟩)) (by exact xf 16 0 Try.underlying27) ?_
 simp only [lay]
 refine lv (.slice p.bA d.bl.length p.bc) (by exact xc Try.underlying25 (has45.cell 16 rfl)) ?_
 simp only [lay]
 have b200 := bt b16 hb19
 have b201 := bt b200 hb34
 have l202 := lq b200 ge32
 have b203 := b201.trans (hb39.mono l202)
 have by204 := yb.to b203
 refine lz (ow_call (fun v w' => OwnB w' W36.heap.size v d.bl ∧ Below W36.heap.size W36 w') (by exact xk Try.func51) (clone_n _ _ _ d.bl W36 by204 (by omega)) ?_)
 rintro v207 W205 ⟨hO208, hb206⟩
 have z209 := hb206.size
 obtain ⟨A210, c211, rfl, y212⟩ := hO208.by_
 simp only [lay]
 refine lv (.slice A210 d.bl.length c211) (by exact xa) ?_
 simp only [lay]
 refine wn ?_
 refine wp_ret ?_
 try simp only [Exit.then]
 have e : body17 d s t = (d.bl, 0) := by
  unfold body17 two17
  try simp only [Nat.reduceAdd]
  repeat (first | rw [if_pos (by first | assumption | omega | exact ne_true_of_eq_false (by assumption))] | rw [if_neg (by first | assumption | omega | exact ne_true_of_eq_false (by assumption))])
 have b213 := bt b203 hb206
 exact bodyPost_ret (res_one Try.results42 rfl) rfl ⟨Ends17.ok e (hO208.more b203.size), b213⟩
end Go.Proofs.Ytijnifbpbgckgaa
