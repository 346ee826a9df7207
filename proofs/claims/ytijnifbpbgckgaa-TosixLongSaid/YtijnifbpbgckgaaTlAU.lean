/-
  Lemmas and walks for the row of TosixLong (part 21 of 37).
-/
import Derived.Test.YtijnifbpbgckgaaTlAG
import Derived.Test.YtijnifbpbgckgaaTlAT
set_option linter.unusedVariables false
set_option linter.unusedSimpArgs false
namespace Go.Proofs.Ytijnifbpbgckgaa
open Go.RowKit Go.Shelf
attribute [local irreducible] wpList Code.wp Oper.wp wpOp wpAnyH

theorem getD_set_ne {l : List Int} {i j : Nat} (h : i ≠ j) (x : Int) : (l.set i x).getD j 0 = l.getD j 0 := by simp [List.getD_eq_getElem?_getD, List.getElem?_set, h]
theorem take2_set {l : List Int} (h : 2 ≤ l.length) (x : Int) : (l.set 0 x).take 2 = [x, l.getD 1 0] := by
 match l, h with
 | a :: b :: r, _ => rfl
theorem fix17_f (n : Int) : fix17 false n = n := by simp [fix17]
theorem told17_len (d : D4) (s t : List Int) (n : Int) : (told17 d s t n).length = d.bl.length := by
 unfold told17
 repeat' split
 all_goals simp [carry17_len, put17_len]

set_option maxRecDepth 100000 in
set_option maxHeartbeats 8000000 in
theorem told17_any (d : D4) (p : W4) (s t : List Int) (hE : E6ok s t) (n : Int) (hn : 0 ≤ n ∧ n < 65536) (w : World) (hR : Rd4 w.heap.size w d p) (hm : d.bl.length ≤ 65535) :
  Calls Try.prog 55 #[.agg (d.cells p), .agg (ends6 s t), .int .i64 n] w fun e w' => ∃ v, e = .returned v ∧ OwnB w' w.heap.size v (told17 d s t n) ∧ Below w.heap.size w w' := by
 have sL := hE.sL
 have tL := hE.tL
 have he : (from17 d).length = (s ++ t).length ∧ (s ++ t).length % 2 = 0 := by rw [from17_len, List.length_append, sL, tL]; decide
 have hlb := hR.body.len
 have yo := hR.opt
 have yb := hR.body
 go_enter Try.func55, Try.ntmps55
 refine wp_sr ?_
 refine lz (ow_box 27 (.tmp 0) _ rfl rfl ?_)
 intro g1 W2 hg3 ge4 sz5 hb6
 have z7 := hb6.size
 simp only [lay]
 refine lz (ow_box 31 (.tmp 1) _ rfl rfl ?_)
 intro g8 W9 hg10 ge11 sz12 hb13
 have z14 := hb13.size
 simp only [lay]
 refine lv (.slice none 0 0) (by exact xa) ?_
 simp only [lay]
 refine wn ?_
 refine wp_seq ?_
 refine rg_drawn W9.heap.size (by kernel_rfl) (Nat.le_refl _) ?_
 intro W15 hb16 hs17 hS18
 have z19 := hb16.size
 refine wpAnyH_join (fun a W => ∃ (g51 : Nat) (A47 : Option Addr) (c48 : Nat) (A31 : Option Addr) (c32 : Nat) (A33 : Option Addr) (c34 : Nat), a = ⟨#[.agg (d.cells p), .agg (ends6 s t), .int .i64 n, .pointer (some ⟨g1, 0, none⟩), .pointer (some ⟨g8, 0, none⟩), undef, .slice none 0 0, .pointer (some ⟨g51, 0, none⟩), .slice A47 d.bl.length c48, undef, undef, undef, undef, .agg (d.cells p), .agg (ends6 s t), .agg #[.slice A31 ((from17 d).length) c32, .slice A33 ((s ++ t).length) c34, .bool (d.proto == 17)], .pointer (some ⟨g1, 16, none⟩), .slice p.bA d.bl.length p.bc, .slice A47 d.bl.length c48, undef, undef, undef, undef, undef, undef, undef, undef, undef, undef, undef, undef, undef, undef, undef, undef, undef, undef, undef, undef, undef, undef, undef, undef, undef, undef, undef, undef, undef, undef, undef, undef, undef, undef, undef, undef, undef, undef, undef, undef, undef, undef, undef, undef, undef, undef, undef, undef, undef, undef, undef, undef, undef, undef, undef, undef, undef, undef, undef, undef, undef, undef, undef, undef, undef, undef, undef, undef, undef, undef, undef, undef, undef, undef, undef, undef, undef, undef, undef, undef, undef, undef, undef, undef, undef, undef, undef, undef, undef, undef, undef, undef, undef, undef], []⟩ ∧ Below W9.heap.size W9 W ∧ Has W g51 (.cells #[.slice A31 ((from17 d).length) c32, .slice A33 ((s ++ t).length) c34, .bool (d.proto == 17)] 123 (0, 0)) ∧ W9.heap.size ≤ g51 ∧ OwnB W W9.heap.size (.slice A47 d.bl.length c48) d.bl ∧ OwnB W W9.heap.size (.slice A31 ((from17 d).length) c32) (from17 d) ∧ OwnB W W9.heap.size (.slice A33 ((s ++ t).length) c34) (s ++ t)) (fun hk66 => ?_) ?_
 case refine_1 =>
  have has67 := hg3.to hb13
  refine te 0 (.agg (d.cells p)) hS18 rfl (by intro _ h; exact xo ((has67.to h).load (P := Try.prog) 27 Try.underlying27 rfl (by kernel_rfl))) ?_
  simp only [lay]
  refine te 1 (.agg (ends6 s t)) hS18 rfl (by intro _ h; exact xo ((hg10.to h).load (P := Try.prog) 31 Try.underlying31 rfl (by kernel_rfl))) ?_
  simp only [lay]
  refine te 3 (.pointer (some ⟨g1, 16, none⟩)) hS18 rfl (by intro _ _; exact xf 16 0 Try.underlying27) ?_
  simp only [lay]
  refine te 4 (.slice p.bA d.bl.length p.bc) hS18 rfl (by intro _ h; exact xc Try.underlying25 ((has67.to h).cell 16 rfl)) ?_
  simp only [lay]
  refine tk_two (i := 2) (j := 6) (by kernel_rfl) ?L68 ?L69
  case L68 =>
   have b70 := bt hb6 hb13
   have b71 := bt b70 hb16
   have rd72 := hR.to b71
   refine rs (i := 2) rfl (by kernel_rfl) (ow_call (fun v w' => Change17 W15.heap.size w' d s t v ∧ Below W15.heap.size W15 w') (by exact xk Try.func71) (changed17_any d _ s t hE W15 rd72) ?_)
   rintro v75 W73 ⟨hv76, hb74⟩
   have z77 := hb74.size
   obtain ⟨A78, c79, A80, c81, rfl, hO82, hO83⟩ := hv76
   refine ⟨(Below.trans hS18 (hb74.mono hS18.size)), ?_⟩
   have hS84 := (Below.trans hS18 (hb74.mono hS18.size))
   simp only [lay]
   refine tk_two (i := 5) (j := 6) (by kernel_rfl) ?L85 ?L86
   case L85 =>
    have b87 := bt b71 hb74
    have by88 := yb.to b87
    refine rs (i := 5) rfl (by kernel_rfl) (ow_call (fun v w' => OwnB w' W73.heap.size v d.bl ∧ Below W73.heap.size W73 w') (by exact xk Try.func51) (clone_n _ _ _ d.bl W73 by88 (by omega)) ?_)
    rintro v91 W89 ⟨hO92, hb90⟩
    have z93 := hb90.size
    obtain ⟨A94, c95, rfl, y96⟩ := hO92.by_
    refine ⟨(Below.trans hS84 (hb90.mono hS84.size)), ?_⟩
    have hS97 := (Below.trans hS84 (hb90.mono hS84.size))
    simp only [lay]
    refine t1 6 rfl (oa #[.slice none 0 0, .slice none 0 0, .bool false] ?_)
    intro g98 W99 hg100 ge101 sz102 hb103
    have z104 := hb103.size
    refine ⟨(Below.trans hS97 (hb103.mono hS97.size)), ?_⟩
    have hS105 := (Below.trans hS97 (hb103.mono hS97.size))
    simp only [lay]
    refine t1 7 rfl (ow_st 123 (.tmp 7) (.tmp 15) g98 #[.slice A78 ((from17 d).length) c79, .slice A80 ((s ++ t).length) c81, .bool (d.proto == 17)] _ _ rfl (by exact rfl) (by exact rfl) hg100 (by kernel_rfl) rfl (by kernel_rfl) ?_)
    intro W106 hg107 bs108 hb109
    have z110 := hb109.size
    refine ⟨(Below.trans hS105 (hb109.mono (by omega))), ?_⟩
    have hS111 := (Below.trans hS105 (hb109.mono (by omega)))
    simp only [lay]
    refine te 8 (.slice A94 d.bl.length c95) hS111 rfl (by intro _ _; exact xa) ?_
    simp only [lay]
    refine wpAnyH_done (by kernel_rfl) ?_ _
    have b112 := bt hb16 hb74
    have b113 := bt b112 hb90
    have b114 := bt b113 hb103
    have l115 := lq b113 ge101
    have b116 := b114.trans (hb109.mono l115)
    have l117 : W89.heap.size ≤ g98 := Nat.le_of_eq ge101.symm
    have b118 := hb103.trans (hb109.mono l117)
    have own119 := hO92.to b118
    have b120 := bt hb90 hb103
    have l121 := lq hb90 ge101
    have b122 := b120.trans (hb109.mono l121)
    have own123 := hO82.to b122
    have own124 := hO83.to b122
    exact hk66 _ _ ⟨g98, A94, c95, A78, c79, A80, c81, rfl, b116, hg107, (by omega), (own119.more b112.size), (own123.more hb16.size), (own124.more hb16.size)⟩
   case L86 =>
    refine rs (i := 6) rfl (by kernel_rfl) (oa #[.slice none 0 0, .slice none 0 0, .bool false] ?_)
    intro g125 W126 hg127 ge128 sz129 hb130
    have z131 := hb130.size
    refine ⟨(Below.trans hS84 (hb130.mono hS84.size)), ?_⟩
    have hS132 := (Below.trans hS84 (hb130.mono hS84.size))
    simp only [lay]
    have b133 := bt b71 hb74
    have b134 := bt b133 hb130
    have by135 := yb.to b134
    refine t1 5 rfl (ow_call (fun v w' => OwnB w' W126.heap.size v d.bl ∧ Below W126.heap.size W126 w') (by exact xk Try.func51) (clone_n _ _ _ d.bl W126 by135 (by omega)) ?_)
    rintro v138 W136 ⟨hO139, hb137⟩
    have z140 := hb137.size
    obtain ⟨A141, c142, rfl, y143⟩ := hO139.by_
    refine ⟨(Below.trans hS132 (hb137.mono hS132.size)), ?_⟩
    have hS144 := (Below.trans hS132 (hb137.mono hS132.size))
    simp only [lay]
    have has149 := hg127.to hb137
    refine t1 7 rfl (ow_st 123 (.tmp 7) (.tmp 15) g125 #[.slice A78 ((from17 d).length) c79, .slice A80 ((s ++ t).length) c81, .bool (d.proto == 17)] _ _ rfl (by exact rfl) (by exact rfl) has149 (by kernel_rfl) rfl (by kernel_rfl) ?_)
    intro W145 hg146 bs147 hb148
    have z150 := hb148.size
    have own151 := hO139.but6 bs147 (by omega)
    refine ⟨(Below.trans hS144 (hb148.mono (by omega))), ?_⟩
    have hS152 := (Below.trans hS144 (hb148.mono (by omega)))
    simp only [lay]
    refine te 8 (.slice A141 d.bl.length c142) hS152 rfl (by intro _ _; exact xa) ?_
    simp only [lay]
    refine wpAnyH_done (by kernel_rfl) ?_ _
    have b153 := bt hb16 hb74
    have b154 := bt b153 hb130
    have b155 := bt b154 hb137
    have l156 := lq b153 ge128
    have b157 := b155.trans (hb148.mono l156)
    have b158 := bt hb130 hb137
    have l159 : W73.heap.size ≤ g125 := Nat.le_of_eq ge128.symm
    have b160 := b158.trans (hb148.mono l159)
    have own161 := hO82.to b160
    have own162 := hO83.to b160
    exact hk66 _ _ ⟨g125, A141, c142, A78, c79, A80, c81, rfl, b157, hg146, (by omega), (own151.more b154.size), (own161.more hb16.size), (own162.more hb16.size)⟩
  case L69 =>
   refine rs (i := 6) rfl (by kernel_rfl) (oa #[.slice none 0 0, .slice none 0 0, .bool false] ?_)
   intro g163 W164 hg165 ge166 sz167 hb168
   have z169 := hb168.size
   refine ⟨(Below.trans hS18 (hb168.mono hS18.size)), ?_⟩
   have hS170 := (Below.trans hS18 (hb168.mono hS18.size))
   simp only [lay]
   have b171 := bt hb6 hb13
   have b172 := bt b171 hb16
   have b173 := bt b172 hb168
   have rd174 := hR.to b173
   refine t1 2 rfl (ow_call (fun v w' => Change17 W164.heap.size w' d s t v ∧ Below W164.heap.size W164 w') (by exact xk Try.func71) (changed17_any d _ s t hE W164 rd174) ?_)
   rintro v177 W175 ⟨hv178, hb176⟩
   have z179 := hb176.size
   obtain ⟨A180, c181, A182, c183, rfl, hO184, hO185⟩ := hv178
   refine ⟨(Below.trans hS170 (hb176.mono hS170.size)), ?_⟩
   have hS186 := (Below.trans hS170 (hb176.mono hS170.size))
   simp only [lay]
   have b187 := bt b173 hb176
   have by188 := yb.to b187
   refine t1 5 rfl (ow_call (fun v w' => OwnB w' W175.heap.size v d.bl ∧ Below W175.heap.size W175 w') (by exact xk Try.func51) (clone_n _ _ _ d.bl W175 by188 (by omega)) ?_)
   rintro v191 W189 ⟨hO192, hb190⟩
   have z193 := hb190.size
   obtain ⟨A194, c195, rfl, y196⟩ := hO192.by_
   refine ⟨(Below.trans hS186 (hb190.mono hS186.size)), ?_⟩
   have hS197 := (Below.trans hS186 (hb190.mono hS186.size))
   simp only [lay]
   have b202 := bt hb176 hb190
   have has203 := hg165.to b202
   refine t1 7 rfl (ow_st 123 (.tmp 7) (.tmp 15) g163 #[.slice A180 ((from17 d).length) c181, .slice A182 ((s ++ t).length) c183, .bool (d.proto == 17)] _ _ rfl (by exact rfl) (by exact rfl) has203 (by kernel_rfl) rfl (by kernel_rfl) ?_)
   intro W198 hg199 bs200 hb201
   have own204 := hO184.to hb190
   have own205 := hO185.to hb190
   have z206 := hb201.size
   have own207 := own204.but6 bs200 (by omega)
   have own208 := own205.but6 bs200 (by omega)
   have own209 := hO192.but6 bs200 (by omega)
   refine ⟨(Below.trans hS197 (hb201.mono (by omega))), ?_⟩
   have hS210 := (Below.trans hS197 (hb201.mono (by omega)))
   simp only [lay]
   refine te 8 (.slice A194 d.bl.length c195) hS210 rfl (by intro _ _; exact xa) ?_
   simp only [lay]
   refine wpAnyH_done (by kernel_rfl) ?_ _
   have b211 := bt hb16 hb168
   have b212 := bt b211 hb176
   have b213 := bt b212 hb190
   have l214 := lq hb16 ge166
   have b215 := b213.trans (hb201.mono l214)
   exact hk66 _ _ ⟨g163, A194, c195, A180, c181, A182, c183, rfl, b215, hg199, (by omega), (own209.more b212.size), (own207.more b211.size), (own208.more b211.size)⟩
 rintro _ W65 ⟨g51, A47, c48, A31, c32, A33, c34, rfl, hb216, hg217, l218, hO219, hO220, hO221⟩
 have z222 := hb216.size
 change Code.wp _ _ _ _ _
 refine wp_seq ?_
 refine wp_block ?_
 refine wp_sr ?_
 refine lv (.pointer (some ⟨g1, 4, none⟩)) (by exact xf 4 0 Try.underlying27) ?_
 simp only [lay]
 have b223 := bt hb13 hb216
 have has224 := hg3.to b223
 refine lv (.int .i64 d.off) (by exact xc Try.underlying3 (has224.cell 4 rfl)) ?_
 simp only [lay]
 by_cases q225 : d.off > 0
 case pos =>
  refine lv (.bool true) (by exact ex_gtr (by exact rfl) (by exact rfl) (by exact rfl) (decide_eq_true (by first | assumption | omega | decide))) ?_
  simp only [lay]
  refine lv (.bool true) (by exact xa) ?_
  simp only [lay]
  refine wn ?_
  refine wp_cond_true (by exact rfl) ?_
  refine wp_sr ?_
  refine lv (.slice A47 d.bl.length c48) (by exact xm) ?_
  simp only [lay]
  refine lv (.slice A47 d.bl.length c48) (by exact xa) ?_
  simp only [lay]
  refine wn ?_
  refine wp_ret ?_
  simp only [Exit.inBlock, Exit.then]
  have e : told17 d s t n = d.bl := by
   unfold told17
   repeat (first | rw [if_pos (by first | assumption | omega | exact ne_true_of_eq_false (by assumption))] | rw [if_neg (by first | assumption | omega | exact ne_true_of_eq_false (by assumption))])
  have b226 := bt hb6 hb13
  have b227 := bt b226 hb216
  exact bodyPost_ret (res_one Try.results55 rfl) rfl ⟨_, rfl, by rw [e]; exact (hO219.more b226.size), b227⟩
 refine lv (.bool false) (by exact ex_gtr (by exact rfl) (by exact rfl) (by exact rfl) (decide_eq_false (by first | assumption | omega | decide))) ?_
 simp only [lay]
 refine lv (.bool false) (by exact xa) ?_
 simp only [lay]
 refine wn ?_
 refine wp_cond_false (by exact rfl) ?_
 refine wp_sr ?_
 refine lv (.pointer (some ⟨g1, 6, none⟩)) (by exact xf 6 0 Try.underlying27) ?_
 simp only [lay]
 refine lv (.int .u8 d.proto) (by exact xc Try.underlying5 (has224.cell 6 rfl)) ?_
 simp only [lay]
 by_cases q228 : d.proto = 6
 case pos =>
  refine lv (.bool true) (by exact yq) ?_
  simp only [lay]
  refine lv (.bool true) (by exact xm) ?_
  simp only [lay]
  refine lv (.slice A47 d.bl.length c48) (by exact xm) ?_
  simp only [lay]
  refine lv (.int .i64 (d.bl.length : Int)) (by exact xz Try.underlying25) ?_
  simp only [lay]
  by_cases q229 : (d.bl.length : Int) ≥ 18
  case pos =>
   refine lv (.bool true) (by exact ex_geq (by exact rfl) (by exact rfl) (by exact rfl) (decide_eq_true (by first | assumption | omega | decide))) ?_
   simp only [lay]
   refine lv (.bool true) (by exact xp (b := true)) ?_
   simp only [lay]
   refine lv (.bool true) (by exact xa) ?_
   simp only [lay]
   refine wn ?_
   refine wp_cond_true (by exact rfl) ?_
   refine wp_sr ?_
   refine lv (.agg #[.slice A31 ((from17 d).length) c32, .slice A33 ((s ++ t).length) c34, .bool (d.proto == 17)]) (by exact xo (hg217.load (P := Try.prog) 123 Try.underlying123 rfl (by kernel_rfl))) ?_
   simp only [lay]
   refine lv (.slice A47 d.bl.length c48) (by exact xm) ?_
   simp only [lay]
   refine lz (ow_call (fun v w' => OwnB w' W65.heap.size v (carry17 (d.proto == 17) (from17 d) (s ++ t) d.bl 16) ∧ Below W65.heap.size W65 w') (by exact xk Try.func72) (carry17_any _ _ _ _ _ _ _ _ _ _ d.bl 16 W65 (own_byS hO220) (own_byS hO221) (own_byS hO219) (by omega) (by omega) he) ?_)
   rintro v232 W230 ⟨hO233, hb231⟩
   have z234 := hb231.size
   obtain ⟨A235, c236, rfl, y237⟩ := hO233.by_
   simp only [lay]
   refine lv (.slice A235 ((carry17 (d.proto == 17) (from17 d) (s ++ t) d.bl 16).length) c236) (by exact xa) ?_
   simp only [lay]
   refine wn ?_
   refine wp_ret ?_
   simp only [Exit.inBlock, Exit.then]
   have hu : (d.proto == 17) = false := by rw [show d.proto = 6 from by assumption]; rfl
   have e : told17 d s t n = carry17 (d.proto == 17) (from17 d) (s ++ t) d.bl 16 := by
    unfold told17
    repeat (first | rw [if_pos (by first | assumption | omega | exact ne_true_of_eq_false (by assumption))] | rw [if_neg (by first | assumption | omega | exact ne_true_of_eq_false (by assumption))])
    rw [hu]
   have b238 := bt hb6 hb13
   have b239 := bt b238 hb216
   have b240 := bt b239 hb231
   exact bodyPost_ret (res_one Try.results55 rfl) rfl ⟨_, rfl, by rw [e]; exact (hO233.more b239.size), b240⟩
  refine lv (.bool false) (by exact ex_geq (by exact rfl) (by exact rfl) (by exact rfl) (decide_eq_false (by first | assumption | omega | decide))) ?_
  simp only [lay]
  refine lv (.bool false) (by exact xp (b := true)) ?_
  simp only [lay]
  refine lv (.bool false) (by exact xa) ?_
  simp only [lay]
  refine wn ?_
  refine wp_cond_false (by exact rfl) ?_
  refine wp_sr ?_
  refine lv (.pointer (some ⟨g1, 6, none⟩)) (by exact xf 6 0 Try.underlying27) ?_
  simp only [lay]
  refine lv (.int .u8 d.proto) (by exact xc Try.underlying5 (has224.cell 6 rfl)) ?_
  simp only [lay]
  refine lv (.bool false) (by exact yqn) ?_
  simp only [lay]
  refine lv (.bool false) (by exact xm) ?_
  simp only [lay]
  refine lzn ?_
  simp only [lay]
  refine lzn ?_
  simp only [lay]
  refine lzn ?_
  simp only [lay]
  refine lv (.bool false) (by exact xp (b := false)) ?_
  simp only [lay]
  refine lv (.bool false) (by exact xm) ?_
  simp only [lay]
  refine lzn ?_
  simp only [lay]
  refine lzn ?_
  simp only [lay]
  refine lzn ?_
  simp only [lay]
  refine lv (.bool false) (by exact xp (b := false)) ?_
  simp only [lay]
  refine lv (.bool false) (by exact xa) ?_
  simp only [lay]
  refine wn ?_
  refine wp_cond_false (by exact rfl) ?_
  refine wp_sr ?_
  refine lv (.pointer (some ⟨g1, 6, none⟩)) (by exact xf 6 0 Try.underlying27) ?_
  simp only [lay]
  refine lv (.int .u8 d.proto) (by exact xc Try.underlying5 (has224.cell 6 rfl)) ?_
  simp only [lay]
  refine lv (.bool true) (by exact neq_int_ne (by exact rfl) (by exact rfl) (by exact rfl) (by first | assumption | omega)) ?_
  simp only [lay]
  refine lv (.bool true) (by exact xm) ?_
  simp only [lay]
  refine lzn ?_
  simp only [lay]
  refine lzn ?_
  simp only [lay]
  refine lzn ?_
  simp only [lay]
  refine lv (.bool true) (by exact xp (b := true)) ?_
  simp only [lay]
  refine lv (.bool true) (by exact xa) ?_
  simp only [lay]
  refine wn ?_
  refine wp_cond_true (by exact rfl) ?_
  refine wp_sr ?_
  refine lv (.slice A47 d.bl.length c48) (by exact xm) ?_
  simp only [lay]
  refine lv (.slice A47 d.bl.length c48) (by exact xa) ?_
  simp only [lay]
  refine wn ?_
  refine wp_ret ?_
  simp only [Exit.inBlock, Exit.then]
  have e : told17 d s t n = d.bl := by
   unfold told17
   repeat (first | rw [if_pos (by first | assumption | omega | exact ne_true_of_eq_false (by assumption))] | rw [if_neg (by first | assumption | omega | exact ne_true_of_eq_false (by assumption))])
  have b243 := bt hb6 hb13
  have b244 := bt b243 hb216
  exact bodyPost_ret (res_one Try.results55 rfl) rfl ⟨_, rfl, by rw [e]; exact (hO219.more b243.size), b244⟩
 refine lv (.bool false) (by exact yqn) ?_
 simp only [lay]
 refine lv (.bool false) (by exact xm) ?_
 simp only [lay]
 refine lzn ?_
 simp only [lay]
 refine lzn ?_
 simp only [lay]
 refine lzn ?_
 simp only [lay]
 refine lv (.bool false) (by exact xp (b := false)) ?_
 simp only [lay]
 refine lv (.bool false) (by exact xa) ?_
 simp only [lay]
 refine wn ?_
 refine wp_cond_false (by exact rfl) ?_
 refine wp_sr ?_
 refine lv (.pointer (some ⟨g1, 6, none⟩)) (by exact xf 6 0 Try.underlying27) ?_
 simp only [lay]
 refine lv (.int .u8 d.proto) (by exact xc Try.underlying5 (has224.cell 6 rfl)) ?_
 simp only [lay]
 by_cases q245 : d.proto = 17
 case pos =>
  refine lv (.bool true) (by exact yq) ?_
  simp only [lay]
  refine lv (.bool true) (by exact xm) ?_
  simp only [lay]
  refine lv (.slice A47 d.bl.length c48) (by exact xm) ?_
  simp only [lay]
  refine lv (.int .i64 (d.bl.length : Int)) (by exact xz Try.underlying25) ?_
  simp only [lay]
  by_cases q246 : (d.bl.length : Int) ≥ 8
  case pos =>
   refine lv (.bool true) (by exact ex_geq (by exact rfl) (by exact rfl) (by exact rfl) (decide_eq_true (by first | assumption | omega | decide))) ?_
   simp only [lay]
   refine lv (.bool true) (by exact xp (b := true)) ?_
   simp only [lay]
   refine lv (.bool true) (by exact xm) ?_
   simp only [lay]
   refine lv (.slice A47 d.bl.length c48) (by exact xm) ?_
   simp only [lay]
   by_cases q247 : d.bl.getD 6 0 = 0 ∧ d.bl.getD 7 0 = 0
   case pos =>
    refine lz (ow_same (.bool true) (by exact xk Try.func73) (by have := none17_any _ _ _ d.bl W65 (own_byS hO219) (by omega); rw [decide_eq_true (by first | assumption | omega)] at this; exact this) ?_)
    simp only [lay]
    refine lv (.bool false) (by exact ex_not (b := true) (by exact rfl) (by exact rfl)) ?_
    simp only [lay]
    refine lv (.bool false) (by exact xp (b := true)) ?_
    simp only [lay]
    refine lv (.bool false) (by exact xa) ?_
    simp only [lay]
    refine wn ?_
    refine wp_cond_false (by exact rfl) ?_
    refine wp_sr ?_
    refine lv (.pointer (some ⟨g1, 6, none⟩)) (by exact xf 6 0 Try.underlying27) ?_
    simp only [lay]
    refine lv (.int .u8 d.proto) (by exact xc Try.underlying5 (has224.cell 6 rfl)) ?_
    simp only [lay]
    refine lv (.bool true) (by exact neq_int_ne (by exact rfl) (by exact rfl) (by exact rfl) (by first | assumption | omega)) ?_
    simp only [lay]
    refine lv (.bool true) (by exact xm) ?_
    simp only [lay]
    refine lzn ?_
    simp only [lay]
    refine lzn ?_
    simp only [lay]
    refine lzn ?_
    simp only [lay]
    refine lv (.bool true) (by exact xp (b := true)) ?_
    simp only [lay]
    refine lv (.bool true) (by exact xa) ?_
    simp only [lay]
    refine wn ?_
    refine wp_cond_true (by exact rfl) ?_
    refine wp_sr ?_
    refine lv (.slice A47 d.bl.length c48) (by exact xm) ?_
    simp only [lay]
    refine lv (.slice A47 d.bl.length c48) (by exact xa) ?_
    simp only [lay]
    refine wn ?_
    refine wp_ret ?_
    simp only [Exit.inBlock, Exit.then]
    have e : told17 d s t n = d.bl := by
     unfold told17
     repeat (first | rw [if_pos (by first | assumption | omega | exact ne_true_of_eq_false (by assumption))] | rw [if_neg (by first | assumption | omega | exact ne_true_of_eq_false (by assumption))])
    have b249 := bt hb6 hb13
    have b250 := bt b249 hb216
    exact bodyPost_ret (res_one Try.results55 rfl) rfl ⟨_, rfl, by rw [e]; exact (hO219.more b249.size), b250⟩
   refine lz (ow_same (.bool false) (by exact xk Try.func73) (by have := none17_any _ _ _ d.bl W65 (own_byS hO219) (by omega); rw [decide_eq_false (by first | assumption | omega)] at this; exact this) ?_)
   simp only [lay]
   refine lv (.bool true) (by exact ex_not (b := false) (by exact rfl) (by exact rfl)) ?_
   simp only [lay]
   refine lv (.bool true) (by exact xp (b := true)) ?_
   simp only [lay]
   refine lv (.bool true) (by exact xa) ?_
   simp only [lay]
   refine wn ?_
   refine wp_cond_true (by exact rfl) ?_
   refine wp_sr ?_
   refine lv (.agg #[.slice A31 ((from17 d).length) c32, .slice A33 ((s ++ t).length) c34, .bool (d.proto == 17)]) (by exact xo (hg217.load (P := Try.prog) 123 Try.underlying123 rfl (by kernel_rfl))) ?_
   simp only [lay]
   refine lv (.slice A47 d.bl.length c48) (by exact xm) ?_
   simp only [lay]
   refine lz (ow_call (fun v w' => OwnB w' W65.heap.size v (carry17 (d.proto == 17) (from17 d) (s ++ t) d.bl 6) ∧ Below W65.heap.size W65 w') (by exact xk Try.func72) (carry17_any _ _ _ _ _ _ _ _ _ _ d.bl 6 W65 (own_byS hO220) (own_byS hO221) (own_byS hO219) (by omega) (by omega) he) ?_)
   rintro v253 W251 ⟨hO254, hb252⟩
   have z255 := hb252.size
   obtain ⟨A256, c257, rfl, y258⟩ := hO254.by_
   simp only [lay]
   refine lv (.slice A256 ((carry17 (d.proto == 17) (from17 d) (s ++ t) d.bl 6).length) c257) (by exact xa) ?_
   simp only [lay]
   refine wn ?_
   refine wp_ret ?_
   simp only [Exit.inBlock, Exit.then]
   have hu : (d.proto == 17) = true := by rw [show d.proto = 17 from by assumption]; rfl
   have e : told17 d s t n = carry17 (d.proto == 17) (from17 d) (s ++ t) d.bl 6 := by
    unfold told17
    repeat (first | rw [if_pos (by first | assumption | omega | exact ne_true_of_eq_false (by assumption))] | rw [if_neg (by first | assumption | omega | exact ne_true_of_eq_false (by assumption))])
    rw [hu]
   have b259 := bt hb6 hb13
   have b260 := bt b259 hb216
   have b261 := bt b260 hb252
   exact bodyPost_ret (res_one Try.results55 rfl) rfl ⟨_, rfl, by rw [e]; exact (hO254.more b260.size), b261⟩
  refine lv (.bool false) (by exact ex_geq (by exact rfl) (by exact rfl) (by exact rfl) (decide_eq_false (by first | assumption | omega | decide))) ?_
  simp only [lay]
  refine lv (.bool false) (by exact xp (b := true)) ?_
  simp only [lay]
  refine lv (.bool false) (by exact xm) ?_
  simp only [lay]
  refine lzn ?_
  simp only [lay]
  refine lzn ?_
  simp only [lay]
  refine lzn ?_
  simp only [lay]
  refine lv (.bool false) (by exact xp (b := false)) ?_
  simp only [lay]
  refine lv (.bool false) (by exact xa) ?_
  simp only [lay]
  refine wn ?_
  refine wp_cond_false (by exact rfl) ?_
  refine wp_sr ?_
  refine lv (.pointer (some ⟨g1, 6, none⟩)) (by exact xf 6 0 Try.underlying27) ?_
  simp only [lay]
  refine lv (.int .u8 d.proto) (by exact xc Try.underlying5 (has224.cell 6 rfl)) ?_
  simp only [lay]
  refine lv (.bool true) (by exact neq_int_ne (by exact rfl) (by exact rfl) (by exact rfl) (by first | assumption | omega)) ?_
  simp only [lay]
  refine lv (.bool true) (by exact xm) ?_
  simp only [lay]
  refine lzn ?_
  simp only [lay]
  refine lzn ?_
  simp only [lay]
  refine lzn ?_
  simp only [lay]
  refine lv (.bool true) (by exact xp (b := true)) ?_
  simp only [lay]
  refine lv (.bool true) (by exact xa) ?_
  simp only [lay]
  refine wn ?_
  refine wp_cond_true (by exact rfl) ?_
  refine wp_sr ?_
  refine lv (.slice A47 d.bl.length c48) (by exact xm) ?_
  simp only [lay]
  refine lv (.slice A47 d.bl.length c48) (by exact xa) ?_
  simp only [lay]
  refine wn ?_
  refine wp_ret ?_
  simp only [Exit.inBlock, Exit.then]
  have e : told17 d s t n = d.bl := by
   unfold told17
   repeat (first | rw [if_pos (by first | assumption | omega | exact ne_true_of_eq_false (by assumption))] | rw [if_neg (by first | assumption | omega | exact ne_true_of_eq_false (by assumption))])
  have b263 := bt hb6 hb13
  have b264 := bt b263 hb216
  exact bodyPost_ret (res_one Try.results55 rfl) rfl ⟨_, rfl, by rw [e]; exact (hO219.more b263.size), b264⟩
 refine lv (.bool false) (by exact yqn) ?_
 simp only [lay]
 refine lv (.bool false) (by exact xm) ?_
 simp only [lay]
 refine lzn ?_
 simp only [lay]
 refine lzn ?_
 simp only [lay]
 refine lzn ?_
 simp only [lay]
 refine lv (.bool false) (by exact xp (b := false)) ?_
 simp only [lay]
 refine lv (.bool false) (by exact xm) ?_
 simp only [lay]
 refine lzn ?_
 simp only [lay]
 refine lzn ?_
 simp only [lay]
 refine lzn ?_
 simp only [lay]
 refine lv (.bool false) (by exact xp (b := false)) ?_
 simp only [lay]
 refine lv (.bool false) (by exact xa) ?_
 simp only [lay]
 refine wn ?_
 refine wp_cond_false (by exact rfl) ?_
 refine wp_sr ?_
 refine lv (.pointer (some ⟨g1, 6, none⟩)) (by exact xf 6 0 Try.underlying27) ?_
 simp only [lay]
 refine lv (.int .u8 d.proto) (by exact xc Try.underlying5 (has224.cell 6 rfl)) ?_
 simp only [lay]
 by_cases q265 : d.proto = 1
 case pos =>
  refine lv (.bool false) (by exact neq_int_eq (by exact rfl) (by exact rfl) (by exact rfl) (by first | assumption | omega)) ?_
  simp only [lay]
  refine lv (.bool false) (by exact xm) ?_
  simp only [lay]
  refine lv (.slice A47 d.bl.length c48) (by exact xm) ?_
  simp only [lay]
  refine lv (.int .i64 (d.bl.length : Int)) (by exact xz Try.underlying25) ?_
  simp only [lay]
  by_cases q266 : (d.bl.length : Int) < 4
  case pos =>
   refine lv (.bool true) (by exact ex_lss (by exact rfl) (by exact rfl) (by exact rfl) (decide_eq_true (by first | assumption | omega | decide))) ?_
   simp only [lay]
   refine lv (.bool true) (by exact xp (b := false)) ?_
   simp only [lay]
   refine lv (.bool true) (by exact xa) ?_
   simp only [lay]
   refine wn ?_
   refine wp_cond_true (by exact rfl) ?_
   refine wp_sr ?_
   refine lv (.slice A47 d.bl.length c48) (by exact xm) ?_
   simp only [lay]
   refine lv (.slice A47 d.bl.length c48) (by exact xa) ?_
   simp only [lay]
   refine wn ?_
   refine wp_ret ?_
   simp only [Exit.inBlock, Exit.then]
   have e : told17 d s t n = d.bl := by
    unfold told17
    repeat (first | rw [if_pos (by first | assumption | omega | exact ne_true_of_eq_false (by assumption))] | rw [if_neg (by first | assumption | omega | exact ne_true_of_eq_false (by assumption))])
   have b267 := bt hb6 hb13
   have b268 := bt b267 hb216
   exact bodyPost_ret (res_one Try.results55 rfl) rfl ⟨_, rfl, by rw [e]; exact (hO219.more b267.size), b268⟩
  refine lv (.bool false) (by exact ex_lss (by exact rfl) (by exact rfl) (by exact rfl) (decide_eq_false (by first | assumption | omega | decide))) ?_
  simp only [lay]
  refine lv (.bool false) (by exact xp (b := false)) ?_
  simp only [lay]
  refine lv (.bool false) (by exact xa) ?_
  simp only [lay]
  refine wn ?_
  refine wp_cond_false (by exact rfl) ?_
  refine wp_skip ?_
  change Code.wp _ _ _ _ _
  refine wp_seq ?_
  refine rg_drawn W65.heap.size (by kernel_rfl) (Nat.le_refl _) ?_
  intro W269 hb270 hs271 hS272
  have z273 := hb270.size
  refine te 0 (.slice A47 d.bl.length c48) hS272 rfl (by intro _ _; exact xm) ?_
  simp only [lay]
  have own275 := hO219.to hb270
  have y276 := (own_byS own275)
  have y274 := y276.to_ (P := Try.prog) 25 Try.underlying25 (by kernel_rfl) (k := 2) (by omega)
  refine te 1 (.slice A47 2 c48) hS272 rfl (by intro _ _; exact ex_slice (by exact rfl) (by exact rfl) (y274.1 _)) ?_
  simp only [lay]
  refine t1 2 rfl (ow_make 25 (.const (.int .i64 38)) (.const (.int .i64 38)) rfl 38 38 rfl rfl Try.underlying25 info8 (by decide) (by decide) ?_)
  intro g277 W278 hO279 ge280 sz281 hb282
  have z283 := hb282.size
  refine ⟨(Below.trans hS272 (hb282.mono hS272.size)), ?_⟩
  have hS284 := (Below.trans hS272 (hb282.mono hS272.size))
  simp only [lay]
  refine t1 3 rfl (ow_build [.slice A47 2 c48, .slice (some ⟨g277, 0, none⟩) 38 38] rfl Try.underlying106 (by kernel_rfl) (by kernel_rfl) rfl (by decide) (by decide) (by first | rfl | (simp only [List.map_toArray, List.map_cons, List.map_nil] <;> rfl)) (by simp [Value.cells]) ?_)
  intro g285 W286 hg287 ge288 sz289 hb290
  have z291 := hb290.size
  refine ⟨(Below.trans hS284 (hb290.mono hS284.size)), ?_⟩
  have hS292 := (Below.trans hS284 (hb290.mono hS284.size))
  simp only [lay]
  have b293 := bt hb282 hb290
  have by294 := y274.2.to b293
  have own295 := hO279.to hb290
  refine t1 4 rfl (ow_call (fun v w' => OwnB w' W286.heap.size v (d.bl.take 2 ++ (List.replicate 38 0)) ∧ Below W286.heap.size W286 w') (by exact xk Try.func87) (concat2 hg287 by294 (own_byS own295) (by simp; try omega)) ?_)
  rintro v298 W296 ⟨hO299, hb297⟩
  have z300 := hb297.size
  obtain ⟨A301, c302, rfl, y303⟩ := hO299.by_
  refine ⟨(Below.trans hS292 (hb297.mono hS292.size)), ?_⟩
  have hS304 := (Below.trans hS292 (hb297.mono hS292.size))
  simp only [lay]
  refine te 5 (.slice A301 ((d.bl.take 2 ++ (List.replicate 38 0)).length) c302) hS304 rfl (by intro _ _; exact xa) ?_
  simp only [lay]
  refine wpAnyH_done (by kernel_rfl) ?_ _
  change Code.wp _ _ _ _ _
  refine wp_seq ?_
  refine wp_sr ?_
  refine lv (.slice A47 d.bl.length c48) (by exact xm) ?_
  simp only [lay]
  obtain ⟨g305, rfl, h306, h307⟩ := own_form hO219 (by first | omega | simp [D4.src])
  refine lv (.pointer (some ⟨g305, 0 + 0, none⟩)) (by exact ex_index (k := 0) (by exact rfl) Try.underlying25 (by kernel_rfl) (by exact rfl) (by exact rfl) (show 0 < d.bl.length by omega)) ?_
  simp only [lay]
  have b308 := bt hb270 hb282
  have b309 := bt b308 hb290
  have b310 := bt b309 hb297
  have own311 := hO219.to b310
  refine lv (.int .u8 (d.bl.getD 0 0)) (by exact xc Try.underlying5 ((own_byS own311).atE (k := 0) rfl (by omega))) ?_
  simp only [lay]
  by_cases q312 : d.bl.getD 0 0 = 8
  case pos =>
   refine lv (.bool true) (by exact yq) ?_
   simp only [lay]
   refine wn ?_
   refine wp_cond_true (by exact rfl) ?_
   refine wp_region_lit ?_
   refine lv (.slice (some ⟨g305, 0, none⟩) d.bl.length c48) (by exact xm) ?_
   simp only [lay]
   refine lv (.pointer (some ⟨g305, 0 + 0, none⟩)) (by exact ex_index (k := 0) (by exact rfl) Try.underlying25 (by kernel_rfl) (by exact rfl) (by exact rfl) (show 0 < d.bl.length by omega)) ?_
   simp only [lay]
   refine lz (ow_stB 5 (.tmp 73) (.const (.int .u8 128)) g305 _ W9.heap.size d.bl.length c48 128 _ rfl (by exact rfl) (by exact rfl) (by kernel_rfl) own311 (by omega) (own_len own311) (by omega) ?_)
   intro W313 hO314 bs315 hb316
   have b317 := bt hb290 hb297
   have own318 := hO279.to b317
   have has319 := hg287.to hb297
   have z320 := hb316.size
   have own321 := own318.but6 bs315 (by omega)
   have has322 := has319.but6 bs315 (by omega)
   have own323 := hO299.but6 bs315 (by omega)
   simp only [lay]
   refine wn ?_
   refine wp_seq ?_
   refine rg_drawn W313.heap.size (by kernel_rfl) (Nat.le_refl _) ?_
   intro W324 hb325 hs326 hS327
   have z328 := hb325.size
   refine te 0 (.slice (some ⟨g305, 0, none⟩) d.bl.length c48) hS327 rfl (by intro _ _; exact xm) ?_
   simp only [lay]
   have own330 := hO314.to hb325
   have y331 := (own_byS own330)
   have y329 := y331.to_ (P := Try.prog) 25 Try.underlying25 (by kernel_rfl) (k := 2) (by omega)
   refine te 1 (.slice (some ⟨g305, 0, none⟩) 2 c48) hS327 rfl (by intro _ _; exact ex_slice (by exact rfl) (by exact rfl) (y329.1 _)) ?_
   simp only [lay]
   refine te 2 (.pointer (some ⟨g8, 0, none⟩)) hS327 rfl (by intro _ _; exact xf 0 15 Try.underlying31) ?_
   simp only [lay]
   refine te 3 (.slice (some ⟨g8, 0, none⟩) 16 16) hS327 rfl (by intro _ _; exact ex_arr (by exact rfl) Try.underlying29 (by kernel_rfl) (by exact rfl)) ?_
   simp only [lay]
   refine te 4 (.pointer (some ⟨g8, 16, none⟩)) hS327 rfl (by intro _ _; exact xf 16 15 Try.underlying31) ?_
   simp only [lay]
   refine te 5 (.slice (some ⟨g8, 16, none⟩) 16 16) hS327 rfl (by intro _ _; exact ex_arr (by exact rfl) Try.underlying29 (by kernel_rfl) (by exact rfl)) ?_
   simp only [lay]
   refine te 6 (.int .i64 n) hS327 rfl (by intro _ _; exact xm) ?_
   simp only [lay]
   refine te 7 (.int .i64 (n / 256)) hS327 rfl (by intro _ _; exact xb (shr8_i64 _ _ _)) ?_
   simp only [lay]
   refine te 8 (.int .u8 (n / 256)) hS327 rfl (by intro _ _; exact xv (conv_u8' 3 5 .i64 (n / 256) (by kernel_rfl) Try.underlying5 (by omega) _)) ?_
   simp only [lay]
   refine te 9 (.int .i64 n) hS327 rfl (by intro _ _; exact xm) ?_
   simp only [lay]
   refine te 10 (.int .u8 (n % 256)) hS327 rfl (by intro _ _; exact xv (conv_u8 3 5 .i64 n (by kernel_rfl) Try.underlying5 _)) ?_
   simp only [lay]
   refine t1 11 rfl (ow_build (u8s [0, 0, n / 256, n % 256, 0, 58]) rfl Try.underlying25 (by kernel_rfl) (by kernel_rfl) rfl (by decide) (by decide) (by first | rfl | (simp only [List.map_toArray, List.map_cons, List.map_nil] <;> rfl)) (u8s_cells _) ?_)
   intro g332 W333 hg334 ge335 sz336 hb337
   have z338 := hb337.size
   have hO339 := OwnB.blk hg334 (Nat.le_of_eq ge335.symm) rfl (by intro x hx; simp only [List.mem_cons, List.not_mem_nil, or_false] at hx; omega) (by simp)
   refine ⟨(Below.trans hS327 (hb337.mono hS327.size)), ?_⟩
   have hS340 := (Below.trans hS327 (hb337.mono hS327.size))
   simp only [lay]
   refine t1 12 rfl (ow_build [.slice (some ⟨g305, 0, none⟩) 2 c48, .slice (some ⟨g8, 0, none⟩) 16 16, .slice (some ⟨g8, 16, none⟩) 16 16, .slice (some ⟨g332, 0, none⟩) 6 6] rfl Try.underlying106 (by kernel_rfl) (by kernel_rfl) rfl (by decide) (by decide) (by first | rfl | (simp only [List.map_toArray, List.map_cons, List.map_nil] <;> rfl)) (by simp [Value.cells]) ?_)
   intro g341 W342 hg343 ge344 sz345 hb346
   have z347 := hb346.size
   refine ⟨(Below.trans hS340 (hb346.mono hS340.size)), ?_⟩
   have hS348 := (Below.trans hS340 (hb346.mono hS340.size))
   simp only [lay]
   have b349 := bt hb337 hb346
   have by350 := y329.2.to b349
   have b351 := bt hb216 hb270
   have b352 := bt b351 hb282
   have b353 := bt b352 hb290
   have b354 := bt b353 hb297
   have b355 := b354.trans (hb316.mono h306)
   have b356 := bt b355 hb325
   have b357 := bt b356 hb337
   have b358 := bt b357 hb346
   have has359 := hg10.to b358
   have own360 := hO339.to hb346
   refine t1 13 rfl (ow_call (fun v w' => OwnB w' W342.heap.size v ((d.bl.set (0 + 0) 128).take 2 ++ s ++ t ++ [0, 0, n / 256, n % 256, 0, 58]) ∧ Below W342.heap.size W342 w') (by exact xk Try.func87) (concat4 hg343 by350 (has359.byIn 0 16 s hE.sL ((show (_ : List Value) = u8s (l16 s) from by kernel_rfl).trans (u8s_16 hE.sL)) hE.s (by decide)) (has359.byIn 16 16 t hE.tL ((show (_ : List Value) = u8s (l16 t) from by kernel_rfl).trans (u8s_16 hE.tL)) hE.t (by decide)) (own_byS own360) (by simp; try omega)) ?_)
   rintro v363 W361 ⟨hO364, hb362⟩
   have z365 := hb362.size
   obtain ⟨A366, c367, rfl, y368⟩ := hO364.by_
   refine ⟨(Below.trans hS348 (hb362.mono hS348.size)), ?_⟩
   have hS369 := (Below.trans hS348 (hb362.mono hS348.size))
   simp only [lay]
   refine te 14 (.slice A366 (((d.bl.set (0 + 0) 128).take 2 ++ s ++ t ++ [0, 0, n / 256, n % 256, 0, 58]).length) c367) hS369 rfl (by intro _ _; exact xa) ?_
   simp only [lay]
   refine wpAnyH_done (by kernel_rfl) ?_ _
   change Code.wp _ _ _ _ _
   refine wp_seq ?_
   refine rg_drawn W361.heap.size (by kernel_rfl) (Nat.le_refl _) ?_
   intro W370 hb371 hs372 hS373
   have z374 := hb371.size
   refine te 0 (.slice (some ⟨g305, 0, none⟩) d.bl.length c48) hS373 rfl (by intro _ _; exact xm) ?_
   simp only [lay]
   refine te 1 (.pointer (some ⟨g305, 0 + 2, none⟩)) hS373 rfl (by intro _ _; exact ex_index (k := 2) (by exact rfl) Try.underlying25 (by kernel_rfl) (by exact rfl) (by exact rfl) (show 2 < d.bl.length by omega)) ?_
   simp only [lay]
   have b375 := bt hb325 hb337
   have b376 := bt b375 hb346
   have b377 := bt b376 hb362
   have own378 := hO314.to b377
   refine te 2 (.int .u8 ((d.bl.set (0 + 0) 128).getD 2 0)) hS373 rfl (by intro _ h; exact xc Try.underlying5 ((own_byS (own378.to h)).atE (k := 2) rfl (by omega))) ?_
   simp only [lay]
   refine te 3 (.int .u16 ((d.bl.set (0 + 0) 128).getD 2 0)) hS373 rfl (by intro _ _; exact xv (conv_u16 5 22 .u8 ((d.bl.set (0 + 0) 128).getD 2 0) (by kernel_rfl) Try.underlying22 (in_rng (getD_byte hO314.rng 2)).1 (in_rng (getD_byte hO314.rng 2)).2.1 _)) ?_
   simp only [lay]
   refine te 4 (.int .u16 (((d.bl.set (0 + 0) 128).getD 2 0) * 256)) hS373 rfl (by intro _ _; exact xb (b_shl8_u16 _ _ (getD_byte hO314.rng 2) _)) ?_
   simp only [lay]
   refine te 5 (.slice (some ⟨g305, 0, none⟩) d.bl.length c48) hS373 rfl (by intro _ _; exact xm) ?_
   simp only [lay]
   refine te 6 (.pointer (some ⟨g305, 0 + 3, none⟩)) hS373 rfl (by intro _ _; exact ex_index (k := 3) (by exact rfl) Try.underlying25 (by kernel_rfl) (by exact rfl) (by exact rfl) (show 3 < d.bl.length by omega)) ?_
   simp only [lay]
   refine te 7 (.int .u8 ((d.bl.set (0 + 0) 128).getD 3 0)) hS373 rfl (by intro _ h; exact xc Try.underlying5 ((own_byS (own378.to h)).atE (k := 3) rfl (by omega))) ?_
   simp only [lay]
   refine te 8 (.int .u16 ((d.bl.set (0 + 0) 128).getD 3 0)) hS373 rfl (by intro _ _; exact xv (conv_u16 5 22 .u8 ((d.bl.set (0 + 0) 128).getD 3 0) (by kernel_rfl) Try.underlying22 (in_rng (getD_byte hO314.rng 3)).1 (in_rng (getD_byte hO314.rng 3)).2.1 _)) ?_
   simp only [lay]
   refine te 9 (.int .u16 (((d.bl.set (0 + 0) 128).getD 2 0) * 256 + (d.bl.set (0 + 0) 128).getD 3 0)) hS373 rfl (by intro _ _; exact xb (w_or16 _ _ _ (getD_byte hO314.rng 2) (getD_byte hO314.rng 3) _)) ?_
   simp only [lay]
   refine te 10 (.slice A301 ((d.bl.take 2 ++ (List.replicate 38 0)).length) c302) hS373 rfl (by intro _ _; exact xm) ?_
   simp only [lay]
   refine te 11 (.slice A366 (((d.bl.set (0 + 0) 128).take 2 ++ s ++ t ++ [0, 0, n / 256, n % 256, 0, 58]).length) c367) hS373 rfl (by intro _ _; exact xm) ?_
   simp only [lay]
   have b379 := bt b377 hb371
   have own380 := own323.to b379
   have own381 := hO364.to hb371
   refine t1 12 rfl (ow_call (fun v w' => (∃ q, v = .tuple #[.int .u16 q, .int .i64 0] ∧ q = (updateS (((d.bl.set (0 + 0) 128).getD 2 0) * 256 + (d.bl.set (0 + 0) 128).getD 3 0) (d.bl.take 2 ++ (List.replicate 38 0)) ((d.bl.set (0 + 0) 128).take 2 ++ s ++ t ++ [0, 0, n / 256, n % 256, 0, 58])).1 ∧ 0 ≤ q ∧ q < 65536) ∧ Below W370.heap.size W370 w') (by exact xk Try.func88) (update_one (two_rng (getD_byte hO314.rng 2) (getD_byte hO314.rng 3)) (own_byS own380) (own_byS own381) (by constructor <;> simp only [List.length_append, List.length_take, List.length_set, List.length_replicate, List.length_cons, List.length_nil, sL, tL] <;> omega)) ?_)
   rintro _ W382 ⟨⟨q384, rfl, hq385, q0386, q1387⟩, hb383⟩
   have z388 := hb383.size
   refine ⟨(Below.trans hS373 (hb383.mono hS373.size)), ?_⟩
   have hS389 := (Below.trans hS373 (hb383.mono hS373.size))
   simp only [lay]
   refine te 13 (.tuple #[.int .u16 q384, .int .i64 0]) hS389 rfl (by intro _ _; exact xm) ?_
   simp only [lay]
   refine te 14 (.int .u16 q384) hS389 rfl (by intro _ _; exact xe) ?_
   simp only [lay]
   refine te 15 (.int .i64 0) hS389 rfl (by intro _ _; exact xe) ?_
   simp only [lay]
   refine te 16 (.int .u16 q384) hS389 rfl (by intro _ _; exact xa) ?_
   simp only [lay]
   refine te 17 (.int .i64 0) hS389 rfl (by intro _ _; exact xa) ?_
   simp only [lay]
   refine wpAnyH_done (by kernel_rfl) ?_ _
   change Code.wp _ _ _ _ _
   refine wp_sr ?_
   refine lv (.int .i64 0) (by exact xm) ?_
   simp only [lay]
   refine lz (ow_same (.tuple #[]) (by exact xk Try.func33) (must17_no W382) ?_)
   simp only [lay]
   refine wn ?_
   refine wp_sr ?_
   refine lv (.slice (some ⟨g305, 0, none⟩) d.bl.length c48) (by exact xm) ?_
   simp only [lay]
   have b390 := bt b379 hb383
   have own391 := hO314.to b390
   refine lv (.slice (some ⟨g305, 0 + 2, none⟩) (d.bl.length - 2) (c48 - 2)) (by exact ex_slice (by exact rfl) (by exact rfl) (slice_tail (n := d.bl.length) (c := c48) (k := 2) Try.underlying25 (by kernel_rfl) (by omega) (own_byS own391).cap _)) ?_
   simp only [lay]
   refine lv (.int .u16 q384) (by exact xm) ?_
   simp only [lay]
   refine lz (ow_call (fun v w' => v = .tuple #[] ∧ OwnB w' W9.heap.size (.slice (some ⟨g305, 0, none⟩) d.bl.length c48) (put17 (d.bl.set (0 + 0) 128) (0 + 2) (fix17 false q384)) ∧ But6 g305 W382 w' ∧ Below g305 W382 w') (by exact xk Try.func74) ((store17_any false g305 (0 + 2) d.bl.length c48 (d.bl.length - 2) (c48 - 2) W9.heap.size q384 (by omega) _ W382 own391 (by omega) (by omega)).mono fun e w' h => ⟨_, h.1, rfl, h.2⟩) ?_)
   rintro _ W394 ⟨rfl, hO393, bs392, hb395⟩
   have own396 := own321.to b390
   have has397 := has322.to b390
   have own398 := own323.to b390
   have b399 := bt hb346 hb362
   have b400 := bt b399 hb371
   have b401 := bt b400 hb383
   have own402 := hO339.to b401
   have b403 := bt hb362 hb371
   have b404 := bt b403 hb383
   have has405 := hg343.to b404
   have b406 := bt hb371 hb383
   have own407 := hO364.to b406
   have z408 := hb395.size
   have own409 := own396.but6 bs392 (by omega)
   have has410 := has397.but6 bs392 (by omega)
   have own411 := own398.but6 bs392 (by omega)
   have own412 := own402.but6 bs392 (by omega)
   have has413 := has405.but6 bs392 (by omega)
   have own414 := own407.but6 bs392 (by omega)
   simp only [lay]
   refine wn ?_
   refine wp_sr ?_
   refine lv (.slice (some ⟨g305, 0, none⟩) d.bl.length c48) (by exact xm) ?_
   simp only [lay]
   refine lv (.slice (some ⟨g305, 0, none⟩) d.bl.length c48) (by exact xa) ?_
   simp only [lay]
   refine wn ?_
   refine wp_ret ?_
   try simp only [Exit.then]
   rw [getD_set_ne (by decide), getD_set_ne (by decide), take2_set (by omega)] at hq385
   have e : told17 d s t n = put17 (d.bl.set (0 + 0) 128) (0 + 2) (fix17 false q384) := by
    unfold told17
    repeat (first | rw [if_pos (by first | assumption | omega | exact ne_true_of_eq_false (by assumption))] | rw [if_neg (by first | assumption | omega | exact ne_true_of_eq_false (by assumption))])
    try simp only [if_pos (show d.bl.getD 0 0 = 8 from by assumption)]
    rw [hq385, fix17_f]
    rfl
   have b415 := bt hb6 hb13
   have b416 := bt b415 hb216
   have b417 := bt b416 hb270
   have b418 := bt b417 hb282
   have b419 := bt b418 hb290
   have b420 := bt b419 hb297
   have l421 := Nat.le_trans b415.size h306
   have b422 := b420.trans (hb316.mono l421)
   have b423 := bt b422 hb325
   have b424 := bt b423 hb337
   have b425 := bt b424 hb346
   have b426 := bt b425 hb362
   have b427 := bt b426 hb371
   have b428 := bt b427 hb383
   have b429 := b428.trans (hb395.mono l421)
   exact bodyPost_ret (res_one Try.results55 rfl) rfl ⟨_, rfl, by rw [e]; exact (hO393.more b415.size), b429⟩
  refine lv (.bool false) (by exact yqn) ?_
  simp only [lay]
  refine wn ?_
  refine wp_cond_false (by exact rfl) ?_
  refine wp_region_lit ?_
  refine lv (.slice (some ⟨g305, 0, none⟩) d.bl.length c48) (by exact xm) ?_
  simp only [lay]
  refine lv (.pointer (some ⟨g305, 0 + 0, none⟩)) (by exact ex_index (k := 0) (by exact rfl) Try.underlying25 (by kernel_rfl) (by exact rfl) (by exact rfl) (show 0 < d.bl.length by omega)) ?_
  simp only [lay]
  refine lz (ow_stB 5 (.tmp 75) (.const (.int .u8 129)) g305 _ W9.heap.size d.bl.length c48 129 _ rfl (by exact rfl) (by exact rfl) (by kernel_rfl) own311 (by omega) (own_len own311) (by omega) ?_)
  intro W430 hO431 bs432 hb433
  have b434 := bt hb290 hb297
  have own435 := hO279.to b434
  have has436 := hg287.to hb297
  have z437 := hb433.size
  have own438 := own435.but6 bs432 (by omega)
  have has439 := has436.but6 bs432 (by omega)
  have own440 := hO299.but6 bs432 (by omega)
  simp only [lay]
  refine wn ?_
  refine wp_seq ?_
  refine rg_drawn W430.heap.size (by kernel_rfl) (Nat.le_refl _) ?_
  intro W441 hb442 hs443 hS444
  have z445 := hb442.size
  refine te 0 (.slice (some ⟨g305, 0, none⟩) d.bl.length c48) hS444 rfl (by intro _ _; exact xm) ?_
  simp only [lay]
  have own447 := hO431.to hb442
  have y448 := (own_byS own447)
  have y446 := y448.to_ (P := Try.prog) 25 Try.underlying25 (by kernel_rfl) (k := 2) (by omega)
  refine te 1 (.slice (some ⟨g305, 0, none⟩) 2 c48) hS444 rfl (by intro _ _; exact ex_slice (by exact rfl) (by exact rfl) (y446.1 _)) ?_
  simp only [lay]
  refine te 2 (.pointer (some ⟨g8, 0, none⟩)) hS444 rfl (by intro _ _; exact xf 0 15 Try.underlying31) ?_
  simp only [lay]
  refine te 3 (.slice (some ⟨g8, 0, none⟩) 16 16) hS444 rfl (by intro _ _; exact ex_arr (by exact rfl) Try.underlying29 (by kernel_rfl) (by exact rfl)) ?_
  simp only [lay]
  refine te 4 (.pointer (some ⟨g8, 16, none⟩)) hS444 rfl (by intro _ _; exact xf 16 15 Try.underlying31) ?_
  simp only [lay]
  refine te 5 (.slice (some ⟨g8, 16, none⟩) 16 16) hS444 rfl (by intro _ _; exact ex_arr (by exact rfl) Try.underlying29 (by kernel_rfl) (by exact rfl)) ?_
  simp only [lay]
  refine te 6 (.int .i64 n) hS444 rfl (by intro _ _; exact xm) ?_
  simp only [lay]
  refine te 7 (.int .i64 (n / 256)) hS444 rfl (by intro _ _; exact xb (shr8_i64 _ _ _)) ?_
  simp only [lay]
  refine te 8 (.int .u8 (n / 256)) hS444 rfl (by intro _ _; exact xv (conv_u8' 3 5 .i64 (n / 256) (by kernel_rfl) Try.underlying5 (by omega) _)) ?_
  simp only [lay]
  refine te 9 (.int .i64 n) hS444 rfl (by intro _ _; exact xm) ?_
  simp only [lay]
  refine te 10 (.int .u8 (n % 256)) hS444 rfl (by intro _ _; exact xv (conv_u8 3 5 .i64 n (by kernel_rfl) Try.underlying5 _)) ?_
  simp only [lay]
  refine t1 11 rfl (ow_build (u8s [0, 0, n / 256, n % 256, 0, 58]) rfl Try.underlying25 (by kernel_rfl) (by kernel_rfl) rfl (by decide) (by decide) (by first | rfl | (simp only [List.map_toArray, List.map_cons, List.map_nil] <;> rfl)) (u8s_cells _) ?_)
  intro g449 W450 hg451 ge452 sz453 hb454
  have z455 := hb454.size
  have hO456 := OwnB.blk hg451 (Nat.le_of_eq ge452.symm) rfl (by intro x hx; simp only [List.mem_cons, List.not_mem_nil, or_false] at hx; omega) (by simp)
  refine ⟨(Below.trans hS444 (hb454.mono hS444.size)), ?_⟩
  have hS457 := (Below.trans hS444 (hb454.mono hS444.size))
  simp only [lay]
  refine t1 12 rfl (ow_build [.slice (some ⟨g305, 0, none⟩) 2 c48, .slice (some ⟨g8, 0, none⟩) 16 16, .slice (some ⟨g8, 16, none⟩) 16 16, .slice (some ⟨g449, 0, none⟩) 6 6] rfl Try.underlying106 (by kernel_rfl) (by kernel_rfl) rfl (by decide) (by decide) (by first | rfl | (simp only [List.map_toArray, List.map_cons, List.map_nil] <;> rfl)) (by simp [Value.cells]) ?_)
  intro g458 W459 hg460 ge461 sz462 hb463
  have z464 := hb463.size
  refine ⟨(Below.trans hS457 (hb463.mono hS457.size)), ?_⟩
  have hS465 := (Below.trans hS457 (hb463.mono hS457.size))
  simp only [lay]
  have b466 := bt hb454 hb463
  have by467 := y446.2.to b466
  have b468 := bt hb216 hb270
  have b469 := bt b468 hb282
  have b470 := bt b469 hb290
  have b471 := bt b470 hb297
  have b472 := b471.trans (hb433.mono h306)
  have b473 := bt b472 hb442
  have b474 := bt b473 hb454
  have b475 := bt b474 hb463
  have has476 := hg10.to b475
  have own477 := hO456.to hb463
  refine t1 13 rfl (ow_call (fun v w' => OwnB w' W459.heap.size v ((d.bl.set (0 + 0) 129).take 2 ++ s ++ t ++ [0, 0, n / 256, n % 256, 0, 58]) ∧ Below W459.heap.size W459 w') (by exact xk Try.func87) (concat4 hg460 by467 (has476.byIn 0 16 s hE.sL ((show (_ : List Value) = u8s (l16 s) from by kernel_rfl).trans (u8s_16 hE.sL)) hE.s (by decide)) (has476.byIn 16 16 t hE.tL ((show (_ : List Value) = u8s (l16 t) from by kernel_rfl).trans (u8s_16 hE.tL)) hE.t (by decide)) (own_byS own477) (by simp; try omega)) ?_)
  rintro v480 W478 ⟨hO481, hb479⟩
  have z482 := hb479.size
  obtain ⟨A483, c484, rfl, y485⟩ := hO481.by_
  refine ⟨(Below.trans hS465 (hb479.mono hS465.size)), ?_⟩
  have hS486 := (Below.trans hS465 (hb479.mono hS465.size))
  simp only [lay]
  refine te 14 (.slice A483 (((d.bl.set (0 + 0) 129).take 2 ++ s ++ t ++ [0, 0, n / 256, n % 256, 0, 58]).length) c484) hS486 rfl (by intro _ _; exact xa) ?_
  simp only [lay]
  refine wpAnyH_done (by kernel_rfl) ?_ _
  change Code.wp _ _ _ _ _
  refine wp_seq ?_
  refine rg_drawn W478.heap.size (by kernel_rfl) (Nat.le_refl _) ?_
  intro W487 hb488 hs489 hS490
  have z491 := hb488.size
  refine te 0 (.slice (some ⟨g305, 0, none⟩) d.bl.length c48) hS490 rfl (by intro _ _; exact xm) ?_
  simp only [lay]
  refine te 1 (.pointer (some ⟨g305, 0 + 2, none⟩)) hS490 rfl (by intro _ _; exact ex_index (k := 2) (by exact rfl) Try.underlying25 (by kernel_rfl) (by exact rfl) (by exact rfl) (show 2 < d.bl.length by omega)) ?_
  simp only [lay]
  have b492 := bt hb442 hb454
  have b493 := bt b492 hb463
  have b494 := bt b493 hb479
  have own495 := hO431.to b494
  refine te 2 (.int .u8 ((d.bl.set (0 + 0) 129).getD 2 0)) hS490 rfl (by intro _ h; exact xc Try.underlying5 ((own_byS (own495.to h)).atE (k := 2) rfl (by omega))) ?_
  simp only [lay]
  refine te 3 (.int .u16 ((d.bl.set (0 + 0) 129).getD 2 0)) hS490 rfl (by intro _ _; exact xv (conv_u16 5 22 .u8 ((d.bl.set (0 + 0) 129).getD 2 0) (by kernel_rfl) Try.underlying22 (in_rng (getD_byte hO431.rng 2)).1 (in_rng (getD_byte hO431.rng 2)).2.1 _)) ?_
  simp only [lay]
  refine te 4 (.int .u16 (((d.bl.set (0 + 0) 129).getD 2 0) * 256)) hS490 rfl (by intro _ _; exact xb (b_shl8_u16 _ _ (getD_byte hO431.rng 2) _)) ?_
  simp only [lay]
  refine te 5 (.slice (some ⟨g305, 0, none⟩) d.bl.length c48) hS490 rfl (by intro _ _; exact xm) ?_
  simp only [lay]
  refine te 6 (.pointer (some ⟨g305, 0 + 3, none⟩)) hS490 rfl (by intro _ _; exact ex_index (k := 3) (by exact rfl) Try.underlying25 (by kernel_rfl) (by exact rfl) (by exact rfl) (show 3 < d.bl.length by omega)) ?_
  simp only [lay]
  refine te 7 (.int .u8 ((d.bl.set (0 + 0) 129).getD 3 0)) hS490 rfl (by intro _ h; exact xc Try.underlying5 ((own_byS (own495.to h)).atE (k := 3) rfl (by omega))) ?_
  simp only [lay]
  refine te 8 (.int .u16 ((d.bl.set (0 + 0) 129).getD 3 0)) hS490 rfl (by intro _ _; exact xv (conv_u16 5 22 .u8 ((d.bl.set (0 + 0) 129).getD 3 0) (by kernel_rfl) Try.underlying22 (in_rng (getD_byte hO431.rng 3)).1 (in_rng (getD_byte hO431.rng 3)).2.1 _)) ?_
  simp only [lay]
  refine te 9 (.int .u16 (((d.bl.set (0 + 0) 129).getD 2 0) * 256 + (d.bl.set (0 + 0) 129).getD 3 0)) hS490 rfl (by intro _ _; exact xb (w_or16 _ _ _ (getD_byte hO431.rng 2) (getD_byte hO431.rng 3) _)) ?_
  simp only [lay]
  refine te 10 (.slice A301 ((d.bl.take 2 ++ (List.replicate 38 0)).length) c302) hS490 rfl (by intro _ _; exact xm) ?_
  simp only [lay]
  refine te 11 (.slice A483 (((d.bl.set (0 + 0) 129).take 2 ++ s ++ t ++ [0, 0, n / 256, n % 256, 0, 58]).length) c484) hS490 rfl (by intro _ _; exact xm) ?_
  simp only [lay]
  have b496 := bt b494 hb488
  have own497 := own440.to b496
  have own498 := hO481.to hb488
  refine t1 12 rfl (ow_call (fun v w' => (∃ q, v = .tuple #[.int .u16 q, .int .i64 0] ∧ q = (updateS (((d.bl.set (0 + 0) 129).getD 2 0) * 256 + (d.bl.set (0 + 0) 129).getD 3 0) (d.bl.take 2 ++ (List.replicate 38 0)) ((d.bl.set (0 + 0) 129).take 2 ++ s ++ t ++ [0, 0, n / 256, n % 256, 0, 58])).1 ∧ 0 ≤ q ∧ q < 65536) ∧ Below W487.heap.size W487 w') (by exact xk Try.func88) (update_one (two_rng (getD_byte hO431.rng 2) (getD_byte hO431.rng 3)) (own_byS own497) (own_byS own498) (by constructor <;> simp only [List.length_append, List.length_take, List.length_set, List.length_replicate, List.length_cons, List.length_nil, sL, tL] <;> omega)) ?_)
  rintro _ W499 ⟨⟨q501, rfl, hq502, q0503, q1504⟩, hb500⟩
  have z505 := hb500.size
  refine ⟨(Below.trans hS490 (hb500.mono hS490.size)), ?_⟩
  have hS506 := (Below.trans hS490 (hb500.mono hS490.size))
  simp only [lay]
  refine te 13 (.tuple #[.int .u16 q501, .int .i64 0]) hS506 rfl (by intro _ _; exact xm) ?_
  simp only [lay]
  refine te 14 (.int .u16 q501) hS506 rfl (by intro _ _; exact xe) ?_
  simp only [lay]
  refine te 15 (.int .i64 0) hS506 rfl (by intro _ _; exact xe) ?_
  simp only [lay]
  refine te 16 (.int .u16 q501) hS506 rfl (by intro _ _; exact xa) ?_
  simp only [lay]
  refine te 17 (.int .i64 0) hS506 rfl (by intro _ _; exact xa) ?_
  simp only [lay]
  refine wpAnyH_done (by kernel_rfl) ?_ _
  change Code.wp _ _ _ _ _
  refine wp_sr ?_
  refine lv (.int .i64 0) (by exact xm) ?_
  simp only [lay]
  refine lz (ow_same (.tuple #[]) (by exact xk Try.func33) (must17_no W499) ?_)
  simp only [lay]
  refine wn ?_
  refine wp_sr ?_
  refine lv (.slice (some ⟨g305, 0, none⟩) d.bl.length c48) (by exact xm) ?_
  simp only [lay]
  have b507 := bt b496 hb500
  have own508 := hO431.to b507
  refine lv (.slice (some ⟨g305, 0 + 2, none⟩) (d.bl.length - 2) (c48 - 2)) (by exact ex_slice (by exact rfl) (by exact rfl) (slice_tail (n := d.bl.length) (c := c48) (k := 2) Try.underlying25 (by kernel_rfl) (by omega) (own_byS own508).cap _)) ?_
  simp only [lay]
  refine lv (.int .u16 q501) (by exact xm) ?_
  simp only [lay]
  refine lz (ow_call (fun v w' => v = .tuple #[] ∧ OwnB w' W9.heap.size (.slice (some ⟨g305, 0, none⟩) d.bl.length c48) (put17 (d.bl.set (0 + 0) 129) (0 + 2) (fix17 false q501)) ∧ But6 g305 W499 w' ∧ Below g305 W499 w') (by exact xk Try.func74) ((store17_any false g305 (0 + 2) d.bl.length c48 (d.bl.length - 2) (c48 - 2) W9.heap.size q501 (by omega) _ W499 own508 (by omega) (by omega)).mono fun e w' h => ⟨_, h.1, rfl, h.2⟩) ?_)
  rintro _ W511 ⟨rfl, hO510, bs509, hb512⟩
  have own513 := own438.to b507
  have has514 := has439.to b507
  have own515 := own440.to b507
  have b516 := bt hb463 hb479
  have b517 := bt b516 hb488
  have b518 := bt b517 hb500
  have own519 := hO456.to b518
  have b520 := bt hb479 hb488
  have b521 := bt b520 hb500
  have has522 := hg460.to b521
  have b523 := bt hb488 hb500
  have own524 := hO481.to b523
  have z525 := hb512.size
  have own526 := own513.but6 bs509 (by omega)
  have has527 := has514.but6 bs509 (by omega)
  have own528 := own515.but6 bs509 (by omega)
  have own529 := own519.but6 bs509 (by omega)
  have has530 := has522.but6 bs509 (by omega)
  have own531 := own524.but6 bs509 (by omega)
  simp only [lay]
  refine wn ?_
  refine wp_sr ?_
  refine lv (.slice (some ⟨g305, 0, none⟩) d.bl.length c48) (by exact xm) ?_
  simp only [lay]
  refine lv (.slice (some ⟨g305, 0, none⟩) d.bl.length c48) (by exact xa) ?_
  simp only [lay]
  refine wn ?_
  refine wp_ret ?_
  try simp only [Exit.then]
  rw [getD_set_ne (by decide), getD_set_ne (by decide), take2_set (by omega)] at hq502
  have e : told17 d s t n = put17 (d.bl.set (0 + 0) 129) (0 + 2) (fix17 false q501) := by
   unfold told17
   repeat (first | rw [if_pos (by first | assumption | omega | exact ne_true_of_eq_false (by assumption))] | rw [if_neg (by first | assumption | omega | exact ne_true_of_eq_false (by assumption))])
   try simp only [if_neg (show ¬ d.bl.getD 0 0 = 8 from by assumption)]
   rw [hq502, fix17_f]
   rfl
  have b532 := bt hb6 hb13
  have b533 := bt b532 hb216
  have b534 := bt b533 hb270
  have b535 := bt b534 hb282
  have b536 := bt b535 hb290
  have b537 := bt b536 hb297
  have l538 := Nat.le_trans b532.size h306
  have b539 := b537.trans (hb433.mono l538)
  have b540 := bt b539 hb442
  have b541 := bt b540 hb454
  have b542 := bt b541 hb463
  have b543 := bt b542 hb479
  have b544 := bt b543 hb488
  have b545 := bt b544 hb500
  have b546 := b545.trans (hb512.mono l538)
  exact bodyPost_ret (res_one Try.results55 rfl) rfl ⟨_, rfl, by rw [e]; exact (hO510.more b532.size), b546⟩
 refine lv (.bool true) (by exact neq_int_ne (by exact rfl) (by exact rfl) (by exact rfl) (by first | assumption | omega)) ?_
 simp only [lay]
 refine lv (.bool true) (by exact xm) ?_
 simp only [lay]
 refine lzn ?_
 simp only [lay]
 refine lzn ?_
 simp only [lay]
 refine lzn ?_
 simp only [lay]
 refine lv (.bool true) (by exact xp (b := true)) ?_
 simp only [lay]
 refine lv (.bool true) (by exact xa) ?_
 simp only [lay]
 refine wn ?_
 refine wp_cond_true (by exact rfl) ?_
 refine wp_sr ?_
 refine lv (.slice A47 d.bl.length c48) (by exact xm) ?_
 simp only [lay]
 refine lv (.slice A47 d.bl.length c48) (by exact xa) ?_
 simp only [lay]
 refine wn ?_
 refine wp_ret ?_
 simp only [Exit.inBlock, Exit.then]
 have e : told17 d s t n = d.bl := by
  unfold told17
  repeat (first | rw [if_pos (by first | assumption | omega | exact ne_true_of_eq_false (by assumption))] | rw [if_neg (by first | assumption | omega | exact ne_true_of_eq_false (by assumption))])
 have b547 := bt hb6 hb13
 have b548 := bt b547 hb216
 exact bodyPost_ret (res_one Try.results55 rfl) rfl ⟨_, rfl, by rw [e]; exact (hO219.more b547.size), b548⟩
end Go.Proofs.Ytijnifbpbgckgaa
