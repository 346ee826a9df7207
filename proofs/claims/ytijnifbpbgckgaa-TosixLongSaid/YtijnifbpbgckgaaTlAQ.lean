/-
  Lemmas and walks for the row of TosixLong (part 17 of 37).
-/
import Derived.Test.YtijnifbpbgckgaaTlAG
import Derived.Test.YtijnifbpbgckgaaTlAP
set_option linter.unusedVariables false
set_option linter.unusedSimpArgs false
namespace Go.Proofs.Ytijnifbpbgckgaa
open Go.RowKit Go.Shelf
attribute [local irreducible] wpList Code.wp Oper.wp wpOp wpAnyH

set_option maxRecDepth 100000 in
theorem none17_any (A : Option Addr) (n c : Nat) (l : List Int) (w : World) (y : By w.heap.size w A n c l) (h8 : 8 ≤ n) :
  Calls Try.prog 73 #[.slice A n c] w fun e w' => e = .returned (.bool (decide (l.getD 6 0 = 0 ∧ l.getD 7 0 = 0))) ∧ w = w' := by
 go_enter Try.func73, Try.ntmps73
 refine wp_sr ?_
 refine lv (.bool false) (by exact xa) ?_
 simp only [lay]
 refine wn ?_
 refine wp_sr ?_
 refine lv (.slice A n c) (by exact xm) ?_
 simp only [lay]
 obtain ⟨b1, o2, hA3⟩ := y.form (k := 6) (by omega)
 refine lv (.pointer (some ⟨b1, o2 + 6, none⟩)) (by exact xi 6 Try.underlying25 hA3) ?_
 simp only [lay]
 refine lv (.int .u8 (l.getD 6 0)) (by exact xc Try.underlying5 (y.atE (k := 6) hA3 (by omega))) ?_
 simp only [lay]
 by_cases q4 : l.getD 6 0 = 0
 case pos =>
  refine lv (.bool true) (by exact yq) ?_
  simp only [lay]
  refine lv (.bool true) (by exact xm) ?_
  simp only [lay]
  refine lv (.slice A n c) (by exact xm) ?_
  simp only [lay]
  refine lv (.pointer (some ⟨b1, o2 + 7, none⟩)) (by exact xi 7 Try.underlying25 hA3) ?_
  simp only [lay]
  refine lv (.int .u8 (l.getD 7 0)) (by exact xc Try.underlying5 (y.atE (k := 7) hA3 (by omega))) ?_
  simp only [lay]
  by_cases q5 : l.getD 7 0 = 0
  case pos =>
   refine lv (.bool true) (by exact yq) ?_
   simp only [lay]
   refine lv (.bool true) (by exact xp (b := true)) ?_
   simp only [lay]
   refine lv (.bool true) (by exact xa) ?_
   simp only [lay]
   refine wn ?_
   refine wp_ret ?_
   try simp only [Exit.then]
   have e : decide (l.getD 6 0 = 0 ∧ l.getD 7 0 = 0) = true := decide_eq_true (by omega)
   exact bodyPost_ret (res_one Try.results73 rfl) rfl ⟨by rw [e]; rfl, rfl⟩
  refine lv (.bool false) (by exact yqn) ?_
  simp only [lay]
  refine lv (.bool false) (by exact xp (b := true)) ?_
  simp only [lay]
  refine lv (.bool false) (by exact xa) ?_
  simp only [lay]
  refine wn ?_
  refine wp_ret ?_
  try simp only [Exit.then]
  have e : decide (l.getD 6 0 = 0 ∧ l.getD 7 0 = 0) = false := decide_eq_false (by omega)
  exact bodyPost_ret (res_one Try.results73 rfl) rfl ⟨by rw [e]; rfl, rfl⟩
 refine lv (.bool false) (by exact yqn) ?_
 simp only [lay]
 refine lv (.bool false) (by exact xm) ?_
 simp only [lay]
 refine lzn ?_
 simp only [lay]
 refine lzn ?_
 simp only [lay]
 refine lzn ?_
 simp only [lay]
 refine lzn ?_
 simp only [lay]
 refine lv (.bool false) (by exact xp (b := false)) ?_
 simp only [lay]
 refine lv (.bool false) (by exact xa) ?_
 simp only [lay]
 refine wn ?_
 refine wp_ret ?_
 try simp only [Exit.then]
 have e : decide (l.getD 6 0 = 0 ∧ l.getD 7 0 = 0) = false := decide_eq_false (by omega)
 exact bodyPost_ret (res_one Try.results73 rfl) rfl ⟨by rw [e]; rfl, rfl⟩
def Change17 (base : Nat) (w' : World) (d : D4) (s t : List Int) (v : Value) : Prop := ∃ A1 c1 A2 c2, v = .agg #[.slice A1 (from17 d).length c1, .slice A2 (s ++ t).length c2, .bool (d.proto == 17)] ∧ OwnB w' base (.slice A1 (from17 d).length c1) (from17 d) ∧ OwnB w' base (.slice A2 (s ++ t).length c2) (s ++ t)
set_option maxRecDepth 100000 in
theorem changed17_any (d : D4) (p : W4) (s t : List Int) (hE : E6ok s t) (w : World) (hR : Rd4 w.heap.size w d p) :
  Calls Try.prog 71 #[.agg (d.cells p), .agg (ends6 s t)] w fun e w' => ∃ v, e = .returned v ∧ Change17 w.heap.size w' d s t v ∧ Below w.heap.size w w' := by
 have sL := hE.sL
 have tL := hE.tL
 go_enter Try.func71, Try.ntmps71
 refine wp_sr ?_
 refine lz (ow_box 27 (.tmp 0) _ rfl rfl ?_)
 intro g1 W2 hg3 ge4 sz5 hb6
 have z7 := hb6.size
 simp only [lay]
 refine lz (ow_box 31 (.tmp 1) _ rfl rfl ?_)
 intro g8 W9 hg10 ge11 sz12 hb13
 have z14 := hb13.size
 simp only [lay]
 refine lz (oa #[.slice none 0 0, .slice none 0 0, .bool false] ?_)
 intro g15 W16 hg17 ge18 sz19 hb20
 have z21 := hb20.size
 simp only [lay]
 refine wn ?_
 refine wp_seq ?_
 refine rg_drawn g15 (by kernel_rfl) (by omega) ?_
 intro W22 hb23 hs24 hS25
 have z26 := hb23.size
 refine te 0 (.pointer (some ⟨g1, 7, none⟩)) hS25 rfl (by intro _ _; exact xf 7 3 Try.underlying27) ?_
 simp only [lay]
 refine te 1 (.slice (some ⟨g1, 7, none⟩) 4 4) hS25 rfl (by intro _ _; exact ex_arr (by exact rfl) Try.underlying24 (by kernel_rfl) (by exact rfl)) ?_
 simp only [lay]
 refine te 2 (.pointer (some ⟨g1, 11, none⟩)) hS25 rfl (by intro _ _; exact xf 11 3 Try.underlying27) ?_
 simp only [lay]
 refine te 3 (.slice (some ⟨g1, 11, none⟩) 4 4) hS25 rfl (by intro _ _; exact ex_arr (by exact rfl) Try.underlying24 (by kernel_rfl) (by exact rfl)) ?_
 simp only [lay]
 refine te 7 (.pointer (some ⟨g8, 0, none⟩)) hS25 rfl (by intro _ _; exact xf 0 15 Try.underlying31) ?_
 simp only [lay]
 refine te 8 (.slice (some ⟨g8, 0, none⟩) 16 16) hS25 rfl (by intro _ _; exact ex_arr (by exact rfl) Try.underlying29 (by kernel_rfl) (by exact rfl)) ?_
 simp only [lay]
 refine te 9 (.pointer (some ⟨g8, 16, none⟩)) hS25 rfl (by intro _ _; exact xf 16 15 Try.underlying31) ?_
 simp only [lay]
 refine te 10 (.slice (some ⟨g8, 16, none⟩) 16 16) hS25 rfl (by intro _ _; exact ex_arr (by exact rfl) Try.underlying29 (by kernel_rfl) (by exact rfl)) ?_
 simp only [lay]
 refine te 13 (.pointer (some ⟨g1, 6, none⟩)) hS25 rfl (by intro _ _; exact xf 6 0 Try.underlying27) ?_
 simp only [lay]
 have l27 := lq hb13 ge18
 have b28 := bt hb13 hb20
 refine te 14 (.int .u8 d.proto) hS25 rfl (by intro _ h; exact xc Try.underlying5 ((hg3.to (b28.trans (Below.mono h l27))).cell 6 rfl)) ?_
 simp only [lay]
 refine te 15 (.bool (d.proto == 17)) hS25 rfl (by intro _ _; exact ex_eq_int (by exact rfl) (by exact rfl) (by exact rfl)) ?_
 simp only [lay]
 refine tk_two (i := 4) (j := 11) (by kernel_rfl) ?L29 ?L30
 case L29 =>
  refine rs (i := 4) rfl (by kernel_rfl) (ow_make 25 (.const (.int .i64 24)) (.const (.int .i64 24)) rfl 24 24 rfl rfl Try.underlying25 info8 (by decide) (by decide) ?_)
  intro g31 W32 hO33 ge34 sz35 hb36
  have z37 := hb36.size
  refine ⟨(Below.trans hS25 (hb36.mono (Nat.le_trans (by omega) hS25.size))), ?_⟩
  have hS38 := (Below.trans hS25 (hb36.mono (Nat.le_trans (by omega) hS25.size)))
  simp only [lay]
  refine tk_two (i := 5) (j := 11) (by kernel_rfl) ?L39 ?L40
  case L39 =>
   refine rs (i := 5) rfl (by kernel_rfl) (ow_build [.slice (some ⟨g1, 7, none⟩) 4 4, .slice (some ⟨g1, 11, none⟩) 4 4, .slice (some ⟨g31, 0, none⟩) 24 24] rfl Try.underlying106 (by kernel_rfl) (by kernel_rfl) rfl (by decide) (by decide) (by first | rfl | (simp only [List.map_toArray, List.map_cons, List.map_nil] <;> rfl)) (by simp [Value.cells]) ?_)
   intro g41 W42 hg43 ge44 sz45 hb46
   have z47 := hb46.size
   refine ⟨(Below.trans hS38 (hb46.mono (Nat.le_trans (by omega) hS38.size))), ?_⟩
   have hS48 := (Below.trans hS38 (hb46.mono (Nat.le_trans (by omega) hS38.size)))
   simp only [lay]
   refine tk_two (i := 6) (j := 11) (by kernel_rfl) ?L49 ?L50
   case L49 =>
    have b51 := bt b28 hb23
    have b52 := bt b51 hb36
    have b53 := bt b52 hb46
    have has54 := hg3.to b53
    have own55 := hO33.to hb46
    refine rs (i := 6) rfl (by kernel_rfl) (ow_call (fun v w' => OwnB w' W42.heap.size v (from17 d) ∧ Below W42.heap.size W42 w') (by exact xk Try.func87) (concat3 hg43 (has54.byIn 7 4 d.src rfl (by kernel_rfl) hR.ok.src (by decide)) (has54.byIn 11 4 d.dst rfl (by kernel_rfl) hR.ok.dst (by decide)) (own_byS own55) (by simp; try omega)) ?_)
    rintro v58 W56 ⟨hO59, hb57⟩
    have z60 := hb57.size
    obtain ⟨A61, c62, rfl, y63⟩ := hO59.by_
    refine ⟨(Below.trans hS48 (hb57.mono (Nat.le_trans (by omega) hS48.size))), ?_⟩
    have hS64 := (Below.trans hS48 (hb57.mono (Nat.le_trans (by omega) hS48.size)))
    simp only [lay]
    refine t1 11 rfl (ow_build [.slice (some ⟨g8, 0, none⟩) 16 16, .slice (some ⟨g8, 16, none⟩) 16 16] rfl Try.underlying106 (by kernel_rfl) (by kernel_rfl) rfl (by decide) (by decide) (by first | rfl | (simp only [List.map_toArray, List.map_cons, List.map_nil] <;> rfl)) (by simp [Value.cells]) ?_)
    intro g65 W66 hg67 ge68 sz69 hb70
    have z71 := hb70.size
    refine ⟨(Below.trans hS64 (hb70.mono (Nat.le_trans (by omega) hS64.size))), ?_⟩
    have hS72 := (Below.trans hS64 (hb70.mono (Nat.le_trans (by omega) hS64.size)))
    simp only [lay]
    have b73 := bt hb20 hb23
    have b74 := bt b73 hb36
    have b75 := bt b74 hb46
    have b76 := bt b75 hb57
    have b77 := bt b76 hb70
    have has78 := hg10.to b77
    refine t1 12 rfl (ow_call (fun v w' => OwnB w' W66.heap.size v (s ++ t) ∧ Below W66.heap.size W66 w') (by exact xk Try.func87) (concat2 hg67 (has78.byIn 0 16 s hE.sL ((show (_ : List Value) = u8s (l16 s) from by kernel_rfl).trans (u8s_16 hE.sL)) hE.s (by decide)) (has78.byIn 16 16 t hE.tL ((show (_ : List Value) = u8s (l16 t) from by kernel_rfl).trans (u8s_16 hE.tL)) hE.t (by decide)) (by simp; try omega)) ?_)
    rintro v81 W79 ⟨hO82, hb80⟩
    have z83 := hb80.size
    obtain ⟨A84, c85, rfl, y86⟩ := hO82.by_
    refine ⟨(Below.trans hS72 (hb80.mono (Nat.le_trans (by omega) hS72.size))), ?_⟩
    have hS87 := (Below.trans hS72 (hb80.mono (Nat.le_trans (by omega) hS72.size)))
    simp only [lay]
    refine te 16 (.agg #[.slice A61 ((from17 d).length) c62, .slice A84 ((s ++ t).length) c85, .bool (d.proto == 17)]) hS87 rfl (by intro _ _; kernel_rfl) ?_
    simp only [lay]
    have b92 := bt hb23 hb36
    have b93 := bt b92 hb46
    have b94 := bt b93 hb57
    have b95 := bt b94 hb70
    have b96 := bt b95 hb80
    have has97 := hg17.to b96
    refine t1 17 rfl (ow_st 123 (.tmp 4) (.tmp 21) g15 #[.slice A61 ((from17 d).length) c62, .slice A84 ((s ++ t).length) c85, .bool (d.proto == 17)] _ _ rfl (by exact rfl) (by exact rfl) has97 (by kernel_rfl) rfl (by kernel_rfl) ?_)
    intro W88 hg89 bs90 hb91
    have b98 := bt hb46 hb57
    have b99 := bt b98 hb70
    have b100 := bt b99 hb80
    have own101 := hO33.to b100
    have b102 := bt hb57 hb70
    have b103 := bt b102 hb80
    have has104 := hg43.to b103
    have b105 := bt hb70 hb80
    have own106 := hO59.to b105
    have has107 := hg67.to hb80
    have z108 := hb91.size
    have own109 := own101.but6 bs90 (by omega)
    have has110 := has104.but6 bs90 (by omega)
    have own111 := own106.but6 bs90 (by omega)
    have has112 := has107.but6 bs90 (by omega)
    have own113 := hO82.but6 bs90 (by omega)
    refine ⟨(Below.trans hS87 hb91), ?_⟩
    have hS114 := (Below.trans hS87 hb91)
    simp only [lay]
    refine wpAnyH_done (by kernel_rfl) ?_ _
    change Code.wp _ _ _ _ _
    refine wp_ret ?_
    try simp only [Exit.then]
    have b115 := bt hb6 hb13
    have b116 := bt b115 hb20
    have b117 := bt b116 hb23
    have b118 := bt b117 hb36
    have b119 := bt b118 hb46
    have b120 := bt b119 hb57
    have b121 := bt b120 hb70
    have b122 := bt b121 hb80
    have l123 := lq b115 ge18
    have b124 := b122.trans (hb91.mono l123)
    exact bodyPost_ret (res_cell Try.results71 rfl (hg89.load (P := Try.prog) 123 Try.underlying123 rfl (by kernel_rfl))) rfl ⟨_, rfl, ⟨_, _, _, _, rfl, (own111.more b119.size), (own113.more b121.size)⟩, b124⟩
   case L50 =>
    refine rs (i := 11) rfl (by kernel_rfl) (ow_build [.slice (some ⟨g8, 0, none⟩) 16 16, .slice (some ⟨g8, 16, none⟩) 16 16] rfl Try.underlying106 (by kernel_rfl) (by kernel_rfl) rfl (by decide) (by decide) (by first | rfl | (simp only [List.map_toArray, List.map_cons, List.map_nil] <;> rfl)) (by simp [Value.cells]) ?_)
    intro g125 W126 hg127 ge128 sz129 hb130
    have z131 := hb130.size
    refine ⟨(Below.trans hS48 (hb130.mono (Nat.le_trans (by omega) hS48.size))), ?_⟩
    have hS132 := (Below.trans hS48 (hb130.mono (Nat.le_trans (by omega) hS48.size)))
    simp only [lay]
    have has133 := hg43.to hb130
    have b134 := bt b28 hb23
    have b135 := bt b134 hb36
    have b136 := bt b135 hb46
    have b137 := bt b136 hb130
    have has138 := hg3.to b137
    have b139 := bt hb46 hb130
    have own140 := hO33.to b139
    refine t1 6 rfl (ow_call (fun v w' => OwnB w' W126.heap.size v (from17 d) ∧ Below W126.heap.size W126 w') (by exact xk Try.func87) (concat3 has133 (has138.byIn 7 4 d.src rfl (by kernel_rfl) hR.ok.src (by decide)) (has138.byIn 11 4 d.dst rfl (by kernel_rfl) hR.ok.dst (by decide)) (own_byS own140) (by simp; try omega)) ?_)
    rintro v143 W141 ⟨hO144, hb142⟩
    have z145 := hb142.size
    obtain ⟨A146, c147, rfl, y148⟩ := hO144.by_
    refine ⟨(Below.trans hS132 (hb142.mono (Nat.le_trans (by omega) hS132.size))), ?_⟩
    have hS149 := (Below.trans hS132 (hb142.mono (Nat.le_trans (by omega) hS132.size)))
    simp only [lay]
    have has150 := hg127.to hb142
    have b151 := bt hb20 hb23
    have b152 := bt b151 hb36
    have b153 := bt b152 hb46
    have b154 := bt b153 hb130
    have b155 := bt b154 hb142
    have has156 := hg10.to b155
    refine t1 12 rfl (ow_call (fun v w' => OwnB w' W141.heap.size v (s ++ t) ∧ Below W141.heap.size W141 w') (by exact xk Try.func87) (concat2 has150 (has156.byIn 0 16 s hE.sL ((show (_ : List Value) = u8s (l16 s) from by kernel_rfl).trans (u8s_16 hE.sL)) hE.s (by decide)) (has156.byIn 16 16 t hE.tL ((show (_ : List Value) = u8s (l16 t) from by kernel_rfl).trans (u8s_16 hE.tL)) hE.t (by decide)) (by simp; try omega)) ?_)
    rintro v159 W157 ⟨hO160, hb158⟩
    have z161 := hb158.size
    obtain ⟨A162, c163, rfl, y164⟩ := hO160.by_
    refine ⟨(Below.trans hS149 (hb158.mono (Nat.le_trans (by omega) hS149.size))), ?_⟩
    have hS165 := (Below.trans hS149 (hb158.mono (Nat.le_trans (by omega) hS149.size)))
    simp only [lay]
    refine te 16 (.agg #[.slice A146 ((from17 d).length) c147, .slice A162 ((s ++ t).length) c163, .bool (d.proto == 17)]) hS165 rfl (by intro _ _; kernel_rfl) ?_
    simp only [lay]
    have b170 := bt hb23 hb36
    have b171 := bt b170 hb46
    have b172 := bt b171 hb130
    have b173 := bt b172 hb142
    have b174 := bt b173 hb158
    have has175 := hg17.to b174
    refine t1 17 rfl (ow_st 123 (.tmp 4) (.tmp 21) g15 #[.slice A146 ((from17 d).length) c147, .slice A162 ((s ++ t).length) c163, .bool (d.proto == 17)] _ _ rfl (by exact rfl) (by exact rfl) has175 (by kernel_rfl) rfl (by kernel_rfl) ?_)
    intro W166 hg167 bs168 hb169
    have b176 := bt b139 hb142
    have b177 := bt b176 hb158
    have own178 := hO33.to b177
    have b179 := bt hb130 hb142
    have b180 := bt b179 hb158
    have has181 := hg43.to b180
    have b182 := bt hb142 hb158
    have has183 := hg127.to b182
    have own184 := hO144.to hb158
    have z185 := hb169.size
    have own186 := own178.but6 bs168 (by omega)
    have has187 := has181.but6 bs168 (by omega)
    have has188 := has183.but6 bs168 (by omega)
    have own189 := own184.but6 bs168 (by omega)
    have own190 := hO160.but6 bs168 (by omega)
    refine ⟨(Below.trans hS165 hb169), ?_⟩
    have hS191 := (Below.trans hS165 hb169)
    simp only [lay]
    refine wpAnyH_done (by kernel_rfl) ?_ _
    change Code.wp _ _ _ _ _
    refine wp_ret ?_
    try simp only [Exit.then]
    have b192 := bt hb6 hb13
    have b193 := bt b192 hb20
    have b194 := bt b193 hb23
    have b195 := bt b194 hb36
    have b196 := bt b195 hb46
    have b197 := bt b196 hb130
    have b198 := bt b197 hb142
    have b199 := bt b198 hb158
    have l200 := lq b192 ge18
    have b201 := b199.trans (hb169.mono l200)
    exact bodyPost_ret (res_cell Try.results71 rfl (hg167.load (P := Try.prog) 123 Try.underlying123 rfl (by kernel_rfl))) rfl ⟨_, rfl, ⟨_, _, _, _, rfl, (own189.more b197.size), (own190.more b198.size)⟩, b201⟩
  case L40 =>
   refine rs (i := 11) rfl (by kernel_rfl) (ow_build [.slice (some ⟨g8, 0, none⟩) 16 16, .slice (some ⟨g8, 16, none⟩) 16 16] rfl Try.underlying106 (by kernel_rfl) (by kernel_rfl) rfl (by decide) (by decide) (by first | rfl | (simp only [List.map_toArray, List.map_cons, List.map_nil] <;> rfl)) (by simp [Value.cells]) ?_)
   intro g202 W203 hg204 ge205 sz206 hb207
   have z208 := hb207.size
   refine ⟨(Below.trans hS38 (hb207.mono (Nat.le_trans (by omega) hS38.size))), ?_⟩
   have hS209 := (Below.trans hS38 (hb207.mono (Nat.le_trans (by omega) hS38.size)))
   simp only [lay]
   refine t1 5 rfl (ow_build [.slice (some ⟨g1, 7, none⟩) 4 4, .slice (some ⟨g1, 11, none⟩) 4 4, .slice (some ⟨g31, 0, none⟩) 24 24] rfl Try.underlying106 (by kernel_rfl) (by kernel_rfl) rfl (by decide) (by decide) (by first | rfl | (simp only [List.map_toArray, List.map_cons, List.map_nil] <;> rfl)) (by simp [Value.cells]) ?_)
   intro g210 W211 hg212 ge213 sz214 hb215
   have z216 := hb215.size
   refine ⟨(Below.trans hS209 (hb215.mono (Nat.le_trans (by omega) hS209.size))), ?_⟩
   have hS217 := (Below.trans hS209 (hb215.mono (Nat.le_trans (by omega) hS209.size)))
   simp only [lay]
   have b218 := bt b28 hb23
   have b219 := bt b218 hb36
   have b220 := bt b219 hb207
   have b221 := bt b220 hb215
   have has222 := hg3.to b221
   have b223 := bt hb207 hb215
   have own224 := hO33.to b223
   refine t1 6 rfl (ow_call (fun v w' => OwnB w' W211.heap.size v (from17 d) ∧ Below W211.heap.size W211 w') (by exact xk Try.func87) (concat3 hg212 (has222.byIn 7 4 d.src rfl (by kernel_rfl) hR.ok.src (by decide)) (has222.byIn 11 4 d.dst rfl (by kernel_rfl) hR.ok.dst (by decide)) (own_byS own224) (by simp; try omega)) ?_)
   rintro v227 W225 ⟨hO228, hb226⟩
   have z229 := hb226.size
   obtain ⟨A230, c231, rfl, y232⟩ := hO228.by_
   refine ⟨(Below.trans hS217 (hb226.mono (Nat.le_trans (by omega) hS217.size))), ?_⟩
   have hS233 := (Below.trans hS217 (hb226.mono (Nat.le_trans (by omega) hS217.size)))
   simp only [lay]
   have b234 := bt hb215 hb226
   have has235 := hg204.to b234
   have b236 := bt hb20 hb23
   have b237 := bt b236 hb36
   have b238 := bt b237 hb207
   have b239 := bt b238 hb215
   have b240 := bt b239 hb226
   have has241 := hg10.to b240
   refine t1 12 rfl (ow_call (fun v w' => OwnB w' W225.heap.size v (s ++ t) ∧ Below W225.heap.size W225 w') (by exact xk Try.func87) (concat2 has235 (has241.byIn 0 16 s hE.sL ((show (_ : List Value) = u8s (l16 s) from by kernel_rfl).trans (u8s_16 hE.sL)) hE.s (by decide)) (has241.byIn 16 16 t hE.tL ((show (_ : List Value) = u8s (l16 t) from by kernel_rfl).trans (u8s_16 hE.tL)) hE.t (by decide)) (by simp; try omega)) ?_)
   rintro v244 W242 ⟨hO245, hb243⟩
   have z246 := hb243.size
   obtain ⟨A247, c248, rfl, y249⟩ := hO245.by_
   refine ⟨(Below.trans hS233 (hb243.mono (Nat.le_trans (by omega) hS233.size))), ?_⟩
   have hS250 := (Below.trans hS233 (hb243.mono (Nat.le_trans (by omega) hS233.size)))
   simp only [lay]
   refine te 16 (.agg #[.slice A230 ((from17 d).length) c231, .slice A247 ((s ++ t).length) c248, .bool (d.proto == 17)]) hS250 rfl (by intro _ _; kernel_rfl) ?_
   simp only [lay]
   have b255 := bt hb23 hb36
   have b256 := bt b255 hb207
   have b257 := bt b256 hb215
   have b258 := bt b257 hb226
   have b259 := bt b258 hb243
   have has260 := hg17.to b259
   refine t1 17 rfl (ow_st 123 (.tmp 4) (.tmp 21) g15 #[.slice A230 ((from17 d).length) c231, .slice A247 ((s ++ t).length) c248, .bool (d.proto == 17)] _ _ rfl (by exact rfl) (by exact rfl) has260 (by kernel_rfl) rfl (by kernel_rfl) ?_)
   intro W251 hg252 bs253 hb254
   have b261 := bt b223 hb226
   have b262 := bt b261 hb243
   have own263 := hO33.to b262
   have b264 := bt b234 hb243
   have has265 := hg204.to b264
   have b266 := bt hb226 hb243
   have has267 := hg212.to b266
   have own268 := hO228.to hb243
   have z269 := hb254.size
   have own270 := own263.but6 bs253 (by omega)
   have has271 := has265.but6 bs253 (by omega)
   have has272 := has267.but6 bs253 (by omega)
   have own273 := own268.but6 bs253 (by omega)
   have own274 := hO245.but6 bs253 (by omega)
   refine ⟨(Below.trans hS250 hb254), ?_⟩
   have hS275 := (Below.trans hS250 hb254)
   simp only [lay]
   refine wpAnyH_done (by kernel_rfl) ?_ _
   change Code.wp _ _ _ _ _
   refine wp_ret ?_
   try simp only [Exit.then]
   have b276 := bt hb6 hb13
   have b277 := bt b276 hb20
   have b278 := bt b277 hb23
   have b279 := bt b278 hb36
   have b280 := bt b279 hb207
   have b281 := bt b280 hb215
   have b282 := bt b281 hb226
   have b283 := bt b282 hb243
   have l284 := lq b276 ge18
   have b285 := b283.trans (hb254.mono l284)
   exact bodyPost_ret (res_cell Try.results71 rfl (hg252.load (P := Try.prog) 123 Try.underlying123 rfl (by kernel_rfl))) rfl ⟨_, rfl, ⟨_, _, _, _, rfl, (own273.more b281.size), (own274.more b282.size)⟩, b285⟩
 case L30 =>
  refine rs (i := 11) rfl (by kernel_rfl) (ow_build [.slice (some ⟨g8, 0, none⟩) 16 16, .slice (some ⟨g8, 16, none⟩) 16 16] rfl Try.underlying106 (by kernel_rfl) (by kernel_rfl) rfl (by decide) (by decide) (by first | rfl | (simp only [List.map_toArray, List.map_cons, List.map_nil] <;> rfl)) (by simp [Value.cells]) ?_)
  intro g286 W287 hg288 ge289 sz290 hb291
  have z292 := hb291.size
  refine ⟨(Below.trans hS25 (hb291.mono (Nat.le_trans (by omega) hS25.size))), ?_⟩
  have hS293 := (Below.trans hS25 (hb291.mono (Nat.le_trans (by omega) hS25.size)))
  simp only [lay]
  refine t1 4 rfl (ow_make 25 (.const (.int .i64 24)) (.const (.int .i64 24)) rfl 24 24 rfl rfl Try.underlying25 info8 (by decide) (by decide) ?_)
  intro g294 W295 hO296 ge297 sz298 hb299
  have z300 := hb299.size
  refine ⟨(Below.trans hS293 (hb299.mono (Nat.le_trans (by omega) hS293.size))), ?_⟩
  have hS301 := (Below.trans hS293 (hb299.mono (Nat.le_trans (by omega) hS293.size)))
  simp only [lay]
  refine t1 5 rfl (ow_build [.slice (some ⟨g1, 7, none⟩) 4 4, .slice (some ⟨g1, 11, none⟩) 4 4, .slice (some ⟨g294, 0, none⟩) 24 24] rfl Try.underlying106 (by kernel_rfl) (by kernel_rfl) rfl (by decide) (by decide) (by first | rfl | (simp only [List.map_toArray, List.map_cons, List.map_nil] <;> rfl)) (by simp [Value.cells]) ?_)
  intro g302 W303 hg304 ge305 sz306 hb307
  have z308 := hb307.size
  refine ⟨(Below.trans hS301 (hb307.mono (Nat.le_trans (by omega) hS301.size))), ?_⟩
  have hS309 := (Below.trans hS301 (hb307.mono (Nat.le_trans (by omega) hS301.size)))
  simp only [lay]
  have b310 := bt b28 hb23
  have b311 := bt b310 hb291
  have b312 := bt b311 hb299
  have b313 := bt b312 hb307
  have has314 := hg3.to b313
  have own315 := hO296.to hb307
  refine t1 6 rfl (ow_call (fun v w' => OwnB w' W303.heap.size v (from17 d) ∧ Below W303.heap.size W303 w') (by exact xk Try.func87) (concat3 hg304 (has314.byIn 7 4 d.src rfl (by kernel_rfl) hR.ok.src (by decide)) (has314.byIn 11 4 d.dst rfl (by kernel_rfl) hR.ok.dst (by decide)) (own_byS own315) (by simp; try omega)) ?_)
  rintro v318 W316 ⟨hO319, hb317⟩
  have z320 := hb317.size
  obtain ⟨A321, c322, rfl, y323⟩ := hO319.by_
  refine ⟨(Below.trans hS309 (hb317.mono (Nat.le_trans (by omega) hS309.size))), ?_⟩
  have hS324 := (Below.trans hS309 (hb317.mono (Nat.le_trans (by omega) hS309.size)))
  simp only [lay]
  have b325 := bt hb299 hb307
  have b326 := bt b325 hb317
  have has327 := hg288.to b326
  have b328 := bt hb20 hb23
  have b329 := bt b328 hb291
  have b330 := bt b329 hb299
  have b331 := bt b330 hb307
  have b332 := bt b331 hb317
  have has333 := hg10.to b332
  refine t1 12 rfl (ow_call (fun v w' => OwnB w' W316.heap.size v (s ++ t) ∧ Below W316.heap.size W316 w') (by exact xk Try.func87) (concat2 has327 (has333.byIn 0 16 s hE.sL ((show (_ : List Value) = u8s (l16 s) from by kernel_rfl).trans (u8s_16 hE.sL)) hE.s (by decide)) (has333.byIn 16 16 t hE.tL ((show (_ : List Value) = u8s (l16 t) from by kernel_rfl).trans (u8s_16 hE.tL)) hE.t (by decide)) (by simp; try omega)) ?_)
  rintro v336 W334 ⟨hO337, hb335⟩
  have z338 := hb335.size
  obtain ⟨A339, c340, rfl, y341⟩ := hO337.by_
  refine ⟨(Below.trans hS324 (hb335.mono (Nat.le_trans (by omega) hS324.size))), ?_⟩
  have hS342 := (Below.trans hS324 (hb335.mono (Nat.le_trans (by omega) hS324.size)))
  simp only [lay]
  refine te 16 (.agg #[.slice A321 ((from17 d).length) c322, .slice A339 ((s ++ t).length) c340, .bool (d.proto == 17)]) hS342 rfl (by intro _ _; kernel_rfl) ?_
  simp only [lay]
  have b347 := bt hb23 hb291
  have b348 := bt b347 hb299
  have b349 := bt b348 hb307
  have b350 := bt b349 hb317
  have b351 := bt b350 hb335
  have has352 := hg17.to b351
  refine t1 17 rfl (ow_st 123 (.tmp 4) (.tmp 21) g15 #[.slice A321 ((from17 d).length) c322, .slice A339 ((s ++ t).length) c340, .bool (d.proto == 17)] _ _ rfl (by exact rfl) (by exact rfl) has352 (by kernel_rfl) rfl (by kernel_rfl) ?_)
  intro W343 hg344 bs345 hb346
  have b353 := bt b326 hb335
  have has354 := hg288.to b353
  have b355 := bt hb307 hb317
  have b356 := bt b355 hb335
  have own357 := hO296.to b356
  have b358 := bt hb317 hb335
  have has359 := hg304.to b358
  have own360 := hO319.to hb335
  have z361 := hb346.size
  have has362 := has354.but6 bs345 (by omega)
  have own363 := own357.but6 bs345 (by omega)
  have has364 := has359.but6 bs345 (by omega)
  have own365 := own360.but6 bs345 (by omega)
  have own366 := hO337.but6 bs345 (by omega)
  refine ⟨(Below.trans hS342 hb346), ?_⟩
  have hS367 := (Below.trans hS342 hb346)
  simp only [lay]
  refine wpAnyH_done (by kernel_rfl) ?_ _
  change Code.wp _ _ _ _ _
  refine wp_ret ?_
  try simp only [Exit.then]
  have b368 := bt hb6 hb13
  have b369 := bt b368 hb20
  have b370 := bt b369 hb23
  have b371 := bt b370 hb291
  have b372 := bt b371 hb299
  have b373 := bt b372 hb307
  have b374 := bt b373 hb317
  have b375 := bt b374 hb335
  have l376 := lq b368 ge18
  have b377 := b375.trans (hb346.mono l376)
  exact bodyPost_ret (res_cell Try.results71 rfl (hg344.load (P := Try.prog) 123 Try.underlying123 rfl (by kernel_rfl))) rfl ⟨_, rfl, ⟨_, _, _, _, rfl, (own365.more b373.size), (own366.more b374.size)⟩, b377⟩
end Go.Proofs.Ytijnifbpbgckgaa
