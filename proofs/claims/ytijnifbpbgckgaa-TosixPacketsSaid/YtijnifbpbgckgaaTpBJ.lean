/-
  Lemmas and walks for the row of TosixPackets (part 36 of 45).
-/
import Derived.Test.YtijnifbpbgckgaaTpAF
import Derived.Test.YtijnifbpbgckgaaTpBI
set_option linter.unusedVariables false
set_option linter.unusedSimpArgs false
namespace Go.Proofs.Ytijnifbpbgckgaa
open Go.RowKit Go.Shelf
attribute [local irreducible] wpList Code.wp Oper.wp wpOp wpAnyH

set_option maxRecDepth 100000 in
set_option maxHeartbeats 4000000 in
theorem rcarried_any (d : D4) (hd : d.ok) (p : W4) (s t : List Int) (hE : E6ok s t) (A : Option Addr) (n c : Nat) (l : List Int) (k : Nat) (w : World) (y : By w.heap.size w A n c l) (hk : k + 2 ≤ n) (hn : n ≤ 65536) :
  Calls Try.prog 80 #[.agg (d.cells p), .agg (ends6 s t), .slice A n c, .int .i64 (k : Int)] w fun e w' => ∃ v, e = .returned v ∧ OwnB w' w.heap.size v (carry17 (d.proto == 17) (from17 d) (s ++ t) l k) ∧ Below w.heap.size w w' := by
 have sL := hE.sL
 have tL := hE.tL
 have yl := y.len
 have he : (from17 d).length = (s ++ t).length ∧ (s ++ t).length % 2 = 0 := by rw [from17_len, List.length_append, sL, tL]; decide
 go_enter Try.func80, Try.ntmps80
 refine wp_sr ?_
 refine lz (ow_box 27 (.tmp 0) _ rfl rfl ?_)
 intro g1 W2 hg3 ge4 sz5 hb6
 have z7 := hb6.size
 simp only [lay]
 refine lz (ow_box 31 (.tmp 1) _ rfl rfl ?_)
 intro g8 W9 hg10 ge11 sz12 hb13
 have z14 := hb13.size
 simp only [lay]
 refine lv (.slice none 0 0) (by exact xa) ?_
 simp only [lay]
 refine wn ?_
 refine wp_sr ?_
 refine lz (ow_build0 rfl Try.underlying25 (by kernel_rfl) ?_)
 intro g15 W16 hg17 ge18 sz19 hb20
 have z21 := hb20.size
 have hO22 : OwnB W16 W9.heap.size (.slice (some ⟨g15, 0, none⟩) 0 0) [] := OwnB.blk (l := []) hg17 (Nat.le_of_eq ge18.symm) rfl InB.nil (by simp)
 simp only [lay]
 refine lv (.slice A n c) (by exact xm) ?_
 simp only [lay]
 have b28 := bt hb6 hb13
 have b29 := bt b28 hb20
 have by30 := y.to b29
 refine lz (ow_app (.tmp 12) (.tmp 13) 25 rfl Try.underlying25 info8 _ _ [] rfl hO22 _ _ _ _ l rfl by30 (by simp only [List.length_nil]; omega) hb20.size ?_)
 intro v27 W23 hO24 hb25 hgr26
 have z31 := hb25.size
 have hO32 : OwnB W23 W9.heap.size v27 l := hO24
 obtain ⟨A33, c34, rfl, y35⟩ := hO32.by_
 simp only [lay]
 refine lv (.slice A33 l.length c34) (by exact xa) ?_
 simp only [lay]
 refine wn ?_
 refine wp_seq ?_
 refine rg_drawn W23.heap.size (by kernel_rfl) (Nat.le_refl _) ?_
 intro W36 hb37 hs38 hS39
 have z40 := hb37.size
 refine te 0 (.slice A33 l.length c34) hS39 rfl (by intro _ _; exact xm) ?_
 simp only [lay]
 refine te 1 (.int .i64 (k : Int)) hS39 rfl (by intro _ _; exact xm) ?_
 simp only [lay]
 obtain ⟨g41, rfl, h42, h43⟩ := own_form hO32 (by first | omega | simp [D4.src])
 refine te 2 (.pointer (some ⟨g41, 0 + k, none⟩)) hS39 rfl (by intro _ _; exact ex_index (k := k) (by exact rfl) Try.underlying25 (by kernel_rfl) (by exact rfl) (by exact rfl) (show k < l.length by omega)) ?_
 simp only [lay]
 refine te 3 (.int .u8 (l.getD k 0)) hS39 rfl (by intro _ h; exact xc Try.underlying5 ((own_byS (hO32.to h)).atE (k := k) rfl (by omega))) ?_
 simp only [lay]
 refine te 4 (.int .u16 (l.getD k 0)) hS39 rfl (by intro _ _; exact xv (conv_u16 5 22 .u8 (l.getD k 0) (by kernel_rfl) Try.underlying22 (in_rng (getD_byte hO32.rng k)).1 (in_rng (getD_byte hO32.rng k)).2.1 _)) ?_
 simp only [lay]
 refine te 5 (.int .u16 ((l.getD k 0) * 256)) hS39 rfl (by intro _ _; exact xb (w_mul16 _ _ (getD_byte hO32.rng k) _)) ?_
 simp only [lay]
 refine te 6 (.slice (some ⟨g41, 0, none⟩) l.length c34) hS39 rfl (by intro _ _; exact xm) ?_
 simp only [lay]
 refine te 7 (.int .i64 (k : Int)) hS39 rfl (by intro _ _; exact xm) ?_
 simp only [lay]
 refine te 8 (.int .i64 ((k + 1 : Nat) : Int)) hS39 rfl (by intro _ _; exact xb (add1_i64 _ k (by omega) _)) ?_
 simp only [lay]
 refine te 9 (.pointer (some ⟨g41, 0 + (k + 1), none⟩)) hS39 rfl (by intro _ _; exact ex_index (k := (k + 1)) (by exact rfl) Try.underlying25 (by kernel_rfl) (by exact rfl) (by exact rfl) (show (k + 1) < l.length by omega)) ?_
 simp only [lay]
 refine te 10 (.int .u8 (l.getD (k + 1) 0)) hS39 rfl (by intro _ h; exact xc Try.underlying5 ((own_byS (hO32.to h)).atE (k := (k + 1)) rfl (by omega))) ?_
 simp only [lay]
 refine te 11 (.int .u16 (l.getD (k + 1) 0)) hS39 rfl (by intro _ _; exact xv (conv_u16 5 22 .u8 (l.getD (k + 1) 0) (by kernel_rfl) Try.underlying22 (in_rng (getD_byte hO32.rng (k + 1))).1 (in_rng (getD_byte hO32.rng (k + 1))).2.1 _)) ?_
 simp only [lay]
 refine te 12 (.int .u16 ((l.getD k 0) * 256 + l.getD (k + 1) 0)) hS39 rfl (by intro _ _; exact xb (w_add16 _ _ _ (getD_byte hO32.rng k) (getD_byte hO32.rng (k + 1)) _)) ?_
 simp only [lay]
 have b44 := bt hb13 hb20
 have l45 := Nat.le_trans hb13.size (Nat.le_refl _)
 have b46 := b44.trans (hb25.mono l45)
 have has47 := hg3.to b46
 refine te 13 (.agg (d.cells p)) hS39 rfl (by intro _ h; exact xo ((has47.to h).load (P := Try.prog) 27 Try.underlying27 rfl (by kernel_rfl))) ?_
 simp only [lay]
 have b48 := hb20.trans (hb25.mono (Nat.le_refl _))
 have has49 := hg10.to b48
 refine te 15 (.agg (ends6 s t)) hS39 rfl (by intro _ h; exact xo ((has49.to h).load (P := Try.prog) 31 Try.underlying31 rfl (by kernel_rfl))) ?_
 simp only [lay]
 refine t1 14 rfl (ow_call (fun v w' => OwnB w' W36.heap.size v (from17 d) ∧ Below W36.heap.size W36 w') (by exact xk Try.func102) (rfour_any d hd p W36) ?_)
 rintro v52 W50 ⟨hO53, hb51⟩
 have z54 := hb51.size
 obtain ⟨A55, c56, rfl, y57⟩ := hO53.by_
 refine ⟨(Below.trans hS39 (hb51.mono hS39.size)), ?_⟩
 have hS58 := (Below.trans hS39 (hb51.mono hS39.size))
 simp only [lay]
 refine t1 16 rfl (ow_call (fun v w' => OwnB w' W50.heap.size v (s ++ t) ∧ Below W50.heap.size W50 w') (by exact xk Try.func91) (rsix_any s t hE W50) ?_)
 rintro v61 W59 ⟨hO62, hb60⟩
 have z63 := hb60.size
 obtain ⟨A64, c65, rfl, y66⟩ := hO62.by_
 refine ⟨(Below.trans hS58 (hb60.mono hS58.size)), ?_⟩
 have hS67 := (Below.trans hS58 (hb60.mono hS58.size))
 simp only [lay]
 have own68 := hO53.to hb60
 refine t1 17 rfl (ow_call (fun v w' => (∃ q, v = .tuple #[.int .u16 q, .int .i64 0] ∧ q = (updateS ((l.getD k 0) * 256 + l.getD (k + 1) 0) (from17 d) (s ++ t)).1 ∧ 0 ≤ q ∧ q < 65536) ∧ Below W59.heap.size W59 w') (by exact xk Try.func92) (rupdate_one (two_rng (getD_byte hO32.rng k) (getD_byte hO32.rng (k + 1))) (own_byS own68) (own_byS hO62) he (by first | omega | simp [sL, tL])) ?_)
 rintro _ W69 ⟨⟨q71, rfl, hq72, q073, q174⟩, hb70⟩
 have z75 := hb70.size
 refine ⟨(Below.trans hS67 (hb70.mono hS67.size)), ?_⟩
 have hS76 := (Below.trans hS67 (hb70.mono hS67.size))
 simp only [lay]
 refine te 18 (.tuple #[.int .u16 q71, .int .i64 0]) hS76 rfl (by intro _ _; exact xm) ?_
 simp only [lay]
 refine te 19 (.int .u16 q71) hS76 rfl (by intro _ _; exact xe) ?_
 simp only [lay]
 refine te 20 (.int .i64 0) hS76 rfl (by intro _ _; exact xe) ?_
 simp only [lay]
 refine te 21 (.int .u16 q71) hS76 rfl (by intro _ _; exact xa) ?_
 simp only [lay]
 refine te 22 (.int .i64 0) hS76 rfl (by intro _ _; exact xa) ?_
 simp only [lay]
 refine wpAnyH_done (by kernel_rfl) ?_ _
 change Code.wp _ _ _ _ _
 refine wp_seq ?_
 refine wp_sr ?_
 refine lv (.int .u16 q71) (by exact xm) ?_
 simp only [lay]
 by_cases q77 : q71 = 0
 case pos =>
  refine lv (.bool true) (by exact yq) ?_
  simp only [lay]
  refine lv (.bool true) (by exact xm) ?_
  simp only [lay]
  refine lv (.pointer (some ⟨g1, 6, none⟩)) (by exact xf 6 0 Try.underlying27) ?_
  simp only [lay]
  have b78 := bt b46 hb37
  have b79 := bt b78 hb51
  have b80 := bt b79 hb60
  have b81 := bt b80 hb70
  have has82 := hg3.to b81
  refine lv (.int .u8 d.proto) (by exact xc Try.underlying5 (has82.cell 6 rfl)) ?_
  simp only [lay]
  by_cases q83 : d.proto = 17
  case pos =>
   refine lv (.bool true) (by exact yq) ?_
   simp only [lay]
   refine lv (.bool true) (by exact xp (b := true)) ?_
   simp only [lay]
   refine wn ?_
   refine cT9 ?_
   refine wp_region_lit ?_
   refine lv (.int .u16 65535) (by exact xa) ?_
   simp only [lay]
   refine wn ?_
   refine wp_sr ?_
   refine lv (.slice (some ⟨g41, 0, none⟩) l.length c34) (by exact xm) ?_
   simp only [lay]
   refine lv (.int .i64 (k : Int)) (by exact xm) ?_
   simp only [lay]
   refine lv (.slice (some ⟨g41, 0, none⟩) l.length c34) (by exact xm) ?_
   simp only [lay]
   refine lv (.int .i64 (k : Int)) (by exact xm) ?_
   simp only [lay]
   refine lv (.int .i64 ((k + 1 : Nat) : Int)) (by exact xb (add1_i64 _ k (by omega) _)) ?_
   simp only [lay]
   refine lv (.int .u16 65535) (by exact xm) ?_
   simp only [lay]
   refine lv (.int .u16 (65535 / 256)) (by exact xb (w_shr16 _ _ _)) ?_
   simp only [lay]
   refine lv (.int .u8 (65535 / 256)) (by exact xv (conv_u8' 22 5 .u16 (65535 / 256) (by kernel_rfl) Try.underlying5 (by omega) _)) ?_
   simp only [lay]
   refine lv (.int .u16 65535) (by exact xm) ?_
   simp only [lay]
   refine lv (.int .u8 (65535 % 256)) (by exact xv (conv_u8 22 5 .u16 65535 (by kernel_rfl) Try.underlying5 _)) ?_
   simp only [lay]
   refine lv (.pointer (some ⟨g41, 0 + k, none⟩)) (by exact ex_index (k := k) (by exact rfl) Try.underlying25 (by kernel_rfl) (by exact rfl) (by exact rfl) (show k < l.length by omega)) ?_
   simp only [lay]
   have b88 := bt hb37 hb51
   have b89 := bt b88 hb60
   have b90 := bt b89 hb70
   have own91 := hO32.to b90
   refine lz (ow_stB 5 (.tmp 53) (.tmp 50) g41 _ W9.heap.size l.length c34 (65535 / 256) _ rfl (by exact rfl) (by exact rfl) (by kernel_rfl) own91 (by omega) (own_len own91) (by omega) ?_)
   intro W84 hO85 bs86 hb87
   have b92 := bt hb60 hb70
   have own93 := hO53.to b92
   have own94 := hO62.to hb70
   have z95 := hb87.size
   have own96 := own93.but6 bs86 (by omega)
   have own97 := own94.but6 bs86 (by omega)
   simp only [lay]
   refine lv (.pointer (some ⟨g41, 0 + (k + 1), none⟩)) (by exact ex_index (k := (k + 1)) (by exact rfl) Try.underlying25 (by kernel_rfl) (by exact rfl) (by exact rfl) (show (k + 1) < l.length by omega)) ?_
   simp only [lay]
   refine lz (ow_stB 5 (.tmp 54) (.tmp 52) g41 _ W9.heap.size l.length c34 (65535 % 256) _ rfl (by exact rfl) (by exact rfl) (by kernel_rfl) hO85 (by omega) (own_len hO85) (by omega) ?_)
   intro W98 hO99 bs100 hb101
   have z102 := hb101.size
   have own103 := own96.but6 bs100 (by omega)
   have own104 := own97.but6 bs100 (by omega)
   simp only [lay]
   refine wn ?_
   refine wp_sr ?_
   refine lv (.slice (some ⟨g41, 0, none⟩) l.length c34) (by exact xm) ?_
   simp only [lay]
   refine lv (.slice (some ⟨g41, 0, none⟩) l.length c34) (by exact xa) ?_
   simp only [lay]
   refine wn ?_
   refine wp_ret ?_
   try simp only [Exit.then]
   have hf : fix17 (d.proto == 17) q71 = 65535 := by
    unfold fix17
    rw [if_pos ⟨by assumption, by rw [show d.proto = 17 from by assumption]; rfl⟩]
   have e : carry17 (d.proto == 17) (from17 d) (s ++ t) l k = (l.set (0 + k) (65535 / 256)).set (0 + (k + 1)) (65535 % 256) := by
    rw [carry17, two17, ← hq72, hf, put17, Nat.zero_add, Nat.zero_add]
   have l105 := Nat.le_trans b28.size (Nat.le_refl _)
   have b106 := b29.trans (hb25.mono l105)
   have b107 := bt b106 hb37
   have b108 := bt b107 hb51
   have b109 := bt b108 hb60
   have b110 := bt b109 hb70
   have l111 := Nat.le_trans b28.size h42
   have b112 := b110.trans (hb87.mono l111)
   have b113 := b112.trans (hb101.mono l111)
   exact bodyPost_ret (res_one Try.results80 rfl) rfl ⟨_, rfl, by rw [e]; exact (hO99.more b28.size), b113⟩
  refine lv (.bool false) (by exact yqn) ?_
  simp only [lay]
  refine lv (.bool false) (by exact xp (b := true)) ?_
  simp only [lay]
  refine wn ?_
  refine cF9 ?_
  refine wp_skip ?_
  change Code.wp _ _ _ _ _
  refine wp_sr ?_
  refine lv (.slice (some ⟨g41, 0, none⟩) l.length c34) (by exact xm) ?_
  simp only [lay]
  refine lv (.int .i64 (k : Int)) (by exact xm) ?_
  simp only [lay]
  refine lv (.slice (some ⟨g41, 0, none⟩) l.length c34) (by exact xm) ?_
  simp only [lay]
  refine lv (.int .i64 (k : Int)) (by exact xm) ?_
  simp only [lay]
  refine lv (.int .i64 ((k + 1 : Nat) : Int)) (by exact xb (add1_i64 _ k (by omega) _)) ?_
  simp only [lay]
  refine lv (.int .u16 q71) (by exact xm) ?_
  simp only [lay]
  refine lv (.int .u16 (q71 / 256)) (by exact xb (w_shr16 _ _ _)) ?_
  simp only [lay]
  refine lv (.int .u8 (q71 / 256)) (by exact xv (conv_u8' 22 5 .u16 (q71 / 256) (by kernel_rfl) Try.underlying5 (by omega) _)) ?_
  simp only [lay]
  refine lv (.int .u16 q71) (by exact xm) ?_
  simp only [lay]
  refine lv (.int .u8 (q71 % 256)) (by exact xv (conv_u8 22 5 .u16 q71 (by kernel_rfl) Try.underlying5 _)) ?_
  simp only [lay]
  refine lv (.pointer (some ⟨g41, 0 + k, none⟩)) (by exact ex_index (k := k) (by exact rfl) Try.underlying25 (by kernel_rfl) (by exact rfl) (by exact rfl) (show k < l.length by omega)) ?_
  simp only [lay]
  have b118 := bt hb37 hb51
  have b119 := bt b118 hb60
  have b120 := bt b119 hb70
  have own121 := hO32.to b120
  refine lz (ow_stB 5 (.tmp 53) (.tmp 50) g41 _ W9.heap.size l.length c34 (q71 / 256) _ rfl (by exact rfl) (by exact rfl) (by kernel_rfl) own121 (by omega) (own_len own121) (by omega) ?_)
  intro W114 hO115 bs116 hb117
  have b122 := bt hb60 hb70
  have own123 := hO53.to b122
  have own124 := hO62.to hb70
  have z125 := hb117.size
  have own126 := own123.but6 bs116 (by omega)
  have own127 := own124.but6 bs116 (by omega)
  simp only [lay]
  refine lv (.pointer (some ⟨g41, 0 + (k + 1), none⟩)) (by exact ex_index (k := (k + 1)) (by exact rfl) Try.underlying25 (by kernel_rfl) (by exact rfl) (by exact rfl) (show (k + 1) < l.length by omega)) ?_
  simp only [lay]
  refine lz (ow_stB 5 (.tmp 54) (.tmp 52) g41 _ W9.heap.size l.length c34 (q71 % 256) _ rfl (by exact rfl) (by exact rfl) (by kernel_rfl) hO115 (by omega) (own_len hO115) (by omega) ?_)
  intro W128 hO129 bs130 hb131
  have z132 := hb131.size
  have own133 := own126.but6 bs130 (by omega)
  have own134 := own127.but6 bs130 (by omega)
  simp only [lay]
  refine wn ?_
  refine wp_sr ?_
  refine lv (.slice (some ⟨g41, 0, none⟩) l.length c34) (by exact xm) ?_
  simp only [lay]
  refine lv (.slice (some ⟨g41, 0, none⟩) l.length c34) (by exact xa) ?_
  simp only [lay]
  refine wn ?_
  refine wp_ret ?_
  try simp only [Exit.then]
  have hf : fix17 (d.proto == 17) q71 = q71 := by
   unfold fix17
   rw [if_neg (fun h => absurd (by simpa using h.2) (show ¬ d.proto = 17 from by assumption))]
  have e : carry17 (d.proto == 17) (from17 d) (s ++ t) l k = (l.set (0 + k) (q71 / 256)).set (0 + (k + 1)) (q71 % 256) := by
   rw [carry17, two17, ← hq72, hf, put17, Nat.zero_add, Nat.zero_add]
  have l135 := Nat.le_trans b28.size (Nat.le_refl _)
  have b136 := b29.trans (hb25.mono l135)
  have b137 := bt b136 hb37
  have b138 := bt b137 hb51
  have b139 := bt b138 hb60
  have b140 := bt b139 hb70
  have l141 := Nat.le_trans b28.size h42
  have b142 := b140.trans (hb117.mono l141)
  have b143 := b142.trans (hb131.mono l141)
  exact bodyPost_ret (res_one Try.results80 rfl) rfl ⟨_, rfl, by rw [e]; exact (hO129.more b28.size), b143⟩
 refine lv (.bool false) (by exact yqn) ?_
 simp only [lay]
 refine lv (.bool false) (by exact xm) ?_
 simp only [lay]
 refine lzn ?_
 simp only [lay]
 refine lzn ?_
 simp only [lay]
 refine lzn ?_
 simp only [lay]
 refine lv (.bool false) (by exact xp (b := false)) ?_
 simp only [lay]
 refine wn ?_
 refine cF9 ?_
 refine wp_skip ?_
 change Code.wp _ _ _ _ _
 refine wp_sr ?_
 refine lv (.slice (some ⟨g41, 0, none⟩) l.length c34) (by exact xm) ?_
 simp only [lay]
 refine lv (.int .i64 (k : Int)) (by exact xm) ?_
 simp only [lay]
 refine lv (.slice (some ⟨g41, 0, none⟩) l.length c34) (by exact xm) ?_
 simp only [lay]
 refine lv (.int .i64 (k : Int)) (by exact xm) ?_
 simp only [lay]
 refine lv (.int .i64 ((k + 1 : Nat) : Int)) (by exact xb (add1_i64 _ k (by omega) _)) ?_
 simp only [lay]
 refine lv (.int .u16 q71) (by exact xm) ?_
 simp only [lay]
 refine lv (.int .u16 (q71 / 256)) (by exact xb (w_shr16 _ _ _)) ?_
 simp only [lay]
 refine lv (.int .u8 (q71 / 256)) (by exact xv (conv_u8' 22 5 .u16 (q71 / 256) (by kernel_rfl) Try.underlying5 (by omega) _)) ?_
 simp only [lay]
 refine lv (.int .u16 q71) (by exact xm) ?_
 simp only [lay]
 refine lv (.int .u8 (q71 % 256)) (by exact xv (conv_u8 22 5 .u16 q71 (by kernel_rfl) Try.underlying5 _)) ?_
 simp only [lay]
 refine lv (.pointer (some ⟨g41, 0 + k, none⟩)) (by exact ex_index (k := k) (by exact rfl) Try.underlying25 (by kernel_rfl) (by exact rfl) (by exact rfl) (show k < l.length by omega)) ?_
 simp only [lay]
 have b148 := bt hb37 hb51
 have b149 := bt b148 hb60
 have b150 := bt b149 hb70
 have own151 := hO32.to b150
 refine lz (ow_stB 5 (.tmp 53) (.tmp 50) g41 _ W9.heap.size l.length c34 (q71 / 256) _ rfl (by exact rfl) (by exact rfl) (by kernel_rfl) own151 (by omega) (own_len own151) (by omega) ?_)
 intro W144 hO145 bs146 hb147
 have b152 := bt hb60 hb70
 have own153 := hO53.to b152
 have own154 := hO62.to hb70
 have z155 := hb147.size
 have own156 := own153.but6 bs146 (by omega)
 have own157 := own154.but6 bs146 (by omega)
 simp only [lay]
 refine lv (.pointer (some ⟨g41, 0 + (k + 1), none⟩)) (by exact ex_index (k := (k + 1)) (by exact rfl) Try.underlying25 (by kernel_rfl) (by exact rfl) (by exact rfl) (show (k + 1) < l.length by omega)) ?_
 simp only [lay]
 refine lz (ow_stB 5 (.tmp 54) (.tmp 52) g41 _ W9.heap.size l.length c34 (q71 % 256) _ rfl (by exact rfl) (by exact rfl) (by kernel_rfl) hO145 (by omega) (own_len hO145) (by omega) ?_)
 intro W158 hO159 bs160 hb161
 have z162 := hb161.size
 have own163 := own156.but6 bs160 (by omega)
 have own164 := own157.but6 bs160 (by omega)
 simp only [lay]
 refine wn ?_
 refine wp_sr ?_
 refine lv (.slice (some ⟨g41, 0, none⟩) l.length c34) (by exact xm) ?_
 simp only [lay]
 refine lv (.slice (some ⟨g41, 0, none⟩) l.length c34) (by exact xa) ?_
 simp only [lay]
 refine wn ?_
 refine wp_ret ?_
 try simp only [Exit.then]
 have hf : fix17 (d.proto == 17) q71 = q71 := by
  unfold fix17
  rw [if_neg (fun h => absurd h.1 (by assumption))]
 have e : carry17 (d.proto == 17) (from17 d) (s ++ t) l k = (l.set (0 + k) (q71 / 256)).set (0 + (k + 1)) (q71 % 256) := by
  rw [carry17, two17, ← hq72, hf, put17, Nat.zero_add, Nat.zero_add]
 have l165 := Nat.le_trans b28.size (Nat.le_refl _)
 have b166 := b29.trans (hb25.mono l165)
 have b167 := bt b166 hb37
 have b168 := bt b167 hb51
 have b169 := bt b168 hb60
 have b170 := bt b169 hb70
 have l171 := Nat.le_trans b28.size h42
 have b172 := b170.trans (hb147.mono l171)
 have b173 := b172.trans (hb161.mono l171)
 exact bodyPost_ret (res_one Try.results80 rfl) rfl ⟨_, rfl, by rw [e]; exact (hO159.more b28.size), b173⟩
end Go.Proofs.Ytijnifbpbgckgaa
