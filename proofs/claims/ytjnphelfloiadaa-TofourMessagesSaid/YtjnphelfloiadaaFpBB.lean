/-
  Lemmas and walks for the row of TofourPackets,TofourMessages,TofourInside (part 28 of 42).
-/
import Derived.Test.YtjnphelfloiadaaFpAG
import Derived.Test.YtjnphelfloiadaaFpAR
import Derived.Test.YtjnphelfloiadaaFpAU
import Derived.Test.YtjnphelfloiadaaFpAV
set_option linter.unusedVariables false
set_option linter.unusedSimpArgs false
namespace Go.Proofs.Ytjnphelfloiadaa
open Go.RowKit Go.Shelf
attribute [local irreducible] wpList Code.wp Oper.wp wpOp wpAnyH

set_option maxRecDepth 100000 in
set_option maxHeartbeats 4000000 in
theorem carry18_any (d : D6) (p : W6) (s t : List Int) (hE : E4ok s t) (k g n c : Nat) (l : List Int) (w0 w : World) (h0 : Below w0.heap.size w0 w) (hO : OwnB w w0.heap.size (sq9 g 0 n c) l) (hg : w0.heap.size ≤ g) (hgl : g < w.heap.size) (hk : k + 2 ≤ n) (hn : n ≤ 65536) (hR : Rd6 w.heap.size w d p) :
  Calls Try.prog 71 #[sq9 g 0 n c, .int .i64 (k : Int), .agg (d.cells p), .agg (e4c s t)] w fun e w' => e = .returned (.tuple #[]) ∧ OwnB w' w0.heap.size (sq9 g 0 n c) (carry17 (d.pro == 17) (from18 d) (to18 s t) l k) ∧ ButG g w w' ∧ Below g w w' := by
 have sL := hE.sL
 have tL := hE.tL
 have dsL := hR.ok.srcL
 have ddL := hR.ok.dstL
 have he : (from18 d).length = (to18 s t).length ∧ (to18 s t).length % 2 = 0 := by rw [from18_len hR.ok, to18_len hE]; decide
 go_enter Try.func71, Try.ntmps71
 refine wp_sr ?_
 refine lz (ow_box 28 (.tmp 2) _ rfl rfl ?_)
 intro g1 W2 hg3 ge4 sz5 hb6
 have z7 := hb6.size
 simp only [lay]
 refine lz (ow_box 32 (.tmp 3) _ rfl rfl ?_)
 intro g8 W9 hg10 ge11 sz12 hb13
 have z14 := hb13.size
 simp only [lay]
 refine wn ?_
 refine wp_seq ?_
 refine rg_drawn W9.heap.size (by kernel_rfl) (Nat.le_refl _) ?_
 intro W15 hb16 hs17 hS18
 have z19 := hb16.size
 refine wpAnyH_mid (f := ?f) (l := ?l) (fun a W => ∃ (g33 : Nat) (A52 : Option Addr) (c53 : Nat) (g56 : Nat) (g64 : Nat), a = ⟨#[sq9 g 0 n c, .int .i64 (k : Int), .agg (d.cells p), .agg (e4c s t), undef, undef, pq9 g1 0, pq9 g8 0, undef, undef, undef, sq9 g 0 n c, .int .i64 (k : Int), .int .u16 (two17 l k), pq9 g1 3, sq9 g1 3 16 16, pq9 g1 19, sq9 g1 19 16 16, sq9 g33 0 2 2, .slice A52 ((from18 d).length) c53, pq9 g8 0, sq9 g8 0 4 4, pq9 g8 4, sq9 g8 4 4 4, sq9 g56 0 24 24, sq9 g64 0 3 3, undef, undef, undef, undef, undef, undef, undef, undef, undef, undef, undef, undef, undef, undef, undef], []⟩ ∧ Below W9.heap.size W9 W ∧ Has W g33 (.cells #[sq9 g1 3 16 16, sq9 g1 19 16 16] 26 (0, 0)) ∧ Has W g64 (.cells #[sq9 g8 0 4 4, sq9 g8 4 4 4, sq9 g56 0 24 24] 26 (0, 0)) ∧ W9.heap.size ≤ g33 ∧ W9.heap.size ≤ g64 ∧ OwnB W W9.heap.size (.slice A52 ((from18 d).length) c53) (from18 d) ∧ OwnB W W9.heap.size (sq9 g56 0 24 24) (List.replicate 24 0)) (fun hk73 => ?_) ?_
 case refine_1 =>
  refine te 0 (sq9 g 0 n c) hS18 rfl (by intro _ _; exact xm) ?_
  refine te 1 (.int .i64 (k : Int)) hS18 rfl (by intro _ _; exact xm) ?_
  refine te 3 (pq9 g1 3) hS18 rfl (by intro _ _; exact xf 3 15 Try.underlying28) ?_
  refine te 4 (sq9 g1 3 16 16) hS18 rfl (by intro _ _; exact ex_arr (by rfl) Try.underlying24 (by kernel_rfl) (by rfl)) ?_
  simp only [lay]
  refine te 5 (pq9 g1 19) hS18 rfl (by intro _ _; exact xf 19 15 Try.underlying28) ?_
  refine te 6 (sq9 g1 19 16 16) hS18 rfl (by intro _ _; exact ex_arr (by rfl) Try.underlying24 (by kernel_rfl) (by rfl)) ?_
  refine te 9 (pq9 g8 0) hS18 rfl (by intro _ _; exact xf 0 3 Try.underlying32) ?_
  refine te 10 (sq9 g8 0 4 4) hS18 rfl (by intro _ _; exact ex_arr (by rfl) Try.underlying30 (by kernel_rfl) (by rfl)) ?_
  simp only [lay]
  refine te 11 (pq9 g8 4) hS18 rfl (by intro _ _; exact xf 4 3 Try.underlying32) ?_
  refine te 12 (sq9 g8 4 4 4) hS18 rfl (by intro _ _; exact ex_arr (by rfl) Try.underlying30 (by kernel_rfl) (by rfl)) ?_
  simp only [lay]
  refine tk_three (i := 2) (j := 7) (k := 13) (by kernel_rfl) ?L74 ?L75 ?L76
  case L74 =>
   have y80 := (own_byS (hO.to (bt (bt hb6 hb13) hb16)))
   refine rs (i := 2) rfl (by kernel_rfl) (ow_call (fun v w' => v = .int .u16 (two17 l k) ∧ Below W15.heap.size W15 w') (by exact xk Try.func50) ((two18_any _ _ _ _ k W15 y80 (by omega) (by omega)).mono fun e w' h => ⟨_, h.1, rfl, h.2⟩) ?_)
   rintro _ W81 ⟨rfl, hb82⟩
   have z83 := hb82.size
   have hS84 := bt hS18 hb82
   refine ⟨hS84, ?_⟩
   simp only [lay]
   refine tk_two (i := 7) (j := 13) (by kernel_rfl) ?L85 ?L86
   case L85 =>
    refine rs (i := 7) rfl (by kernel_rfl) (ow_build [sq9 g1 3 16 16, sq9 g1 19 16 16] rfl Try.underlying100 (by kernel_rfl) (by kernel_rfl) rfl (by decide) (by decide) (by first|rfl|(simp only [List.map_toArray, List.map_cons, List.map_nil] <;> rfl)) (by simp [Value.cells]) ?_)
    intro g87 W88 hg89 ge90 sz91 hb92
    have z93 := hb92.size
    have hS94 := bt hS84 hb92
    refine ⟨hS94, ?_⟩
    simp only [lay]
    refine tk_two (i := 8) (j := 13) (by kernel_rfl) ?L95 ?L96
    case L95 =>
     have has100 := hg3.to (bt (bt (bt hb13 hb16) hb82) hb92)
     refine rs (i := 8) rfl (by kernel_rfl) (ow_call (fun v w' => OwnB w' W88.heap.size v (from18 d) ∧ Below W88.heap.size W88 w') (by exact xk Try.func81) (concat2 hg89 (has100.byIn 3 16 d.src hR.ok.srcL ((show (_ : List Value) = u8s (l16 d.src) from by kernel_rfl).trans (u8s_16 hR.ok.srcL)) hR.ok.src (by decide)) (has100.byIn 19 16 d.dst hR.ok.dstL ((show (_ : List Value) = u8s (l16 d.dst) from by kernel_rfl).trans (u8s_16 hR.ok.dstL)) hR.ok.dst (by decide)) (by simp; try omega)) ?_)
     rintro v103 W101 ⟨hO104, hb102⟩
     have z105 := hb102.size
     obtain ⟨A106, c107, rfl, y108⟩ := hO104.by_
     have hS109 := bt hS94 hb102
     refine ⟨hS109, ?_⟩
     simp only [lay]
     refine t1 13 rfl (ow_make 26 (.const (.int .i64 24)) (.const (.int .i64 24)) rfl 24 24 rfl rfl Try.underlying26 info8 (by decide) (by decide) ?_)
     intro g110 W111 hO112 ge113 sz114 hb115
     have z116 := hb115.size
     have hS117 := bt hS109 hb115
     refine ⟨hS117, ?_⟩
     simp only [lay]
     refine t1 14 rfl (ow_build [sq9 g8 0 4 4, sq9 g8 4 4 4, sq9 g110 0 24 24] rfl Try.underlying100 (by kernel_rfl) (by kernel_rfl) rfl (by decide) (by decide) (by first|rfl|(simp only [List.map_toArray, List.map_cons, List.map_nil] <;> rfl)) (by simp [Value.cells]) ?_)
     intro g118 W119 hg120 ge121 sz122 hb123
     have z124 := hb123.size
     have hS125 := bt hS117 hb123
     refine ⟨hS125, ?_⟩
     simp only [lay]
     have b127 := bt (bt hb16 hb82) hb92
     have b128 := bt b127 hb102
     exact hk73 _ _ ⟨g87, A106, c107, g110, g118, rfl, (bt (bt b128 hb115) hb123), (hg89.to (bt (bt hb102 hb115) hb123)), hg120, (by omega), (by omega), ((hO104.to (bt hb115 hb123)).more b127.size), ((hO112.to hb123).more b128.size)⟩
    case L96 =>
     refine rs (i := 13) rfl (by kernel_rfl) (ow_make 26 (.const (.int .i64 24)) (.const (.int .i64 24)) rfl 24 24 rfl rfl Try.underlying26 info8 (by decide) (by decide) ?_)
     intro g137 W138 hO139 ge140 sz141 hb142
     have z143 := hb142.size
     have hS144 := bt hS94 hb142
     refine ⟨hS144, ?_⟩
     simp only [lay]
     refine tk_two (i := 8) (j := 14) (by kernel_rfl) ?L145 ?L146
     case L145 =>
      have has152 := hg3.to (bt (bt (bt (bt hb13 hb16) hb82) hb92) hb142)
      refine rs (i := 8) rfl (by kernel_rfl) (ow_call (fun v w' => OwnB w' W138.heap.size v (from18 d) ∧ Below W138.heap.size W138 w') (by exact xk Try.func81) (concat2 (hg89.to hb142) (has152.byIn 3 16 d.src hR.ok.srcL ((show (_ : List Value) = u8s (l16 d.src) from by kernel_rfl).trans (u8s_16 hR.ok.srcL)) hR.ok.src (by decide)) (has152.byIn 19 16 d.dst hR.ok.dstL ((show (_ : List Value) = u8s (l16 d.dst) from by kernel_rfl).trans (u8s_16 hR.ok.dstL)) hR.ok.dst (by decide)) (by simp; try omega)) ?_)
      rintro v155 W153 ⟨hO156, hb154⟩
      have z157 := hb154.size
      obtain ⟨A158, c159, rfl, y160⟩ := hO156.by_
      have hS161 := bt hS144 hb154
      refine ⟨hS161, ?_⟩
      simp only [lay]
      refine t1 14 rfl (ow_build [sq9 g8 0 4 4, sq9 g8 4 4 4, sq9 g137 0 24 24] rfl Try.underlying100 (by kernel_rfl) (by kernel_rfl) rfl (by decide) (by decide) (by first|rfl|(simp only [List.map_toArray, List.map_cons, List.map_nil] <;> rfl)) (by simp [Value.cells]) ?_)
      intro g162 W163 hg164 ge165 sz166 hb167
      have z168 := hb167.size
      have hS169 := bt hS161 hb167
      refine ⟨hS169, ?_⟩
      simp only [lay]
      have b171 := bt (bt hb16 hb82) hb92
      have b172 := bt b171 hb142
      exact hk73 _ _ ⟨g87, A158, c159, g137, g162, rfl, (bt (bt b172 hb154) hb167), (hg89.to (bt (bt hb142 hb154) hb167)), hg164, (by omega), (by omega), ((hO156.to hb167).more b172.size), ((hO139.to (bt hb154 hb167)).more b171.size)⟩
     case L146 =>
      refine rs (i := 14) rfl (by kernel_rfl) (ow_build [sq9 g8 0 4 4, sq9 g8 4 4 4, sq9 g137 0 24 24] rfl Try.underlying100 (by kernel_rfl) (by kernel_rfl) rfl (by decide) (by decide) (by first|rfl|(simp only [List.map_toArray, List.map_cons, List.map_nil] <;> rfl)) (by simp [Value.cells]) ?_)
      intro g181 W182 hg183 ge184 sz185 hb186
      have z187 := hb186.size
      have hS188 := bt hS144 hb186
      refine ⟨hS188, ?_⟩
      simp only [lay]
      have b189 := bt hb142 hb186
      have has196 := hg3.to (bt (bt (bt (bt (bt hb13 hb16) hb82) hb92) hb142) hb186)
      refine t1 8 rfl (ow_call (fun v w' => OwnB w' W182.heap.size v (from18 d) ∧ Below W182.heap.size W182 w') (by exact xk Try.func81) (concat2 (hg89.to b189) (has196.byIn 3 16 d.src hR.ok.srcL ((show (_ : List Value) = u8s (l16 d.src) from by kernel_rfl).trans (u8s_16 hR.ok.srcL)) hR.ok.src (by decide)) (has196.byIn 19 16 d.dst hR.ok.dstL ((show (_ : List Value) = u8s (l16 d.dst) from by kernel_rfl).trans (u8s_16 hR.ok.dstL)) hR.ok.dst (by decide)) (by simp; try omega)) ?_)
      rintro v199 W197 ⟨hO200, hb198⟩
      have z201 := hb198.size
      obtain ⟨A202, c203, rfl, y204⟩ := hO200.by_
      have hS205 := bt hS188 hb198
      refine ⟨hS205, ?_⟩
      simp only [lay]
      have b207 := bt (bt hb16 hb82) hb92
      have b209 := bt (bt b207 hb142) hb186
      exact hk73 _ _ ⟨g87, A202, c203, g137, g181, rfl, (bt b209 hb198), (hg89.to (bt b189 hb198)), (hg183.to hb198), (by omega), (by omega), (hO200.more b209.size), ((hO139.to (bt hb186 hb198)).more b207.size)⟩
   case L86 =>
    refine rs (i := 13) rfl (by kernel_rfl) (ow_make 26 (.const (.int .i64 24)) (.const (.int .i64 24)) rfl 24 24 rfl rfl Try.underlying26 info8 (by decide) (by decide) ?_)
    intro g216 W217 hO218 ge219 sz220 hb221
    have z222 := hb221.size
    have hS223 := bt hS84 hb221
    refine ⟨hS223, ?_⟩
    simp only [lay]
    refine tk_two (i := 7) (j := 14) (by kernel_rfl) ?L224 ?L225
    case L224 =>
     refine rs (i := 7) rfl (by kernel_rfl) (ow_build [sq9 g1 3 16 16, sq9 g1 19 16 16] rfl Try.underlying100 (by kernel_rfl) (by kernel_rfl) rfl (by decide) (by decide) (by first|rfl|(simp only [List.map_toArray, List.map_cons, List.map_nil] <;> rfl)) (by simp [Value.cells]) ?_)
     intro g226 W227 hg228 ge229 sz230 hb231
     have z232 := hb231.size
     have hS233 := bt hS223 hb231
     refine ⟨hS233, ?_⟩
     simp only [lay]
     refine tk_two (i := 8) (j := 14) (by kernel_rfl) ?L234 ?L235
     case L234 =>
      have has240 := hg3.to (bt (bt (bt (bt hb13 hb16) hb82) hb221) hb231)
      refine rs (i := 8) rfl (by kernel_rfl) (ow_call (fun v w' => OwnB w' W227.heap.size v (from18 d) ∧ Below W227.heap.size W227 w') (by exact xk Try.func81) (concat2 hg228 (has240.byIn 3 16 d.src hR.ok.srcL ((show (_ : List Value) = u8s (l16 d.src) from by kernel_rfl).trans (u8s_16 hR.ok.srcL)) hR.ok.src (by decide)) (has240.byIn 19 16 d.dst hR.ok.dstL ((show (_ : List Value) = u8s (l16 d.dst) from by kernel_rfl).trans (u8s_16 hR.ok.dstL)) hR.ok.dst (by decide)) (by simp; try omega)) ?_)
      rintro v243 W241 ⟨hO244, hb242⟩
      have z245 := hb242.size
      obtain ⟨A246, c247, rfl, y248⟩ := hO244.by_
      have hS249 := bt hS233 hb242
      refine ⟨hS249, ?_⟩
      simp only [lay]
      refine t1 14 rfl (ow_build [sq9 g8 0 4 4, sq9 g8 4 4 4, sq9 g216 0 24 24] rfl Try.underlying100 (by kernel_rfl) (by kernel_rfl) rfl (by decide) (by decide) (by first|rfl|(simp only [List.map_toArray, List.map_cons, List.map_nil] <;> rfl)) (by simp [Value.cells]) ?_)
      intro g250 W251 hg252 ge253 sz254 hb255
      have z256 := hb255.size
      have hS257 := bt hS249 hb255
      refine ⟨hS257, ?_⟩
      simp only [lay]
      have b258 := bt hb16 hb82
      have b260 := bt (bt b258 hb221) hb231
      exact hk73 _ _ ⟨g226, A246, c247, g216, g250, rfl, (bt (bt b260 hb242) hb255), (hg228.to (bt hb242 hb255)), hg252, (by omega), (by omega), ((hO244.to hb255).more b260.size), ((hO218.to (bt (bt hb231 hb242) hb255)).more b258.size)⟩
     case L235 =>
      refine rs (i := 14) rfl (by kernel_rfl) (ow_build [sq9 g8 0 4 4, sq9 g8 4 4 4, sq9 g216 0 24 24] rfl Try.underlying100 (by kernel_rfl) (by kernel_rfl) rfl (by decide) (by decide) (by first|rfl|(simp only [List.map_toArray, List.map_cons, List.map_nil] <;> rfl)) (by simp [Value.cells]) ?_)
      intro g269 W270 hg271 ge272 sz273 hb274
      have z275 := hb274.size
      have hS276 := bt hS233 hb274
      refine ⟨hS276, ?_⟩
      simp only [lay]
      have has283 := hg3.to (bt (bt (bt (bt (bt hb13 hb16) hb82) hb221) hb231) hb274)
      refine t1 8 rfl (ow_call (fun v w' => OwnB w' W270.heap.size v (from18 d) ∧ Below W270.heap.size W270 w') (by exact xk Try.func81) (concat2 (hg228.to hb274) (has283.byIn 3 16 d.src hR.ok.srcL ((show (_ : List Value) = u8s (l16 d.src) from by kernel_rfl).trans (u8s_16 hR.ok.srcL)) hR.ok.src (by decide)) (has283.byIn 19 16 d.dst hR.ok.dstL ((show (_ : List Value) = u8s (l16 d.dst) from by kernel_rfl).trans (u8s_16 hR.ok.dstL)) hR.ok.dst (by decide)) (by simp; try omega)) ?_)
      rintro v286 W284 ⟨hO287, hb285⟩
      have z288 := hb285.size
      obtain ⟨A289, c290, rfl, y291⟩ := hO287.by_
      have hS292 := bt hS276 hb285
      refine ⟨hS292, ?_⟩
      simp only [lay]
      have b293 := bt hb16 hb82
      have b296 := bt (bt (bt b293 hb221) hb231) hb274
      exact hk73 _ _ ⟨g226, A289, c290, g216, g269, rfl, (bt b296 hb285), (hg228.to (bt hb274 hb285)), (hg271.to hb285), (by omega), (by omega), (hO287.more b296.size), ((hO218.to (bt (bt hb231 hb274) hb285)).more b293.size)⟩
    case L225 =>
     refine rs (i := 14) rfl (by kernel_rfl) (ow_build [sq9 g8 0 4 4, sq9 g8 4 4 4, sq9 g216 0 24 24] rfl Try.underlying100 (by kernel_rfl) (by kernel_rfl) rfl (by decide) (by decide) (by first|rfl|(simp only [List.map_toArray, List.map_cons, List.map_nil] <;> rfl)) (by simp [Value.cells]) ?_)
     intro g304 W305 hg306 ge307 sz308 hb309
     have z310 := hb309.size
     have hS311 := bt hS223 hb309
     refine ⟨hS311, ?_⟩
     simp only [lay]
     refine t1 7 rfl (ow_build [sq9 g1 3 16 16, sq9 g1 19 16 16] rfl Try.underlying100 (by kernel_rfl) (by kernel_rfl) rfl (by decide) (by decide) (by first|rfl|(simp only [List.map_toArray, List.map_cons, List.map_nil] <;> rfl)) (by simp [Value.cells]) ?_)
     intro g312 W313 hg314 ge315 sz316 hb317
     have z318 := hb317.size
     have hS319 := bt hS311 hb317
     refine ⟨hS319, ?_⟩
     simp only [lay]
     have has325 := hg3.to (bt (bt (bt (bt (bt hb13 hb16) hb82) hb221) hb309) hb317)
     refine t1 8 rfl (ow_call (fun v w' => OwnB w' W313.heap.size v (from18 d) ∧ Below W313.heap.size W313 w') (by exact xk Try.func81) (concat2 hg314 (has325.byIn 3 16 d.src hR.ok.srcL ((show (_ : List Value) = u8s (l16 d.src) from by kernel_rfl).trans (u8s_16 hR.ok.srcL)) hR.ok.src (by decide)) (has325.byIn 19 16 d.dst hR.ok.dstL ((show (_ : List Value) = u8s (l16 d.dst) from by kernel_rfl).trans (u8s_16 hR.ok.dstL)) hR.ok.dst (by decide)) (by simp; try omega)) ?_)
     rintro v328 W326 ⟨hO329, hb327⟩
     have z330 := hb327.size
     obtain ⟨A331, c332, rfl, y333⟩ := hO329.by_
     have hS334 := bt hS319 hb327
     refine ⟨hS334, ?_⟩
     simp only [lay]
     have b335 := bt hb16 hb82
     have b338 := bt (bt (bt b335 hb221) hb309) hb317
     exact hk73 _ _ ⟨g312, A331, c332, g216, g304, rfl, (bt b338 hb327), (hg314.to hb327), (hg306.to (bt hb317 hb327)), (by omega), (by omega), (hO329.more b338.size), ((hO218.to (bt (bt hb309 hb317) hb327)).more b335.size)⟩
  case L75 =>
   refine rs (i := 7) rfl (by kernel_rfl) (ow_build [sq9 g1 3 16 16, sq9 g1 19 16 16] rfl Try.underlying100 (by kernel_rfl) (by kernel_rfl) rfl (by decide) (by decide) (by first|rfl|(simp only [List.map_toArray, List.map_cons, List.map_nil] <;> rfl)) (by simp [Value.cells]) ?_)
   intro g346 W347 hg348 ge349 sz350 hb351
   have z352 := hb351.size
   have hS353 := bt hS18 hb351
   refine ⟨hS353, ?_⟩
   simp only [lay]
   refine tk_two (i := 2) (j := 13) (by kernel_rfl) ?L354 ?L355
   case L354 =>
    have y360 := (own_byS (hO.to (bt (bt (bt hb6 hb13) hb16) hb351)))
    refine rs (i := 2) rfl (by kernel_rfl) (ow_call (fun v w' => v = .int .u16 (two17 l k) ∧ Below W347.heap.size W347 w') (by exact xk Try.func50) ((two18_any _ _ _ _ k W347 y360 (by omega) (by omega)).mono fun e w' h => ⟨_, h.1, rfl, h.2⟩) ?_)
    rintro _ W361 ⟨rfl, hb362⟩
    have z363 := hb362.size
    have hS364 := bt hS353 hb362
    refine ⟨hS364, ?_⟩
    simp only [lay]
    refine tk_two (i := 8) (j := 13) (by kernel_rfl) ?L365 ?L366
    case L365 =>
     have has371 := hg3.to (bt (bt (bt hb13 hb16) hb351) hb362)
     refine rs (i := 8) rfl (by kernel_rfl) (ow_call (fun v w' => OwnB w' W361.heap.size v (from18 d) ∧ Below W361.heap.size W361 w') (by exact xk Try.func81) (concat2 (hg348.to hb362) (has371.byIn 3 16 d.src hR.ok.srcL ((show (_ : List Value) = u8s (l16 d.src) from by kernel_rfl).trans (u8s_16 hR.ok.srcL)) hR.ok.src (by decide)) (has371.byIn 19 16 d.dst hR.ok.dstL ((show (_ : List Value) = u8s (l16 d.dst) from by kernel_rfl).trans (u8s_16 hR.ok.dstL)) hR.ok.dst (by decide)) (by simp; try omega)) ?_)
     rintro v374 W372 ⟨hO375, hb373⟩
     have z376 := hb373.size
     obtain ⟨A377, c378, rfl, y379⟩ := hO375.by_
     have hS380 := bt hS364 hb373
     refine ⟨hS380, ?_⟩
     simp only [lay]
     refine t1 13 rfl (ow_make 26 (.const (.int .i64 24)) (.const (.int .i64 24)) rfl 24 24 rfl rfl Try.underlying26 info8 (by decide) (by decide) ?_)
     intro g381 W382 hO383 ge384 sz385 hb386
     have z387 := hb386.size
     have hS388 := bt hS380 hb386
     refine ⟨hS388, ?_⟩
     simp only [lay]
     refine t1 14 rfl (ow_build [sq9 g8 0 4 4, sq9 g8 4 4 4, sq9 g381 0 24 24] rfl Try.underlying100 (by kernel_rfl) (by kernel_rfl) rfl (by decide) (by decide) (by first|rfl|(simp only [List.map_toArray, List.map_cons, List.map_nil] <;> rfl)) (by simp [Value.cells]) ?_)
     intro g389 W390 hg391 ge392 sz393 hb394
     have z395 := hb394.size
     have hS396 := bt hS388 hb394
     refine ⟨hS396, ?_⟩
     simp only [lay]
     have b398 := bt (bt hb16 hb351) hb362
     have b399 := bt b398 hb373
     exact hk73 _ _ ⟨g346, A377, c378, g381, g389, rfl, (bt (bt b399 hb386) hb394), (hg348.to (bt (bt (bt hb362 hb373) hb386) hb394)), hg391, (by omega), (by omega), ((hO375.to (bt hb386 hb394)).more b398.size), ((hO383.to hb394).more b399.size)⟩
    case L366 =>
     refine rs (i := 13) rfl (by kernel_rfl) (ow_make 26 (.const (.int .i64 24)) (.const (.int .i64 24)) rfl 24 24 rfl rfl Try.underlying26 info8 (by decide) (by decide) ?_)
     intro g409 W410 hO411 ge412 sz413 hb414
     have z415 := hb414.size
     have hS416 := bt hS364 hb414
     refine ⟨hS416, ?_⟩
     simp only [lay]
     refine tk_two (i := 8) (j := 14) (by kernel_rfl) ?L417 ?L418
     case L417 =>
      have b419 := bt hb362 hb414
      have has425 := hg3.to (bt (bt (bt (bt hb13 hb16) hb351) hb362) hb414)
      refine rs (i := 8) rfl (by kernel_rfl) (ow_call (fun v w' => OwnB w' W410.heap.size v (from18 d) ∧ Below W410.heap.size W410 w') (by exact xk Try.func81) (concat2 (hg348.to b419) (has425.byIn 3 16 d.src hR.ok.srcL ((show (_ : List Value) = u8s (l16 d.src) from by kernel_rfl).trans (u8s_16 hR.ok.srcL)) hR.ok.src (by decide)) (has425.byIn 19 16 d.dst hR.ok.dstL ((show (_ : List Value) = u8s (l16 d.dst) from by kernel_rfl).trans (u8s_16 hR.ok.dstL)) hR.ok.dst (by decide)) (by simp; try omega)) ?_)
      rintro v428 W426 ⟨hO429, hb427⟩
      have z430 := hb427.size
      obtain ⟨A431, c432, rfl, y433⟩ := hO429.by_
      have hS434 := bt hS416 hb427
      refine ⟨hS434, ?_⟩
      simp only [lay]
      refine t1 14 rfl (ow_build [sq9 g8 0 4 4, sq9 g8 4 4 4, sq9 g409 0 24 24] rfl Try.underlying100 (by kernel_rfl) (by kernel_rfl) rfl (by decide) (by decide) (by first|rfl|(simp only [List.map_toArray, List.map_cons, List.map_nil] <;> rfl)) (by simp [Value.cells]) ?_)
      intro g435 W436 hg437 ge438 sz439 hb440
      have z441 := hb440.size
      have hS442 := bt hS434 hb440
      refine ⟨hS442, ?_⟩
      simp only [lay]
      have b444 := bt (bt hb16 hb351) hb362
      have b445 := bt b444 hb414
      exact hk73 _ _ ⟨g346, A431, c432, g409, g435, rfl, (bt (bt b445 hb427) hb440), (hg348.to (bt (bt b419 hb427) hb440)), hg437, (by omega), (by omega), ((hO429.to hb440).more b445.size), ((hO411.to (bt hb427 hb440)).more b444.size)⟩
     case L418 =>
      refine rs (i := 14) rfl (by kernel_rfl) (ow_build [sq9 g8 0 4 4, sq9 g8 4 4 4, sq9 g409 0 24 24] rfl Try.underlying100 (by kernel_rfl) (by kernel_rfl) rfl (by decide) (by decide) (by first|rfl|(simp only [List.map_toArray, List.map_cons, List.map_nil] <;> rfl)) (by simp [Value.cells]) ?_)
      intro g454 W455 hg456 ge457 sz458 hb459
      have z460 := hb459.size
      have hS461 := bt hS416 hb459
      refine ⟨hS461, ?_⟩
      simp only [lay]
      have b463 := bt (bt hb362 hb414) hb459
      have has470 := hg3.to (bt (bt (bt (bt (bt hb13 hb16) hb351) hb362) hb414) hb459)
      refine t1 8 rfl (ow_call (fun v w' => OwnB w' W455.heap.size v (from18 d) ∧ Below W455.heap.size W455 w') (by exact xk Try.func81) (concat2 (hg348.to b463) (has470.byIn 3 16 d.src hR.ok.srcL ((show (_ : List Value) = u8s (l16 d.src) from by kernel_rfl).trans (u8s_16 hR.ok.srcL)) hR.ok.src (by decide)) (has470.byIn 19 16 d.dst hR.ok.dstL ((show (_ : List Value) = u8s (l16 d.dst) from by kernel_rfl).trans (u8s_16 hR.ok.dstL)) hR.ok.dst (by decide)) (by simp; try omega)) ?_)
      rintro v473 W471 ⟨hO474, hb472⟩
      have z475 := hb472.size
      obtain ⟨A476, c477, rfl, y478⟩ := hO474.by_
      have hS479 := bt hS461 hb472
      refine ⟨hS479, ?_⟩
      simp only [lay]
      have b481 := bt (bt hb16 hb351) hb362
      have b483 := bt (bt b481 hb414) hb459
      exact hk73 _ _ ⟨g346, A476, c477, g409, g454, rfl, (bt b483 hb472), (hg348.to (bt b463 hb472)), (hg456.to hb472), (by omega), (by omega), (hO474.more b483.size), ((hO411.to (bt hb459 hb472)).more b481.size)⟩
   case L355 =>
    refine rs (i := 13) rfl (by kernel_rfl) (ow_make 26 (.const (.int .i64 24)) (.const (.int .i64 24)) rfl 24 24 rfl rfl Try.underlying26 info8 (by decide) (by decide) ?_)
    intro g490 W491 hO492 ge493 sz494 hb495
    have z496 := hb495.size
    have hS497 := bt hS353 hb495
    refine ⟨hS497, ?_⟩
    simp only [lay]
    refine tk_two (i := 2) (j := 14) (by kernel_rfl) ?L498 ?L499
    case L498 =>
     have y505 := (own_byS (hO.to (bt (bt (bt (bt hb6 hb13) hb16) hb351) hb495)))
     refine rs (i := 2) rfl (by kernel_rfl) (ow_call (fun v w' => v = .int .u16 (two17 l k) ∧ Below W491.heap.size W491 w') (by exact xk Try.func50) ((two18_any _ _ _ _ k W491 y505 (by omega) (by omega)).mono fun e w' h => ⟨_, h.1, rfl, h.2⟩) ?_)
     rintro _ W506 ⟨rfl, hb507⟩
     have z508 := hb507.size
     have hS509 := bt hS497 hb507
     refine ⟨hS509, ?_⟩
     simp only [lay]
     refine tk_two (i := 8) (j := 14) (by kernel_rfl) ?L510 ?L511
     case L510 =>
      have b512 := bt hb495 hb507
      have has518 := hg3.to (bt (bt (bt (bt hb13 hb16) hb351) hb495) hb507)
      refine rs (i := 8) rfl (by kernel_rfl) (ow_call (fun v w' => OwnB w' W506.heap.size v (from18 d) ∧ Below W506.heap.size W506 w') (by exact xk Try.func81) (concat2 (hg348.to b512) (has518.byIn 3 16 d.src hR.ok.srcL ((show (_ : List Value) = u8s (l16 d.src) from by kernel_rfl).trans (u8s_16 hR.ok.srcL)) hR.ok.src (by decide)) (has518.byIn 19 16 d.dst hR.ok.dstL ((show (_ : List Value) = u8s (l16 d.dst) from by kernel_rfl).trans (u8s_16 hR.ok.dstL)) hR.ok.dst (by decide)) (by simp; try omega)) ?_)
      rintro v521 W519 ⟨hO522, hb520⟩
      have z523 := hb520.size
      obtain ⟨A524, c525, rfl, y526⟩ := hO522.by_
      have hS527 := bt hS509 hb520
      refine ⟨hS527, ?_⟩
      simp only [lay]
      refine t1 14 rfl (ow_build [sq9 g8 0 4 4, sq9 g8 4 4 4, sq9 g490 0 24 24] rfl Try.underlying100 (by kernel_rfl) (by kernel_rfl) rfl (by decide) (by decide) (by first|rfl|(simp only [List.map_toArray, List.map_cons, List.map_nil] <;> rfl)) (by simp [Value.cells]) ?_)
      intro g528 W529 hg530 ge531 sz532 hb533
      have z534 := hb533.size
      have hS535 := bt hS527 hb533
      refine ⟨hS535, ?_⟩
      simp only [lay]
      have b536 := bt hb16 hb351
      have b538 := bt (bt b536 hb495) hb507
      exact hk73 _ _ ⟨g346, A524, c525, g490, g528, rfl, (bt (bt b538 hb520) hb533), (hg348.to (bt (bt b512 hb520) hb533)), hg530, (by omega), (by omega), ((hO522.to hb533).more b538.size), ((hO492.to (bt (bt hb507 hb520) hb533)).more b536.size)⟩
     case L511 =>
      refine rs (i := 14) rfl (by kernel_rfl) (ow_build [sq9 g8 0 4 4, sq9 g8 4 4 4, sq9 g490 0 24 24] rfl Try.underlying100 (by kernel_rfl) (by kernel_rfl) rfl (by decide) (by decide) (by first|rfl|(simp only [List.map_toArray, List.map_cons, List.map_nil] <;> rfl)) (by simp [Value.cells]) ?_)
      intro g548 W549 hg550 ge551 sz552 hb553
      have z554 := hb553.size
      have hS555 := bt hS509 hb553
      refine ⟨hS555, ?_⟩
      simp only [lay]
      have b557 := bt (bt hb495 hb507) hb553
      have has564 := hg3.to (bt (bt (bt (bt (bt hb13 hb16) hb351) hb495) hb507) hb553)
      refine t1 8 rfl (ow_call (fun v w' => OwnB w' W549.heap.size v (from18 d) ∧ Below W549.heap.size W549 w') (by exact xk Try.func81) (concat2 (hg348.to b557) (has564.byIn 3 16 d.src hR.ok.srcL ((show (_ : List Value) = u8s (l16 d.src) from by kernel_rfl).trans (u8s_16 hR.ok.srcL)) hR.ok.src (by decide)) (has564.byIn 19 16 d.dst hR.ok.dstL ((show (_ : List Value) = u8s (l16 d.dst) from by kernel_rfl).trans (u8s_16 hR.ok.dstL)) hR.ok.dst (by decide)) (by simp; try omega)) ?_)
      rintro v567 W565 ⟨hO568, hb566⟩
      have z569 := hb566.size
      obtain ⟨A570, c571, rfl, y572⟩ := hO568.by_
      have hS573 := bt hS555 hb566
      refine ⟨hS573, ?_⟩
      simp only [lay]
      have b574 := bt hb16 hb351
      have b577 := bt (bt (bt b574 hb495) hb507) hb553
      exact hk73 _ _ ⟨g346, A570, c571, g490, g548, rfl, (bt b577 hb566), (hg348.to (bt b557 hb566)), (hg550.to hb566), (by omega), (by omega), (hO568.more b577.size), ((hO492.to (bt (bt hb507 hb553) hb566)).more b574.size)⟩
    case L499 =>
     refine rs (i := 14) rfl (by kernel_rfl) (ow_build [sq9 g8 0 4 4, sq9 g8 4 4 4, sq9 g490 0 24 24] rfl Try.underlying100 (by kernel_rfl) (by kernel_rfl) rfl (by decide) (by decide) (by first|rfl|(simp only [List.map_toArray, List.map_cons, List.map_nil] <;> rfl)) (by simp [Value.cells]) ?_)
     intro g585 W586 hg587 ge588 sz589 hb590
     have z591 := hb590.size
     have hS592 := bt hS497 hb590
     refine ⟨hS592, ?_⟩
     simp only [lay]
     have y599 := (own_byS (hO.to (bt (bt (bt (bt (bt hb6 hb13) hb16) hb351) hb495) hb590)))
     refine t1 2 rfl (ow_call (fun v w' => v = .int .u16 (two17 l k) ∧ Below W586.heap.size W586 w') (by exact xk Try.func50) ((two18_any _ _ _ _ k W586 y599 (by omega) (by omega)).mono fun e w' h => ⟨_, h.1, rfl, h.2⟩) ?_)
     rintro _ W600 ⟨rfl, hb601⟩
     have z602 := hb601.size
     have hS603 := bt hS592 hb601
     refine ⟨hS603, ?_⟩
     simp only [lay]
     have b605 := bt (bt hb495 hb590) hb601
     have has612 := hg3.to (bt (bt (bt (bt (bt hb13 hb16) hb351) hb495) hb590) hb601)
     refine t1 8 rfl (ow_call (fun v w' => OwnB w' W600.heap.size v (from18 d) ∧ Below W600.heap.size W600 w') (by exact xk Try.func81) (concat2 (hg348.to b605) (has612.byIn 3 16 d.src hR.ok.srcL ((show (_ : List Value) = u8s (l16 d.src) from by kernel_rfl).trans (u8s_16 hR.ok.srcL)) hR.ok.src (by decide)) (has612.byIn 19 16 d.dst hR.ok.dstL ((show (_ : List Value) = u8s (l16 d.dst) from by kernel_rfl).trans (u8s_16 hR.ok.dstL)) hR.ok.dst (by decide)) (by simp; try omega)) ?_)
     rintro v615 W613 ⟨hO616, hb614⟩
     have z617 := hb614.size
     obtain ⟨A618, c619, rfl, y620⟩ := hO616.by_
     have hS621 := bt hS603 hb614
     refine ⟨hS621, ?_⟩
     simp only [lay]
     have b622 := bt hb16 hb351
     have b625 := bt (bt (bt b622 hb495) hb590) hb601
     exact hk73 _ _ ⟨g346, A618, c619, g490, g585, rfl, (bt b625 hb614), (hg348.to (bt b605 hb614)), (hg587.to (bt hb601 hb614)), (by omega), (by omega), (hO616.more b625.size), ((hO492.to (bt (bt hb590 hb601) hb614)).more b622.size)⟩
  case L76 =>
   refine rs (i := 13) rfl (by kernel_rfl) (ow_make 26 (.const (.int .i64 24)) (.const (.int .i64 24)) rfl 24 24 rfl rfl Try.underlying26 info8 (by decide) (by decide) ?_)
   intro g634 W635 hO636 ge637 sz638 hb639
   have z640 := hb639.size
   have hS641 := bt hS18 hb639
   refine ⟨hS641, ?_⟩
   simp only [lay]
   refine tk_three (i := 2) (j := 7) (k := 14) (by kernel_rfl) ?L642 ?L643 ?L644
   case L642 =>
    have y649 := (own_byS (hO.to (bt (bt (bt hb6 hb13) hb16) hb639)))
    refine rs (i := 2) rfl (by kernel_rfl) (ow_call (fun v w' => v = .int .u16 (two17 l k) ∧ Below W635.heap.size W635 w') (by exact xk Try.func50) ((two18_any _ _ _ _ k W635 y649 (by omega) (by omega)).mono fun e w' h => ⟨_, h.1, rfl, h.2⟩) ?_)
    rintro _ W650 ⟨rfl, hb651⟩
    have z652 := hb651.size
    have hS653 := bt hS641 hb651
    refine ⟨hS653, ?_⟩
    simp only [lay]
    refine tk_two (i := 7) (j := 14) (by kernel_rfl) ?L654 ?L655
    case L654 =>
     refine rs (i := 7) rfl (by kernel_rfl) (ow_build [sq9 g1 3 16 16, sq9 g1 19 16 16] rfl Try.underlying100 (by kernel_rfl) (by kernel_rfl) rfl (by decide) (by decide) (by first|rfl|(simp only [List.map_toArray, List.map_cons, List.map_nil] <;> rfl)) (by simp [Value.cells]) ?_)
     intro g656 W657 hg658 ge659 sz660 hb661
     have z662 := hb661.size
     have hS663 := bt hS653 hb661
     refine ⟨hS663, ?_⟩
     simp only [lay]
     refine tk_two (i := 8) (j := 14) (by kernel_rfl) ?L664 ?L665
     case L664 =>
      have has670 := hg3.to (bt (bt (bt (bt hb13 hb16) hb639) hb651) hb661)
      refine rs (i := 8) rfl (by kernel_rfl) (ow_call (fun v w' => OwnB w' W657.heap.size v (from18 d) ∧ Below W657.heap.size W657 w') (by exact xk Try.func81) (concat2 hg658 (has670.byIn 3 16 d.src hR.ok.srcL ((show (_ : List Value) = u8s (l16 d.src) from by kernel_rfl).trans (u8s_16 hR.ok.srcL)) hR.ok.src (by decide)) (has670.byIn 19 16 d.dst hR.ok.dstL ((show (_ : List Value) = u8s (l16 d.dst) from by kernel_rfl).trans (u8s_16 hR.ok.dstL)) hR.ok.dst (by decide)) (by simp; try omega)) ?_)
      rintro v673 W671 ⟨hO674, hb672⟩
      have z675 := hb672.size
      obtain ⟨A676, c677, rfl, y678⟩ := hO674.by_
      have hS679 := bt hS663 hb672
      refine ⟨hS679, ?_⟩
      simp only [lay]
      refine t1 14 rfl (ow_build [sq9 g8 0 4 4, sq9 g8 4 4 4, sq9 g634 0 24 24] rfl Try.underlying100 (by kernel_rfl) (by kernel_rfl) rfl (by decide) (by decide) (by first|rfl|(simp only [List.map_toArray, List.map_cons, List.map_nil] <;> rfl)) (by simp [Value.cells]) ?_)
      intro g680 W681 hg682 ge683 sz684 hb685
      have z686 := hb685.size
      have hS687 := bt hS679 hb685
      refine ⟨hS687, ?_⟩
      simp only [lay]
      have b690 := bt (bt (bt hb16 hb639) hb651) hb661
      exact hk73 _ _ ⟨g656, A676, c677, g634, g680, rfl, (bt (bt b690 hb672) hb685), (hg658.to (bt hb672 hb685)), hg682, (by omega), (by omega), ((hO674.to hb685).more b690.size), ((hO636.to (bt (bt (bt hb651 hb661) hb672) hb685)).more hb16.size)⟩
     case L665 =>
      refine rs (i := 14) rfl (by kernel_rfl) (ow_build [sq9 g8 0 4 4, sq9 g8 4 4 4, sq9 g634 0 24 24] rfl Try.underlying100 (by kernel_rfl) (by kernel_rfl) rfl (by decide) (by decide) (by first|rfl|(simp only [List.map_toArray, List.map_cons, List.map_nil] <;> rfl)) (by simp [Value.cells]) ?_)
      intro g700 W701 hg702 ge703 sz704 hb705
      have z706 := hb705.size
      have hS707 := bt hS663 hb705
      refine ⟨hS707, ?_⟩
      simp only [lay]
      have has714 := hg3.to (bt (bt (bt (bt (bt hb13 hb16) hb639) hb651) hb661) hb705)
      refine t1 8 rfl (ow_call (fun v w' => OwnB w' W701.heap.size v (from18 d) ∧ Below W701.heap.size W701 w') (by exact xk Try.func81) (concat2 (hg658.to hb705) (has714.byIn 3 16 d.src hR.ok.srcL ((show (_ : List Value) = u8s (l16 d.src) from by kernel_rfl).trans (u8s_16 hR.ok.srcL)) hR.ok.src (by decide)) (has714.byIn 19 16 d.dst hR.ok.dstL ((show (_ : List Value) = u8s (l16 d.dst) from by kernel_rfl).trans (u8s_16 hR.ok.dstL)) hR.ok.dst (by decide)) (by simp; try omega)) ?_)
      rintro v717 W715 ⟨hO718, hb716⟩
      have z719 := hb716.size
      obtain ⟨A720, c721, rfl, y722⟩ := hO718.by_
      have hS723 := bt hS707 hb716
      refine ⟨hS723, ?_⟩
      simp only [lay]
      have b727 := bt (bt (bt (bt hb16 hb639) hb651) hb661) hb705
      exact hk73 _ _ ⟨g656, A720, c721, g634, g700, rfl, (bt b727 hb716), (hg658.to (bt hb705 hb716)), (hg702.to hb716), (by omega), (by omega), (hO718.more b727.size), ((hO636.to (bt (bt (bt hb651 hb661) hb705) hb716)).more hb16.size)⟩
    case L655 =>
     refine rs (i := 14) rfl (by kernel_rfl) (ow_build [sq9 g8 0 4 4, sq9 g8 4 4 4, sq9 g634 0 24 24] rfl Try.underlying100 (by kernel_rfl) (by kernel_rfl) rfl (by decide) (by decide) (by first|rfl|(simp only [List.map_toArray, List.map_cons, List.map_nil] <;> rfl)) (by simp [Value.cells]) ?_)
     intro g736 W737 hg738 ge739 sz740 hb741
     have z742 := hb741.size
     have hS743 := bt hS653 hb741
     refine ⟨hS743, ?_⟩
     simp only [lay]
     refine t1 7 rfl (ow_build [sq9 g1 3 16 16, sq9 g1 19 16 16] rfl Try.underlying100 (by kernel_rfl) (by kernel_rfl) rfl (by decide) (by decide) (by first|rfl|(simp only [List.map_toArray, List.map_cons, List.map_nil] <;> rfl)) (by simp [Value.cells]) ?_)
     intro g744 W745 hg746 ge747 sz748 hb749
     have z750 := hb749.size
     have hS751 := bt hS743 hb749
     refine ⟨hS751, ?_⟩
     simp only [lay]
     have has757 := hg3.to (bt (bt (bt (bt (bt hb13 hb16) hb639) hb651) hb741) hb749)
     refine t1 8 rfl (ow_call (fun v w' => OwnB w' W745.heap.size v (from18 d) ∧ Below W745.heap.size W745 w') (by exact xk Try.func81) (concat2 hg746 (has757.byIn 3 16 d.src hR.ok.srcL ((show (_ : List Value) = u8s (l16 d.src) from by kernel_rfl).trans (u8s_16 hR.ok.srcL)) hR.ok.src (by decide)) (has757.byIn 19 16 d.dst hR.ok.dstL ((show (_ : List Value) = u8s (l16 d.dst) from by kernel_rfl).trans (u8s_16 hR.ok.dstL)) hR.ok.dst (by decide)) (by simp; try omega)) ?_)
     rintro v760 W758 ⟨hO761, hb759⟩
     have z762 := hb759.size
     obtain ⟨A763, c764, rfl, y765⟩ := hO761.by_
     have hS766 := bt hS751 hb759
     refine ⟨hS766, ?_⟩
     simp only [lay]
     have b770 := bt (bt (bt (bt hb16 hb639) hb651) hb741) hb749
     exact hk73 _ _ ⟨g744, A763, c764, g634, g736, rfl, (bt b770 hb759), (hg746.to hb759), (hg738.to (bt hb749 hb759)), (by omega), (by omega), (hO761.more b770.size), ((hO636.to (bt (bt (bt hb651 hb741) hb749) hb759)).more hb16.size)⟩
   case L643 =>
    refine rs (i := 7) rfl (by kernel_rfl) (ow_build [sq9 g1 3 16 16, sq9 g1 19 16 16] rfl Try.underlying100 (by kernel_rfl) (by kernel_rfl) rfl (by decide) (by decide) (by first|rfl|(simp only [List.map_toArray, List.map_cons, List.map_nil] <;> rfl)) (by simp [Value.cells]) ?_)
    intro g779 W780 hg781 ge782 sz783 hb784
    have z785 := hb784.size
    have hS786 := bt hS641 hb784
    refine ⟨hS786, ?_⟩
    simp only [lay]
    refine tk_two (i := 2) (j := 14) (by kernel_rfl) ?L787 ?L788
    case L787 =>
     have y794 := (own_byS (hO.to (bt (bt (bt (bt hb6 hb13) hb16) hb639) hb784)))
     refine rs (i := 2) rfl (by kernel_rfl) (ow_call (fun v w' => v = .int .u16 (two17 l k) ∧ Below W780.heap.size W780 w') (by exact xk Try.func50) ((two18_any _ _ _ _ k W780 y794 (by omega) (by omega)).mono fun e w' h => ⟨_, h.1, rfl, h.2⟩) ?_)
     rintro _ W795 ⟨rfl, hb796⟩
     have z797 := hb796.size
     have hS798 := bt hS786 hb796
     refine ⟨hS798, ?_⟩
     simp only [lay]
     refine tk_two (i := 8) (j := 14) (by kernel_rfl) ?L799 ?L800
     case L799 =>
      have has806 := hg3.to (bt (bt (bt (bt hb13 hb16) hb639) hb784) hb796)
      refine rs (i := 8) rfl (by kernel_rfl) (ow_call (fun v w' => OwnB w' W795.heap.size v (from18 d) ∧ Below W795.heap.size W795 w') (by exact xk Try.func81) (concat2 (hg781.to hb796) (has806.byIn 3 16 d.src hR.ok.srcL ((show (_ : List Value) = u8s (l16 d.src) from by kernel_rfl).trans (u8s_16 hR.ok.srcL)) hR.ok.src (by decide)) (has806.byIn 19 16 d.dst hR.ok.dstL ((show (_ : List Value) = u8s (l16 d.dst) from by kernel_rfl).trans (u8s_16 hR.ok.dstL)) hR.ok.dst (by decide)) (by simp; try omega)) ?_)
      rintro v809 W807 ⟨hO810, hb808⟩
      have z811 := hb808.size
      obtain ⟨A812, c813, rfl, y814⟩ := hO810.by_
      have hS815 := bt hS798 hb808
      refine ⟨hS815, ?_⟩
      simp only [lay]
      refine t1 14 rfl (ow_build [sq9 g8 0 4 4, sq9 g8 4 4 4, sq9 g634 0 24 24] rfl Try.underlying100 (by kernel_rfl) (by kernel_rfl) rfl (by decide) (by decide) (by first|rfl|(simp only [List.map_toArray, List.map_cons, List.map_nil] <;> rfl)) (by simp [Value.cells]) ?_)
      intro g816 W817 hg818 ge819 sz820 hb821
      have z822 := hb821.size
      have hS823 := bt hS815 hb821
      refine ⟨hS823, ?_⟩
      simp only [lay]
      have b826 := bt (bt (bt hb16 hb639) hb784) hb796
      exact hk73 _ _ ⟨g779, A812, c813, g634, g816, rfl, (bt (bt b826 hb808) hb821), (hg781.to (bt (bt hb796 hb808) hb821)), hg818, (by omega), (by omega), ((hO810.to hb821).more b826.size), ((hO636.to (bt (bt (bt hb784 hb796) hb808) hb821)).more hb16.size)⟩
     case L800 =>
      refine rs (i := 14) rfl (by kernel_rfl) (ow_build [sq9 g8 0 4 4, sq9 g8 4 4 4, sq9 g634 0 24 24] rfl Try.underlying100 (by kernel_rfl) (by kernel_rfl) rfl (by decide) (by decide) (by first|rfl|(simp only [List.map_toArray, List.map_cons, List.map_nil] <;> rfl)) (by simp [Value.cells]) ?_)
      intro g837 W838 hg839 ge840 sz841 hb842
      have z843 := hb842.size
      have hS844 := bt hS798 hb842
      refine ⟨hS844, ?_⟩
      simp only [lay]
      have b845 := bt hb796 hb842
      have has852 := hg3.to (bt (bt (bt (bt (bt hb13 hb16) hb639) hb784) hb796) hb842)
      refine t1 8 rfl (ow_call (fun v w' => OwnB w' W838.heap.size v (from18 d) ∧ Below W838.heap.size W838 w') (by exact xk Try.func81) (concat2 (hg781.to b845) (has852.byIn 3 16 d.src hR.ok.srcL ((show (_ : List Value) = u8s (l16 d.src) from by kernel_rfl).trans (u8s_16 hR.ok.srcL)) hR.ok.src (by decide)) (has852.byIn 19 16 d.dst hR.ok.dstL ((show (_ : List Value) = u8s (l16 d.dst) from by kernel_rfl).trans (u8s_16 hR.ok.dstL)) hR.ok.dst (by decide)) (by simp; try omega)) ?_)
      rintro v855 W853 ⟨hO856, hb854⟩
      have z857 := hb854.size
      obtain ⟨A858, c859, rfl, y860⟩ := hO856.by_
      have hS861 := bt hS844 hb854
      refine ⟨hS861, ?_⟩
      simp only [lay]
      have b865 := bt (bt (bt (bt hb16 hb639) hb784) hb796) hb842
      exact hk73 _ _ ⟨g779, A858, c859, g634, g837, rfl, (bt b865 hb854), (hg781.to (bt b845 hb854)), (hg839.to hb854), (by omega), (by omega), (hO856.more b865.size), ((hO636.to (bt (bt (bt hb784 hb796) hb842) hb854)).more hb16.size)⟩
    case L788 =>
     refine rs (i := 14) rfl (by kernel_rfl) (ow_build [sq9 g8 0 4 4, sq9 g8 4 4 4, sq9 g634 0 24 24] rfl Try.underlying100 (by kernel_rfl) (by kernel_rfl) rfl (by decide) (by decide) (by first|rfl|(simp only [List.map_toArray, List.map_cons, List.map_nil] <;> rfl)) (by simp [Value.cells]) ?_)
     intro g874 W875 hg876 ge877 sz878 hb879
     have z880 := hb879.size
     have hS881 := bt hS786 hb879
     refine ⟨hS881, ?_⟩
     simp only [lay]
     have y888 := (own_byS (hO.to (bt (bt (bt (bt (bt hb6 hb13) hb16) hb639) hb784) hb879)))
     refine t1 2 rfl (ow_call (fun v w' => v = .int .u16 (two17 l k) ∧ Below W875.heap.size W875 w') (by exact xk Try.func50) ((two18_any _ _ _ _ k W875 y888 (by omega) (by omega)).mono fun e w' h => ⟨_, h.1, rfl, h.2⟩) ?_)
     rintro _ W889 ⟨rfl, hb890⟩
     have z891 := hb890.size
     have hS892 := bt hS881 hb890
     refine ⟨hS892, ?_⟩
     simp only [lay]
     have b893 := bt hb879 hb890
     have has900 := hg3.to (bt (bt (bt (bt (bt hb13 hb16) hb639) hb784) hb879) hb890)
     refine t1 8 rfl (ow_call (fun v w' => OwnB w' W889.heap.size v (from18 d) ∧ Below W889.heap.size W889 w') (by exact xk Try.func81) (concat2 (hg781.to b893) (has900.byIn 3 16 d.src hR.ok.srcL ((show (_ : List Value) = u8s (l16 d.src) from by kernel_rfl).trans (u8s_16 hR.ok.srcL)) hR.ok.src (by decide)) (has900.byIn 19 16 d.dst hR.ok.dstL ((show (_ : List Value) = u8s (l16 d.dst) from by kernel_rfl).trans (u8s_16 hR.ok.dstL)) hR.ok.dst (by decide)) (by simp; try omega)) ?_)
     rintro v903 W901 ⟨hO904, hb902⟩
     have z905 := hb902.size
     obtain ⟨A906, c907, rfl, y908⟩ := hO904.by_
     have hS909 := bt hS892 hb902
     refine ⟨hS909, ?_⟩
     simp only [lay]
     have b913 := bt (bt (bt (bt hb16 hb639) hb784) hb879) hb890
     exact hk73 _ _ ⟨g779, A906, c907, g634, g874, rfl, (bt b913 hb902), (hg781.to (bt b893 hb902)), (hg876.to (bt hb890 hb902)), (by omega), (by omega), (hO904.more b913.size), ((hO636.to (bt (bt (bt hb784 hb879) hb890) hb902)).more hb16.size)⟩
   case L644 =>
    refine rs (i := 14) rfl (by kernel_rfl) (ow_build [sq9 g8 0 4 4, sq9 g8 4 4 4, sq9 g634 0 24 24] rfl Try.underlying100 (by kernel_rfl) (by kernel_rfl) rfl (by decide) (by decide) (by first|rfl|(simp only [List.map_toArray, List.map_cons, List.map_nil] <;> rfl)) (by simp [Value.cells]) ?_)
    intro g923 W924 hg925 ge926 sz927 hb928
    have z929 := hb928.size
    have hS930 := bt hS641 hb928
    refine ⟨hS930, ?_⟩
    simp only [lay]
    refine tk_two (i := 2) (j := 7) (by kernel_rfl) ?L931 ?L932
    case L931 =>
     have y938 := (own_byS (hO.to (bt (bt (bt (bt hb6 hb13) hb16) hb639) hb928)))
     refine rs (i := 2) rfl (by kernel_rfl) (ow_call (fun v w' => v = .int .u16 (two17 l k) ∧ Below W924.heap.size W924 w') (by exact xk Try.func50) ((two18_any _ _ _ _ k W924 y938 (by omega) (by omega)).mono fun e w' h => ⟨_, h.1, rfl, h.2⟩) ?_)
     rintro _ W939 ⟨rfl, hb940⟩
     have z941 := hb940.size
     have hS942 := bt hS930 hb940
     refine ⟨hS942, ?_⟩
     simp only [lay]
     refine t1 7 rfl (ow_build [sq9 g1 3 16 16, sq9 g1 19 16 16] rfl Try.underlying100 (by kernel_rfl) (by kernel_rfl) rfl (by decide) (by decide) (by first|rfl|(simp only [List.map_toArray, List.map_cons, List.map_nil] <;> rfl)) (by simp [Value.cells]) ?_)
     intro g943 W944 hg945 ge946 sz947 hb948
     have z949 := hb948.size
     have hS950 := bt hS942 hb948
     refine ⟨hS950, ?_⟩
     simp only [lay]
     have has956 := hg3.to (bt (bt (bt (bt (bt hb13 hb16) hb639) hb928) hb940) hb948)
     refine t1 8 rfl (ow_call (fun v w' => OwnB w' W944.heap.size v (from18 d) ∧ Below W944.heap.size W944 w') (by exact xk Try.func81) (concat2 hg945 (has956.byIn 3 16 d.src hR.ok.srcL ((show (_ : List Value) = u8s (l16 d.src) from by kernel_rfl).trans (u8s_16 hR.ok.srcL)) hR.ok.src (by decide)) (has956.byIn 19 16 d.dst hR.ok.dstL ((show (_ : List Value) = u8s (l16 d.dst) from by kernel_rfl).trans (u8s_16 hR.ok.dstL)) hR.ok.dst (by decide)) (by simp; try omega)) ?_)
     rintro v959 W957 ⟨hO960, hb958⟩
     have z961 := hb958.size
     obtain ⟨A962, c963, rfl, y964⟩ := hO960.by_
     have hS965 := bt hS950 hb958
     refine ⟨hS965, ?_⟩
     simp only [lay]
     have b969 := bt (bt (bt (bt hb16 hb639) hb928) hb940) hb948
     exact hk73 _ _ ⟨g943, A962, c963, g634, g923, rfl, (bt b969 hb958), (hg945.to hb958), (hg925.to (bt (bt hb940 hb948) hb958)), (by omega), (by omega), (hO960.more b969.size), ((hO636.to (bt (bt (bt hb928 hb940) hb948) hb958)).more hb16.size)⟩
    case L932 =>
     refine rs (i := 7) rfl (by kernel_rfl) (ow_build [sq9 g1 3 16 16, sq9 g1 19 16 16] rfl Try.underlying100 (by kernel_rfl) (by kernel_rfl) rfl (by decide) (by decide) (by first|rfl|(simp only [List.map_toArray, List.map_cons, List.map_nil] <;> rfl)) (by simp [Value.cells]) ?_)
     intro g979 W980 hg981 ge982 sz983 hb984
     have z985 := hb984.size
     have hS986 := bt hS930 hb984
     refine ⟨hS986, ?_⟩
     simp only [lay]
     have y993 := (own_byS (hO.to (bt (bt (bt (bt (bt hb6 hb13) hb16) hb639) hb928) hb984)))
     refine t1 2 rfl (ow_call (fun v w' => v = .int .u16 (two17 l k) ∧ Below W980.heap.size W980 w') (by exact xk Try.func50) ((two18_any _ _ _ _ k W980 y993 (by omega) (by omega)).mono fun e w' h => ⟨_, h.1, rfl, h.2⟩) ?_)
     rintro _ W994 ⟨rfl, hb995⟩
     have z996 := hb995.size
     have hS997 := bt hS986 hb995
     refine ⟨hS997, ?_⟩
     simp only [lay]
     have has1004 := hg3.to (bt (bt (bt (bt (bt hb13 hb16) hb639) hb928) hb984) hb995)
     refine t1 8 rfl (ow_call (fun v w' => OwnB w' W994.heap.size v (from18 d) ∧ Below W994.heap.size W994 w') (by exact xk Try.func81) (concat2 (hg981.to hb995) (has1004.byIn 3 16 d.src hR.ok.srcL ((show (_ : List Value) = u8s (l16 d.src) from by kernel_rfl).trans (u8s_16 hR.ok.srcL)) hR.ok.src (by decide)) (has1004.byIn 19 16 d.dst hR.ok.dstL ((show (_ : List Value) = u8s (l16 d.dst) from by kernel_rfl).trans (u8s_16 hR.ok.dstL)) hR.ok.dst (by decide)) (by simp; try omega)) ?_)
     rintro v1007 W1005 ⟨hO1008, hb1006⟩
     have z1009 := hb1006.size
     obtain ⟨A1010, c1011, rfl, y1012⟩ := hO1008.by_
     have hS1013 := bt hS997 hb1006
     refine ⟨hS1013, ?_⟩
     simp only [lay]
     have b1017 := bt (bt (bt (bt hb16 hb639) hb928) hb984) hb995
     exact hk73 _ _ ⟨g979, A1010, c1011, g634, g923, rfl, (bt b1017 hb1006), (hg981.to (bt hb995 hb1006)), (hg925.to (bt (bt hb984 hb995) hb1006)), (by omega), (by omega), (hO1008.more b1017.size), ((hO636.to (bt (bt (bt hb928 hb984) hb995) hb1006)).more hb16.size)⟩
 rintro _ W72 ⟨g33, A52, c53, g56, g64, rfl, hb1028, hg1029, hg1031, l1030, l1032, hO1033, hO1034⟩
 have z1035 := hb1028.size
 have has1036 := hg10.to hb1028
 refine t1 15 rfl (ow_call (fun v w' => OwnB w' W72.heap.size v (to18 s t) ∧ Below W72.heap.size W72 w') (by exact xk Try.func81) (concat3 hg1031 (has1036.byIn 0 4 s hE.sL ((show (_ : List Value) = u8s (l4 s) from by kernel_rfl).trans (u8s_4 hE.sL)) hE.s (by decide)) (has1036.byIn 4 4 t hE.tL ((show (_ : List Value) = u8s (l4 t) from by kernel_rfl).trans (u8s_4 hE.tL)) hE.t (by decide)) (own_byS hO1034) (by simp; try omega)) ?_)
 rintro v1039 W1037 ⟨hO1040, hb1038⟩
 have z1041 := hb1038.size
 obtain ⟨A1042, c1043, rfl, y1044⟩ := hO1040.by_
 have hS1045 := bt hb1028 hb1038
 refine ⟨hS1045, ?_⟩
 simp only [lay]
 refine t1 16 rfl (ow_call (fun v w' => (∃ q, v = .tuple #[.int .u16 q, .int .i64 0] ∧ q = (updateS (two17 l k) (from18 d) (to18 s t)).1 ∧ 0 ≤ q ∧ q < 65536) ∧ Below W1037.heap.size W1037 w') (by exact xk Try.func83) (update_one (two17_rng (own_byS hO).rng k) (own_byS (hO1033.to hb1038)) (own_byS hO1040) he) ?_)
 rintro _ W1047 ⟨⟨q1049, rfl, hq1050, q01051, q11052⟩, hb1048⟩
 have z1053 := hb1048.size
 have hS1054 := bt hS1045 hb1048
 refine ⟨hS1054, ?_⟩
 simp only [lay]
 refine te 17 (.tuple #[.int .u16 q1049, .int .i64 0]) hS1054 rfl (by intro _ _; exact xm) ?_
 refine te 18 (.int .u16 q1049) hS1054 rfl (by intro _ _; exact xe) ?_
 refine te 19 (.int .i64 0) hS1054 rfl (by intro _ _; exact xe) ?_
 refine te 20 (.int .u16 q1049) hS1054 rfl (by intro _ _; exact xa) ?_
 simp only [lay]
 refine te 21 (.int .i64 0) hS1054 rfl (by intro _ _; exact xa) ?_
 simp only [lay]
 refine wpAnyH_done (by kernel_rfl) ?_ _
 change Code.wp _ _ _ _ _
 refine wp_seq ?_
 refine wp_sr ?_
 refine lv (.int .u16 q1049) (by exact xm) ?_
 simp only [lay]
 by_cases q1055 : q1049 = 0
 case pos =>
  refine lv (.bool true) (by exact yq) ?_
  refine lv (.bool true) (by exact xm) ?_
  refine lv (pq9 g1 40) (by exact xf 40 0 Try.underlying28) ?_
  simp only [lay]
  have has1059 := hg3.to (bt (bt (bt hb13 hb1028) hb1038) hb1048)
  refine lv (.int .u8 d.pro) (by exact xc Try.underlying5 (has1059.cell 40 rfl)) ?_
  simp only [lay]
  by_cases q1060 : d.pro = 17
  case pos =>
   refine lv (.bool true) (by exact yq) ?_
   refine lv (.bool true) (by exact xp (b := true)) ?_
   simp only [lay]
   refine wn ?_
   refine cT9 ?_
   refine wp_region_lit ?_
   refine lv (.int .u16 65535) (by exact xa) ?_
   simp only [lay]
   refine wn ?_
   refine wp_region_lit ?_
   refine lv (sq9 g 0 n c) (by exact xm) ?_
   refine lv (.int .i64 (k : Int)) (by exact xm) ?_
   refine lv (.int .u16 65535) (by exact xm) ?_
   simp only [lay]
   refine lz (ow_call (fun v w' => v = .tuple #[] ∧ OwnB w' w0.heap.size (sq9 g 0 n c) (put17 l k 65535) ∧ But6 g W1047 w' ∧ Below g W1047 w') (by exact xk Try.func52) ((set18_any g n c w0.heap.size k 65535 (by omega) _ W1047 (hO.to (bt (bt (bt (bt hb6 hb13) hb1028) hb1038) hb1048)) (by omega) (by omega)).mono fun e w' h => ⟨_, h.1, rfl, h.2⟩) ?_)
   rintro _ W1063 ⟨rfl, hO1062, bs1061, hb1064⟩
   have b1073 := bt hb1038 hb1048
   have z1079 := hb1064.size
   have has1080 := has1059.but6 bs1061 (by omega)
   have has1081 := (hg10.to (bt (bt hb1028 hb1038) hb1048)).but6 bs1061 (by omega)
   have own1082 := (hO1033.to b1073).but6 bs1061 (by omega)
   have own1083 := (hO1034.to b1073).but6 bs1061 (by omega)
   have has1084 := (hg1029.to b1073).but6 bs1061 (by omega)
   have has1085 := (hg1031.to b1073).but6 bs1061 (by omega)
   have own1086 := (hO1040.to hb1048).but6 bs1061 (by omega)
   simp only [lay]
   refine wpList_nil ?_
   have hf : fix17 (d.pro == 17) q1049 = 65535 := by
    unfold fix17
    rw [if_pos ⟨by assumption, by rw [show d.pro = 17 from by assumption]; rfl⟩]
   have e : carry17 (d.pro == 17) (from18 d) (to18 s t) l k = put17 l k 65535 := by
    rw [carry17, ← hq1050, hf]
   exact bodyPost_nrm (res_nil Try.results71) rfl ⟨rfl, by rw [e]; exact hO1062, ((((((ButG.ofB hb6).trans (ButG.ofB hb13)).trans (ButG.ofB hb1028)).trans (ButG.ofB hb1038)).trans (ButG.ofB hb1048)).trans (ButG.of6 bs1061)), (((((hb6.mono (by omega)).trans (hb13.mono (by omega))).trans (hb1028.mono (by omega))).trans (hb1038.mono (by omega))).trans (hb1048.mono (by omega))).trans (hb1064)⟩
  refine lv (.bool false) (by exact yqn) ?_
  refine lv (.bool false) (by exact xp (b := true)) ?_
  simp only [lay]
  refine wn ?_
  refine cF9 ?_
  refine wp_skip ?_
  change Code.wp _ _ _ _ _
  refine wp_region_lit ?_
  refine lv (sq9 g 0 n c) (by exact xm) ?_
  refine lv (.int .i64 (k : Int)) (by exact xm) ?_
  refine lv (.int .u16 q1049) (by exact xm) ?_
  simp only [lay]
  refine lz (ow_call (fun v w' => v = .tuple #[] ∧ OwnB w' w0.heap.size (sq9 g 0 n c) (put17 l k q1049) ∧ But6 g W1047 w' ∧ Below g W1047 w') (by exact xk Try.func52) ((set18_any g n c w0.heap.size k q1049 (by omega) _ W1047 (hO.to (bt (bt (bt (bt hb6 hb13) hb1028) hb1038) hb1048)) (by omega) (by omega)).mono fun e w' h => ⟨_, h.1, rfl, h.2⟩) ?_)
  rintro _ W1089 ⟨rfl, hO1088, bs1087, hb1090⟩
  have b1099 := bt hb1038 hb1048
  have z1105 := hb1090.size
  have has1106 := has1059.but6 bs1087 (by omega)
  have has1107 := (hg10.to (bt (bt hb1028 hb1038) hb1048)).but6 bs1087 (by omega)
  have own1108 := (hO1033.to b1099).but6 bs1087 (by omega)
  have own1109 := (hO1034.to b1099).but6 bs1087 (by omega)
  have has1110 := (hg1029.to b1099).but6 bs1087 (by omega)
  have has1111 := (hg1031.to b1099).but6 bs1087 (by omega)
  have own1112 := (hO1040.to hb1048).but6 bs1087 (by omega)
  simp only [lay]
  refine wpList_nil ?_
  have hf : fix17 (d.pro == 17) q1049 = q1049 := by
   unfold fix17
   rw [if_neg (fun h => absurd (by simpa using h.2) (show ¬ d.pro = 17 from by assumption))]
  have e : carry17 (d.pro == 17) (from18 d) (to18 s t) l k = put17 l k q1049 := by
   rw [carry17, ← hq1050, hf]
  exact bodyPost_nrm (res_nil Try.results71) rfl ⟨rfl, by rw [e]; exact hO1088, ((((((ButG.ofB hb6).trans (ButG.ofB hb13)).trans (ButG.ofB hb1028)).trans (ButG.ofB hb1038)).trans (ButG.ofB hb1048)).trans (ButG.of6 bs1087)), (((((hb6.mono (by omega)).trans (hb13.mono (by omega))).trans (hb1028.mono (by omega))).trans (hb1038.mono (by omega))).trans (hb1048.mono (by omega))).trans (hb1090)⟩
 refine lv (.bool false) (by exact yqn) ?_
 refine lv (.bool false) (by exact xm) ?_
 refine lzn ?_
 refine lzn ?_
 simp only [lay]
 refine lzn ?_
 refine lv (.bool false) (by exact xp (b := false)) ?_
 simp only [lay]
 refine wn ?_
 refine cF9 ?_
 refine wp_skip ?_
 change Code.wp _ _ _ _ _
 refine wp_region_lit ?_
 refine lv (sq9 g 0 n c) (by exact xm) ?_
 refine lv (.int .i64 (k : Int)) (by exact xm) ?_
 refine lv (.int .u16 q1049) (by exact xm) ?_
 simp only [lay]
 refine lz (ow_call (fun v w' => v = .tuple #[] ∧ OwnB w' w0.heap.size (sq9 g 0 n c) (put17 l k q1049) ∧ But6 g W1047 w' ∧ Below g W1047 w') (by exact xk Try.func52) ((set18_any g n c w0.heap.size k q1049 (by omega) _ W1047 (hO.to (bt (bt (bt (bt hb6 hb13) hb1028) hb1038) hb1048)) (by omega) (by omega)).mono fun e w' h => ⟨_, h.1, rfl, h.2⟩) ?_)
 rintro _ W1115 ⟨rfl, hO1114, bs1113, hb1116⟩
 have b1129 := bt hb1038 hb1048
 have z1135 := hb1116.size
 have has1136 := (hg3.to (bt (bt (bt hb13 hb1028) hb1038) hb1048)).but6 bs1113 (by omega)
 have has1137 := (hg10.to (bt (bt hb1028 hb1038) hb1048)).but6 bs1113 (by omega)
 have own1138 := (hO1033.to b1129).but6 bs1113 (by omega)
 have own1139 := (hO1034.to b1129).but6 bs1113 (by omega)
 have has1140 := (hg1029.to b1129).but6 bs1113 (by omega)
 have has1141 := (hg1031.to b1129).but6 bs1113 (by omega)
 have own1142 := (hO1040.to hb1048).but6 bs1113 (by omega)
 simp only [lay]
 refine wpList_nil ?_
 have hf : fix17 (d.pro == 17) q1049 = q1049 := by
  unfold fix17
  rw [if_neg (fun h => absurd h.1 (by assumption))]
 have e : carry17 (d.pro == 17) (from18 d) (to18 s t) l k = put17 l k q1049 := by
  rw [carry17, ← hq1050, hf]
 exact bodyPost_nrm (res_nil Try.results71) rfl ⟨rfl, by rw [e]; exact hO1114, ((((((ButG.ofB hb6).trans (ButG.ofB hb13)).trans (ButG.ofB hb1028)).trans (ButG.ofB hb1038)).trans (ButG.ofB hb1048)).trans (ButG.of6 bs1113)), (((((hb6.mono (by omega)).trans (hb13.mono (by omega))).trans (hb1028.mono (by omega))).trans (hb1038.mono (by omega))).trans (hb1048.mono (by omega))).trans (hb1116)⟩
set_option maxRecDepth 100000 in
set_option maxHeartbeats 1000000 in
theorem rheader18_any (d : D6) (hd : d.ok) (p : W6) (s t bl : List Int) (A : Option Addr) (c : Nat) (w : World) :
  Calls Try.prog 41 #[.agg (d.cells p), .agg (e4c s t), .slice A bl.length c] w fun e w' => e = .returned (.agg ((head18 d s t bl).cells (pB4 A c))) ∧ Below w.heap.size w w' := by
 have r1 := hd.id
 go_enter Try.func41, Try.ntmps41
 refine wp_sr ?_
 refine lz (ow_box 28 (.tmp 0) _ rfl rfl ?_)
 intro g1 W2 hg3 ge4 sz5 hb6
 have z7 := hb6.size
 simp only [lay]
 refine lz (ow_box 32 (.tmp 1) _ rfl rfl ?_)
 intro g8 W9 hg10 ge11 sz12 hb13
 have z14 := hb13.size
 simp only [lay]
 refine lz (oa (v17 0 0 false false 0 0 0 [] [] (.slice none 0 0) (.slice none 0 0)) ?_)
 intro g15 W16 hg17 ge18 sz19 hb20
 have z21 := hb20.size
 simp only [lay]
 refine wn ?_
 refine wp_sr ?_
 refine lv (pq9 g1 0) (by exact xf 0 0 Try.underlying28) ?_
 simp only [lay]
 have b22 := bt hb13 hb20
 have has23 := hg3.to b22
 refine lv (.int .u8 d.cls) (by exact xc Try.underlying5 (has23.cell 0 rfl)) ?_
 refine lv (pq9 g1 2) (by exact xf 2 0 Try.underlying28) ?_
 refine lv (.int .u8 d.hop) (by exact xc Try.underlying5 (has23.cell 2 rfl)) ?_
 refine lv (pq9 g8 0) (by exact xf 0 3 Try.underlying32) ?_
 simp only [lay]
 have has24 := hg10.to hb20
 refine lv (.agg (a49 s)) (by exact ex_loadAt (by rfl) (by rfl) (has24.loadIn (P := Try.prog) 0 (w49 s) (by kernel_rfl) 30 Try.underlying30 rfl (by kernel_rfl))) ?_
 refine lv (pq9 g8 4) (by exact xf 4 3 Try.underlying32) ?_
 refine lv (.agg (a49 t)) (by exact ex_loadAt (by rfl) (by rfl) (has24.loadIn (P := Try.prog) 4 (w49 t) (by kernel_rfl) 30 Try.underlying30 rfl (by kernel_rfl))) ?_
 refine lv (pq9 g1 40) (by exact xf 40 0 Try.underlying28) ?_
 simp only [lay]
 refine lv (.int .u8 d.pro) (by exact xc Try.underlying5 (has23.cell 40 rfl)) ?_
 refine lv (pq9 g1 36) (by exact xf 36 0 Try.underlying28) ?_
 refine lv (.bool d.frag) (by exact xc Try.underlying4 (has23.cell 36 rfl)) ?_
 simp only [lay]
 by_cases q25 : d.frag = true
 case pos =>
  rw [q25]
  refine lv (.bool false) (by exact ex_not (b := true) (by rfl) (by rfl)) ?_
  refine lv (.slice A bl.length c) (by exact xm) ?_
  refine lv (.agg (v17 d.cls 0 false false 0 d.hop d.pro s t (.slice none 0 0) (.slice A bl.length c))) (by kernel_rfl) ?_
  simp only [lay]
  refine lz (oa (v17 0 0 false false 0 0 0 [] [] (.slice none 0 0) (.slice none 0 0)) ?_)
  intro g26 W27 hg28 ge29 sz30 hb31
  have z32 := hb31.size
  simp only [lay]
  refine lz (ow_st 35 (.tmp 7) (.tmp 22) g26 (v17 d.cls 0 false false 0 d.hop d.pro s t (.slice none 0 0) (.slice A bl.length c)) _ _ rfl (by rfl) (by rfl) hg28 (by kernel_rfl) rfl (by kernel_rfl) ?_)
  intro W33 hg34 bs35 hb36
  have z37 := hb36.size
  simp only [lay]
  refine wn ?_
  refine wp_seq ?_
  refine wp_sr ?_
  refine lv (pq9 g1 40) (by exact xf 40 0 Try.underlying28) ?_
  simp only [lay]
  have l39 := lq b22 ge29
  have b40 := (bt b22 hb31).trans (hb36.mono l39)
  have has41 := hg3.to b40
  refine lv (.int .u8 d.pro) (by exact xc Try.underlying5 (has41.cell 40 rfl)) ?_
  simp only [lay]
  by_cases q42 : d.pro = 58
  case pos =>
   refine lv (.bool true) (by exact yq) ?_
   simp only [lay]
   refine wn ?_
   refine cT9 ?_
   refine wp_region_lit ?_
   refine lv (pq9 g26 6) (by exact xf 6 0 Try.underlying35) ?_
   simp only [lay]
   refine lz (ow_st1 5 (.tmp 26) (.const (.int .u8 1)) g26 6 (.int .u8 1) _ (v17 d.cls 0 false false 0 d.hop 1 s t (.slice none 0 0) (.slice A bl.length c)) _ rfl (by rfl) (by rfl) rfl (by kernel_rfl) hg34 rfl rfl (by kernel_rfl) ?_)
   intro W43 hg44 bs45 hb46
   have z47 := hb46.size
   simp only [lay]
   refine wn ?_
   refine wp_seq ?_
   refine wp_sr ?_
   refine lv (pq9 g1 36) (by exact xf 36 0 Try.underlying28) ?_
   simp only [lay]
   have b48 := b40.trans (hb46.mono l39)
   refine lv (.bool d.frag) (by exact xc Try.underlying4 ((hg3.to b48).cell 36 rfl)) ?_
   simp only [lay]
   refine wn ?_
   rw [show d.frag = true from by assumption]
   refine cT9 ?_
   refine rg_drawn g26 (by kernel_rfl) (by omega) ?_
   intro W51 hb52 hs53 hS54
   have z55 := hb52.size
   refine te 0 (pq9 g1 37) hS54 rfl (by intro _ _; exact xf 37 0 Try.underlying28) ?_
   refine te 1 (.int .u32 d.id) hS54 rfl (by intro _ h; exact xc Try.underlying22 ((hg3.to (b48.trans (Below.mono h l39))).cell 37 rfl)) ?_
   refine te 2 (.int .u16 (d.id % 65536)) hS54 rfl (by intro _ _; exact xv (conv_u16m _ _ _ _ (by kernel_rfl) Try.underlying33 _)) ?_
   refine te 3 (pq9 g1 38) hS54 rfl (by intro _ _; exact xf 38 0 Try.underlying28) ?_
   simp only [lay]
   refine te 4 (.int .i64 d.off) hS54 rfl (by intro _ h; exact xc Try.underlying3 ((hg3.to (b48.trans (Below.mono h l39))).cell 38 rfl)) ?_
   refine te 5 (pq9 g1 39) hS54 rfl (by intro _ _; exact xf 39 0 Try.underlying28) ?_
   refine te 6 (.bool d.more) hS54 rfl (by intro _ h; exact xc Try.underlying4 ((hg3.to (b48.trans (Below.mono h l39))).cell 39 rfl)) ?_
   refine te 7 (pq9 g26 1) hS54 rfl (by intro _ _; exact xf 1 0 Try.underlying35) ?_
   simp only [lay]
   refine t1 8 rfl (ow_st1 33 (.tmp 36) (.tmp 31) g26 1 (.int .u16 (d.id % 65536)) _ (v17 d.cls (d.id % 65536) false false 0 d.hop 1 s t (.slice none 0 0) (.slice A bl.length c)) _ rfl (by rfl) (by rfl) rfl (by kernel_rfl) (hg44.to hb52) rfl rfl (by kernel_rfl) ?_)
   intro W56 hg57 bs58 hb59
   have z61 := hb59.size
   refine ⟨(Below.trans hS54 hb59), ?_⟩
   have hS62 := (Below.trans hS54 hb59)
   simp only [lay]
   refine te 9 (pq9 g26 4) hS62 rfl (by intro _ _; exact xf 4 0 Try.underlying35) ?_
   simp only [lay]
   refine t1 10 rfl (ow_st1 3 (.tmp 37) (.tmp 33) g26 4 (.int .i64 d.off) _ (v17 d.cls (d.id % 65536) false false d.off d.hop 1 s t (.slice none 0 0) (.slice A bl.length c)) _ rfl (by rfl) (by rfl) rfl (by kernel_rfl) hg57 rfl rfl (by kernel_rfl) ?_)
   intro W63 hg64 bs65 hb66
   have z67 := hb66.size
   refine ⟨(Below.trans hS62 hb66), ?_⟩
   have hS68 := (Below.trans hS62 hb66)
   simp only [lay]
   refine te 11 (pq9 g26 3) hS68 rfl (by intro _ _; exact xf 3 0 Try.underlying35) ?_
   simp only [lay]
   refine t1 12 rfl (ow_st1 4 (.tmp 38) (.tmp 35) g26 3 (.bool d.more) _ (v17 d.cls (d.id % 65536) false d.more d.off d.hop 1 s t (.slice none 0 0) (.slice A bl.length c)) _ rfl (by rfl) (by rfl) rfl (by kernel_rfl) hg64 rfl rfl (by kernel_rfl) ?_)
   intro W69 hg70 bs71 hb72
   have z73 := hb72.size
   refine ⟨(Below.trans hS68 hb72), ?_⟩
   have hS74 := (Below.trans hS68 hb72)
   simp only [lay]
   refine wpAnyH_done (by kernel_rfl) ?_ _
   change Code.wp _ _ _ _ _
   refine wp_sr ?_
   refine lv (.agg (v17 d.cls (d.id % 65536) false d.more d.off d.hop 1 s t (.slice none 0 0) (.slice A bl.length c))) (by exact xo (hg70.load (P := Try.prog) 35 Try.underlying35 rfl (by kernel_rfl))) ?_
   simp only [lay]
   have l79 : W16.heap.size ≤ g26 := Nat.le_of_eq ge29.symm
   refine lz (ow_st 35 (.tmp 6) (.tmp 39) g15 (v17 d.cls (d.id % 65536) false d.more d.off d.hop 1 s t (.slice none 0 0) (.slice A bl.length c)) _ _ rfl (by rfl) (by rfl) (hg17.to ((((bt ((hb31.trans (hb36.mono l79)).trans (hb46.mono l79)) hb52).trans (hb59.mono l79)).trans (hb66.mono l79)).trans (hb72.mono l79))) (by kernel_rfl) rfl (by kernel_rfl) ?_)
   intro W75 hg76 bs77 hb78
   have z87 := hb78.size
   have has88 := hg70.but6 bs77 (by omega)
   simp only [lay]
   refine wn ?_
   refine wp_ret ?_
   try simp only [Exit.then]
   have e : (head18 d s t bl).cells (pB4 A c) = (v17 d.cls (d.id % 65536) false d.more d.off d.hop 1 s t (.slice none 0 0) (.slice A bl.length c)) := by simp only [head18, pro18, *, if_true, if_false, Bool.false_eq_true]; rfl
   have b89 := bt hb6 hb13
   have b90 := bt b89 hb20
   have l92 := lq b90 ge29
   have b100 := ((((bt (((bt b90 hb31).trans (hb36.mono l92)).trans (hb46.mono l92)) hb52).trans (hb59.mono l92)).trans (hb66.mono l92)).trans (hb72.mono l92)).trans (hb78.mono (lq b89 ge18))
   exact bodyPost_ret (res_cell Try.results41 rfl (hg76.load (P := Try.prog) 35 Try.underlying35 rfl (by kernel_rfl))) rfl ⟨by rw [e], b100⟩
  refine lv (.bool false) (by exact yqn) ?_
  simp only [lay]
  refine wn ?_
  refine cF9 ?_
  refine wp_skip ?_
  change Code.wp _ _ _ _ _
  refine wp_seq ?_
  refine wp_sr ?_
  refine lv (pq9 g1 36) (by exact xf 36 0 Try.underlying28) ?_
  refine lv (.bool d.frag) (by exact xc Try.underlying4 (has41.cell 36 rfl)) ?_
  simp only [lay]
  refine wn ?_
  rw [show d.frag = true from by assumption]
  refine cT9 ?_
  refine rg_drawn g26 (by kernel_rfl) (by omega) ?_
  intro W102 hb103 hs104 hS105
  have z106 := hb103.size
  refine te 0 (pq9 g1 37) hS105 rfl (by intro _ _; exact xf 37 0 Try.underlying28) ?_
  refine te 1 (.int .u32 d.id) hS105 rfl (by intro _ h; exact xc Try.underlying22 ((hg3.to (b40.trans (Below.mono h l39))).cell 37 rfl)) ?_
  refine te 2 (.int .u16 (d.id % 65536)) hS105 rfl (by intro _ _; exact xv (conv_u16m _ _ _ _ (by kernel_rfl) Try.underlying33 _)) ?_
  refine te 3 (pq9 g1 38) hS105 rfl (by intro _ _; exact xf 38 0 Try.underlying28) ?_
  simp only [lay]
  refine te 4 (.int .i64 d.off) hS105 rfl (by intro _ h; exact xc Try.underlying3 ((hg3.to (b40.trans (Below.mono h l39))).cell 38 rfl)) ?_
  refine te 5 (pq9 g1 39) hS105 rfl (by intro _ _; exact xf 39 0 Try.underlying28) ?_
  refine te 6 (.bool d.more) hS105 rfl (by intro _ h; exact xc Try.underlying4 ((hg3.to (b40.trans (Below.mono h l39))).cell 39 rfl)) ?_
  refine te 7 (pq9 g26 1) hS105 rfl (by intro _ _; exact xf 1 0 Try.underlying35) ?_
  simp only [lay]
  refine t1 8 rfl (ow_st1 33 (.tmp 36) (.tmp 31) g26 1 (.int .u16 (d.id % 65536)) _ (v17 d.cls (d.id % 65536) false false 0 d.hop d.pro s t (.slice none 0 0) (.slice A bl.length c)) _ rfl (by rfl) (by rfl) rfl (by kernel_rfl) (hg34.to hb103) rfl rfl (by kernel_rfl) ?_)
  intro W107 hg108 bs109 hb110
  have z112 := hb110.size
  refine ⟨(Below.trans hS105 hb110), ?_⟩
  have hS113 := (Below.trans hS105 hb110)
  simp only [lay]
  refine te 9 (pq9 g26 4) hS113 rfl (by intro _ _; exact xf 4 0 Try.underlying35) ?_
  simp only [lay]
  refine t1 10 rfl (ow_st1 3 (.tmp 37) (.tmp 33) g26 4 (.int .i64 d.off) _ (v17 d.cls (d.id % 65536) false false d.off d.hop d.pro s t (.slice none 0 0) (.slice A bl.length c)) _ rfl (by rfl) (by rfl) rfl (by kernel_rfl) hg108 rfl rfl (by kernel_rfl) ?_)
  intro W114 hg115 bs116 hb117
  have z118 := hb117.size
  refine ⟨(Below.trans hS113 hb117), ?_⟩
  have hS119 := (Below.trans hS113 hb117)
  simp only [lay]
  refine te 11 (pq9 g26 3) hS119 rfl (by intro _ _; exact xf 3 0 Try.underlying35) ?_
  simp only [lay]
  refine t1 12 rfl (ow_st1 4 (.tmp 38) (.tmp 35) g26 3 (.bool d.more) _ (v17 d.cls (d.id % 65536) false d.more d.off d.hop d.pro s t (.slice none 0 0) (.slice A bl.length c)) _ rfl (by rfl) (by rfl) rfl (by kernel_rfl) hg115 rfl rfl (by kernel_rfl) ?_)
  intro W120 hg121 bs122 hb123
  have z124 := hb123.size
  refine ⟨(Below.trans hS119 hb123), ?_⟩
  have hS125 := (Below.trans hS119 hb123)
  simp only [lay]
  refine wpAnyH_done (by kernel_rfl) ?_ _
  change Code.wp _ _ _ _ _
  refine wp_sr ?_
  refine lv (.agg (v17 d.cls (d.id % 65536) false d.more d.off d.hop d.pro s t (.slice none 0 0) (.slice A bl.length c))) (by exact xo (hg121.load (P := Try.prog) 35 Try.underlying35 rfl (by kernel_rfl))) ?_
  simp only [lay]
  have l130 : W16.heap.size ≤ g26 := Nat.le_of_eq ge29.symm
  refine lz (ow_st 35 (.tmp 6) (.tmp 39) g15 (v17 d.cls (d.id % 65536) false d.more d.off d.hop d.pro s t (.slice none 0 0) (.slice A bl.length c)) _ _ rfl (by rfl) (by rfl) (hg17.to ((((bt (hb31.trans (hb36.mono l130)) hb103).trans (hb110.mono l130)).trans (hb117.mono l130)).trans (hb123.mono l130))) (by kernel_rfl) rfl (by kernel_rfl) ?_)
  intro W126 hg127 bs128 hb129
  have z137 := hb129.size
  have has138 := hg121.but6 bs128 (by omega)
  simp only [lay]
  refine wn ?_
  refine wp_ret ?_
  try simp only [Exit.then]
  have e : (head18 d s t bl).cells (pB4 A c) = (v17 d.cls (d.id % 65536) false d.more d.off d.hop d.pro s t (.slice none 0 0) (.slice A bl.length c)) := by simp only [head18, pro18, *, if_true, if_false, Bool.false_eq_true]; rfl
  have b139 := bt hb6 hb13
  have b140 := bt b139 hb20
  have l142 := lq b140 ge29
  have b149 := ((((bt ((bt b140 hb31).trans (hb36.mono l142)) hb103).trans (hb110.mono l142)).trans (hb117.mono l142)).trans (hb123.mono l142)).trans (hb129.mono (lq b139 ge18))
  exact bodyPost_ret (res_cell Try.results41 rfl (hg127.load (P := Try.prog) 35 Try.underlying35 rfl (by kernel_rfl))) rfl ⟨by rw [e], b149⟩
 replace q25 := eq_false_of_ne_true q25
 rw [q25]
 refine lv (.bool true) (by exact ex_not (b := false) (by rfl) (by rfl)) ?_
 refine lv (.slice A bl.length c) (by exact xm) ?_
 refine lv (.agg (v17 d.cls 0 true false 0 d.hop d.pro s t (.slice none 0 0) (.slice A bl.length c))) (by kernel_rfl) ?_
 simp only [lay]
 refine lz (oa (v17 0 0 false false 0 0 0 [] [] (.slice none 0 0) (.slice none 0 0)) ?_)
 intro g150 W151 hg152 ge153 sz154 hb155
 have z156 := hb155.size
 simp only [lay]
 refine lz (ow_st 35 (.tmp 7) (.tmp 22) g150 (v17 d.cls 0 true false 0 d.hop d.pro s t (.slice none 0 0) (.slice A bl.length c)) _ _ rfl (by rfl) (by rfl) hg152 (by kernel_rfl) rfl (by kernel_rfl) ?_)
 intro W157 hg158 bs159 hb160
 have z161 := hb160.size
 simp only [lay]
 refine wn ?_
 refine wp_seq ?_
 refine wp_sr ?_
 refine lv (pq9 g1 40) (by exact xf 40 0 Try.underlying28) ?_
 simp only [lay]
 have l163 := lq b22 ge153
 have b164 := (bt b22 hb155).trans (hb160.mono l163)
 have has165 := hg3.to b164
 refine lv (.int .u8 d.pro) (by exact xc Try.underlying5 (has165.cell 40 rfl)) ?_
 simp only [lay]
 by_cases q166 : d.pro = 58
 case pos =>
  refine lv (.bool true) (by exact yq) ?_
  simp only [lay]
  refine wn ?_
  refine cT9 ?_
  refine wp_region_lit ?_
  refine lv (pq9 g150 6) (by exact xf 6 0 Try.underlying35) ?_
  simp only [lay]
  refine lz (ow_st1 5 (.tmp 26) (.const (.int .u8 1)) g150 6 (.int .u8 1) _ (v17 d.cls 0 true false 0 d.hop 1 s t (.slice none 0 0) (.slice A bl.length c)) _ rfl (by rfl) (by rfl) rfl (by kernel_rfl) hg158 rfl rfl (by kernel_rfl) ?_)
  intro W167 hg168 bs169 hb170
  have z171 := hb170.size
  simp only [lay]
  refine wn ?_
  refine wp_seq ?_
  refine wp_sr ?_
  refine lv (pq9 g1 36) (by exact xf 36 0 Try.underlying28) ?_
  simp only [lay]
  refine lv (.bool d.frag) (by exact xc Try.underlying4 ((hg3.to (b164.trans (hb170.mono l163))).cell 36 rfl)) ?_
  simp only [lay]
  refine wn ?_
  rw [show d.frag = false from by assumption]
  refine cF9 ?_
  refine wp_skip ?_
  change Code.wp _ _ _ _ _
  refine wp_sr ?_
  refine lv (.agg (v17 d.cls 0 true false 0 d.hop 1 s t (.slice none 0 0) (.slice A bl.length c))) (by exact xo (hg168.load (P := Try.prog) 35 Try.underlying35 rfl (by kernel_rfl))) ?_
  simp only [lay]
  have l179 : W16.heap.size ≤ g150 := Nat.le_of_eq ge153.symm
  refine lz (ow_st 35 (.tmp 6) (.tmp 39) g15 (v17 d.cls 0 true false 0 d.hop 1 s t (.slice none 0 0) (.slice A bl.length c)) _ _ rfl (by rfl) (by rfl) (hg17.to ((hb155.trans (hb160.mono l179)).trans (hb170.mono l179))) (by kernel_rfl) rfl (by kernel_rfl) ?_)
  intro W175 hg176 bs177 hb178
  have z183 := hb178.size
  have has184 := hg168.but6 bs177 (by omega)
  simp only [lay]
  refine wn ?_
  refine wp_ret ?_
  try simp only [Exit.then]
  have e : (head18 d s t bl).cells (pB4 A c) = (v17 d.cls 0 true false 0 d.hop 1 s t (.slice none 0 0) (.slice A bl.length c)) := by simp only [head18, pro18, *, if_true, if_false, Bool.false_eq_true]; rfl
  have b185 := bt hb6 hb13
  have b186 := bt b185 hb20
  have l188 := lq b186 ge153
  exact bodyPost_ret (res_cell Try.results41 rfl (hg176.load (P := Try.prog) 35 Try.underlying35 rfl (by kernel_rfl))) rfl ⟨by rw [e], ((((bt b186 hb155).trans (hb160.mono l188)).trans (hb170.mono l188)).trans (hb178.mono (lq b185 ge18)))⟩
 refine lv (.bool false) (by exact yqn) ?_
 simp only [lay]
 refine wn ?_
 refine cF9 ?_
 refine wp_skip ?_
 change Code.wp _ _ _ _ _
 refine wp_seq ?_
 refine wp_sr ?_
 refine lv (pq9 g1 36) (by exact xf 36 0 Try.underlying28) ?_
 refine lv (.bool d.frag) (by exact xc Try.underlying4 (has165.cell 36 rfl)) ?_
 simp only [lay]
 refine wn ?_
 rw [show d.frag = false from by assumption]
 refine cF9 ?_
 refine wp_skip ?_
 change Code.wp _ _ _ _ _
 refine wp_sr ?_
 refine lv (.agg (v17 d.cls 0 true false 0 d.hop d.pro s t (.slice none 0 0) (.slice A bl.length c))) (by exact xo (hg158.load (P := Try.prog) 35 Try.underlying35 rfl (by kernel_rfl))) ?_
 simp only [lay]
 have l198 : W16.heap.size ≤ g150 := Nat.le_of_eq ge153.symm
 refine lz (ow_st 35 (.tmp 6) (.tmp 39) g15 (v17 d.cls 0 true false 0 d.hop d.pro s t (.slice none 0 0) (.slice A bl.length c)) _ _ rfl (by rfl) (by rfl) (hg17.to (hb155.trans (hb160.mono l198))) (by kernel_rfl) rfl (by kernel_rfl) ?_)
 intro W194 hg195 bs196 hb197
 have z201 := hb197.size
 have has202 := hg158.but6 bs196 (by omega)
 simp only [lay]
 refine wn ?_
 refine wp_ret ?_
 try simp only [Exit.then]
 have e : (head18 d s t bl).cells (pB4 A c) = (v17 d.cls 0 true false 0 d.hop d.pro s t (.slice none 0 0) (.slice A bl.length c)) := by simp only [head18, pro18, *, if_true, if_false, Bool.false_eq_true]; rfl
 have b203 := bt hb6 hb13
 have b204 := bt b203 hb20
 exact bodyPost_ret (res_cell Try.results41 rfl (hg195.load (P := Try.prog) 35 Try.underlying35 rfl (by kernel_rfl))) rfl ⟨by rw [e], (((bt b204 hb155).trans (hb160.mono (lq b204 ge153))).trans (hb197.mono (lq b203 ge18)))⟩
set_option maxRecDepth 100000 in
theorem rsix18_any (d : D6) (hd : d.ok) (p : W6) (w : World) :
  Calls Try.prog 86 #[.agg (d.cells p)] w fun e w' => ∃ v, e = .returned v ∧ OwnB w' w.heap.size v (from18 d) ∧ Below w.heap.size w w' := by
 have sL := hd.srcL
 have tL := hd.dstL
 go_enter Try.func86, Try.ntmps86
 refine wp_sr ?_
 refine lz (ow_box 28 (.tmp 0) _ rfl rfl ?_)
 intro g1 W2 hg3 ge4 sz5 hb6
 have z7 := hb6.size
 simp only [lay]
 refine lv (.slice none 0 0) (by exact xa) ?_
 simp only [lay]
 refine wn ?_
 refine wp_seq ?_
 refine rg_drawn W2.heap.size (by kernel_rfl) (Nat.le_refl _) ?_
 intro W8 hb9 hs10 hS11
 have z12 := hb9.size
 refine te 1 (pq9 g1 3) hS11 rfl (by intro _ _; exact xf 3 15 Try.underlying28) ?_
 refine te 2 (sq9 g1 3 16 16) hS11 rfl (by intro _ _; exact ex_arr (by rfl) Try.underlying24 (by kernel_rfl) (by rfl)) ?_
 refine te 4 (pq9 g1 19) hS11 rfl (by intro _ _; exact xf 19 15 Try.underlying28) ?_
 refine te 5 (sq9 g1 19 16 16) hS11 rfl (by intro _ _; exact ex_arr (by rfl) Try.underlying24 (by kernel_rfl) (by rfl)) ?_
 simp only [lay]
 refine t1 0 rfl (ow_build0 rfl Try.underlying26 (by kernel_rfl) ?_)
 intro g13 W14 hg15 ge16 sz17 hb18
 have z19 := hb18.size
 have hO20 : OwnB W14 W8.heap.size (sq9 g13 0 0 0) [] := OwnB.blk (l := []) hg15 (Nat.le_of_eq ge16.symm) rfl InB.nil (by simp)
 have hS21 := bt hS11 hb18
 refine ⟨hS21, ?_⟩
 simp only [lay]
 have b27 := bt hb9 hb18
 refine t1 3 rfl (ow_app (.tmp 3) (.tmp 5) 26 rfl Try.underlying26 info8 _ _ [] rfl hO20 _ _ _ _ d.src rfl ((hg3.to b27).byIn 3 16 d.src hd.srcL ((show (_ : List Value) = u8s (l16 d.src) from by kernel_rfl).trans (u8s_16 hd.srcL)) hd.src (by decide)) (by simp [sL]) hb18.size ?_)
 intro v26 W22 hO23 hb24 hgr25
 have z29 := hb24.size
 have hO30 : OwnB W22 W8.heap.size v26 d.src := hO23
 obtain ⟨A31, c32, rfl, y33⟩ := hO30.by_
 refine ⟨(Below.trans hS21 (hb24.mono hb9.size)), ?_⟩
 have hS34 := (Below.trans hS21 (hb24.mono hb9.size))
 simp only [lay]
 refine t1 6 rfl (ow_app (.tmp 6) (.tmp 8) 26 rfl Try.underlying26 info8 _ _ d.src rfl hO30 _ _ _ _ d.dst rfl ((hg3.to (b27.trans (hb24.mono (Nat.le_trans hb9.size (Nat.le_refl _))))).byIn 19 16 d.dst hd.dstL ((show (_ : List Value) = u8s (l16 d.dst) from by kernel_rfl).trans (u8s_16 hd.dstL)) hd.dst (by decide)) (by simp [sL]) (hb18.trans (hb24.mono (Nat.le_refl _))).size ?_)
 intro v39 W35 hO36 hb37 hgr38
 have z44 := hb37.size
 obtain ⟨A45, c46, rfl, y47⟩ := hO36.by_
 refine ⟨(Below.trans hS34 (hb37.mono hb9.size)), ?_⟩
 have hS48 := (Below.trans hS34 (hb37.mono hb9.size))
 simp only [lay]
 refine te 7 (.slice A45 ((d.src ++ d.dst).length) c46) hS48 rfl (by intro _ _; exact xa) ?_
 simp only [lay]
 refine wpAnyH_done (by kernel_rfl) ?_ _
 change Code.wp _ _ _ _ _
 refine wp_ret ?_
 try simp only [Exit.then]
 have b49 := bt hb6 hb9
 exact bodyPost_ret (res_one Try.results86 rfl) rfl ⟨_, rfl, (by exact (hO36.more b49.size)), (((bt b49 hb18).trans (hb24.mono (Nat.le_trans b49.size (Nat.le_refl _)))).trans (hb37.mono (Nat.le_trans b49.size (Nat.le_refl _))))⟩
set_option maxRecDepth 100000 in
theorem rfour18_any (s t : List Int) (hE : E4ok s t) (w : World) :
  Calls Try.prog 97 #[.agg (e4c s t)] w fun e w' => ∃ v, e = .returned v ∧ OwnB w' w.heap.size v (to18 s t) ∧ Below w.heap.size w w' := by
 have sL := hE.sL
 have tL := hE.tL
 go_enter Try.func97, Try.ntmps97
 refine wp_sr ?_
 refine lz (ow_box 32 (.tmp 0) _ rfl rfl ?_)
 intro g1 W2 hg3 ge4 sz5 hb6
 have z7 := hb6.size
 simp only [lay]
 refine lv (.slice none 0 0) (by exact xa) ?_
 simp only [lay]
 refine wn ?_
 refine wp_seq ?_
 refine rg_drawn W2.heap.size (by kernel_rfl) (Nat.le_refl _) ?_
 intro W8 hb9 hs10 hS11
 have z12 := hb9.size
 refine te 1 (pq9 g1 0) hS11 rfl (by intro _ _; exact xf 0 3 Try.underlying32) ?_
 refine te 2 (sq9 g1 0 4 4) hS11 rfl (by intro _ _; exact ex_arr (by rfl) Try.underlying30 (by kernel_rfl) (by rfl)) ?_
 refine te 4 (pq9 g1 4) hS11 rfl (by intro _ _; exact xf 4 3 Try.underlying32) ?_
 refine te 5 (sq9 g1 4 4 4) hS11 rfl (by intro _ _; exact ex_arr (by rfl) Try.underlying30 (by kernel_rfl) (by rfl)) ?_
 simp only [lay]
 refine t1 0 rfl (ow_build0 rfl Try.underlying26 (by kernel_rfl) ?_)
 intro g13 W14 hg15 ge16 sz17 hb18
 have z19 := hb18.size
 have hO20 : OwnB W14 W8.heap.size (sq9 g13 0 0 0) [] := OwnB.blk (l := []) hg15 (Nat.le_of_eq ge16.symm) rfl InB.nil (by simp)
 have hS21 := bt hS11 hb18
 refine ⟨hS21, ?_⟩
 simp only [lay]
 have b27 := bt hb9 hb18
 refine t1 3 rfl (ow_app (.tmp 3) (.tmp 5) 26 rfl Try.underlying26 info8 _ _ [] rfl hO20 _ _ _ _ s rfl ((hg3.to b27).byIn 0 4 s hE.sL ((show (_ : List Value) = u8s (l4 s) from by kernel_rfl).trans (u8s_4 hE.sL)) hE.s (by decide)) (by simp [sL, tL]) hb18.size ?_)
 intro v26 W22 hO23 hb24 hgr25
 have z29 := hb24.size
 have hO30 : OwnB W22 W8.heap.size v26 s := hO23
 obtain ⟨A31, c32, rfl, y33⟩ := hO30.by_
 refine ⟨(Below.trans hS21 (hb24.mono hb9.size)), ?_⟩
 have hS34 := (Below.trans hS21 (hb24.mono hb9.size))
 simp only [lay]
 have b43 := hb18.trans (hb24.mono (Nat.le_refl _))
 refine t1 6 rfl (ow_app (.tmp 6) (.tmp 8) 26 rfl Try.underlying26 info8 _ _ s rfl hO30 _ _ _ _ t rfl ((hg3.to (b27.trans (hb24.mono (Nat.le_trans hb9.size (Nat.le_refl _))))).byIn 4 4 t hE.tL ((show (_ : List Value) = u8s (l4 t) from by kernel_rfl).trans (u8s_4 hE.tL)) hE.t (by decide)) (by simp [sL, tL]) b43.size ?_)
 intro v39 W35 hO36 hb37 hgr38
 have z44 := hb37.size
 obtain ⟨A45, c46, rfl, y47⟩ := hO36.by_
 refine ⟨(Below.trans hS34 (hb37.mono hb9.size)), ?_⟩
 have hS48 := (Below.trans hS34 (hb37.mono hb9.size))
 simp only [lay]
 obtain ⟨g49, rfl, h50, h51⟩ := own_form hO36 (by first|omega|(simp only [List.length_append]; omega) | simp [D4.src])
 refine t1 7 rfl (ow_zeros (.tmp 9) (.const (.int .i64 24)) 26 3 rfl Try.underlying26 Try.underlying3 info8 _ g49 ((s ++ t).length) c46 24 (s ++ t) rfl hO36 rfl (by decide) (by simp [sL, tL]) (b43.trans (hb37.mono (Nat.le_refl _))).size ?_)
 intro v55 W52 hO53 hb54
 have z57 := hb54.size
 obtain ⟨A58, c59, rfl, y60⟩ := hO53.by_
 refine ⟨(Below.trans hS48 (hb54.mono hb9.size)), ?_⟩
 have hS61 := (Below.trans hS48 (hb54.mono hb9.size))
 simp only [lay]
 refine te 8 (.slice A58 ((s ++ t ++ List.replicate 24 0).length) c59) hS61 rfl (by intro _ _; exact xa) ?_
 simp only [lay]
 refine wpAnyH_done (by kernel_rfl) ?_ _
 change Code.wp _ _ _ _ _
 refine wp_ret ?_
 try simp only [Exit.then]
 have b62 := bt hb6 hb9
 have b69 := (((bt b62 hb18).trans (hb24.mono (Nat.le_trans b62.size (Nat.le_refl _)))).trans (hb37.mono (Nat.le_trans b62.size (Nat.le_refl _)))).trans (hb54.mono (Nat.le_trans b62.size (Nat.le_refl _)))
 exact bodyPost_ret (res_one Try.results97 rfl) rfl ⟨_, rfl, (by exact (hO53.more b62.size)), b69⟩
set_option maxRecDepth 100000 in
set_option maxHeartbeats 4000000 in
theorem rcarried18_any (d : D6) (hd : d.ok) (p : W6) (s t : List Int) (hE : E4ok s t) (A : Option Addr) (n c : Nat) (l : List Int) (k : Nat) (w : World) (y : By w.heap.size w A n c l) (hk : k + 2 ≤ n) (hn : n ≤ 65536) :
  Calls Try.prog 74 #[.agg (d.cells p), .agg (e4c s t), .slice A n c, .int .i64 (k : Int)] w fun e w' => ∃ v, e = .returned v ∧ OwnB w' w.heap.size v (carry17 (d.pro == 17) (from18 d) (to18 s t) l k) ∧ Below w.heap.size w w' := by
 have tol := to18_len hE
 have sL := hE.sL
 have tL := hE.tL
 have dsL := hd.srcL
 have ddL := hd.dstL
 have yl := y.len
 have he : (from18 d).length = (to18 s t).length ∧ (to18 s t).length % 2 = 0 := by rw [from18_len hd, to18_len hE]; decide
 go_enter Try.func74, Try.ntmps74
 refine wp_sr ?_
 refine lz (ow_box 28 (.tmp 0) _ rfl rfl ?_)
 intro g1 W2 hg3 ge4 sz5 hb6
 have z7 := hb6.size
 simp only [lay]
 refine lz (ow_box 32 (.tmp 1) _ rfl rfl ?_)
 intro g8 W9 hg10 ge11 sz12 hb13
 have z14 := hb13.size
 simp only [lay]
 refine lv (.slice none 0 0) (by exact xa) ?_
 simp only [lay]
 refine wn ?_
 refine wp_sr ?_
 refine lz (ow_build0 rfl Try.underlying26 (by kernel_rfl) ?_)
 intro g15 W16 hg17 ge18 sz19 hb20
 have z21 := hb20.size
 have hO22 : OwnB W16 W9.heap.size (sq9 g15 0 0 0) [] := OwnB.blk (l := []) hg17 (Nat.le_of_eq ge18.symm) rfl InB.nil (by simp)
 simp only [lay]
 refine lv (.slice A n c) (by exact xm) ?_
 simp only [lay]
 have b28 := bt hb6 hb13
 have b29 := bt b28 hb20
 have by30 := y.to b29
 refine lz (ow_app (.tmp 12) (.tmp 13) 26 rfl Try.underlying26 info8 _ _ [] rfl hO22 _ _ _ _ l rfl by30 (by simp only [List.length_nil]; omega) hb20.size ?_)
 intro v27 W23 hO24 hb25 hgr26
 have z31 := hb25.size
 have hO32 : OwnB W23 W9.heap.size v27 l := hO24
 obtain ⟨A33, c34, rfl, y35⟩ := hO32.by_
 simp only [lay]
 refine lv (.slice A33 l.length c34) (by exact xa) ?_
 simp only [lay]
 refine wn ?_
 refine wp_seq ?_
 refine rg_drawn W23.heap.size (by kernel_rfl) (Nat.le_refl _) ?_
 intro W36 hb37 hs38 hS39
 have z40 := hb37.size
 refine te 0 (.slice A33 l.length c34) hS39 rfl (by intro _ _; exact xm) ?_
 refine te 1 (.int .i64 (k : Int)) hS39 rfl (by intro _ _; exact xm) ?_
 simp only [lay]
 obtain ⟨g41, rfl, h42, h43⟩ := own_form hO32 (by first|omega|(simp only [List.length_append]; omega) | simp [D4.src])
 refine te 2 (pq9 g41 (0 + k)) hS39 rfl (by intro _ _; exact ex_index (k := k) (by rfl) Try.underlying26 (by kernel_rfl) (by rfl) (by rfl) (show k < l.length by omega)) ?_
 refine te 3 (.int .u8 (l.getD k 0)) hS39 rfl (by intro _ h; exact xc Try.underlying5 ((own_byS (hO32.to h)).atE (k := k) rfl (by omega))) ?_
 refine te 4 (.int .u16 (l.getD k 0)) hS39 rfl (by intro _ _; exact xv (conv_u16 5 33 .u8 (l.getD k 0) (by kernel_rfl) Try.underlying33 (in_rng (getD_byte hO32.rng k)).1 (in_rng (getD_byte hO32.rng k)).2.1 _)) ?_
 refine te 5 (.int .u16 ((l.getD k 0) * 256)) hS39 rfl (by intro _ _; exact xb (b_shl8_u16 _ _ (getD_byte hO32.rng k) _)) ?_
 simp only [lay]
 refine te 6 (sq9 g41 0 l.length c34) hS39 rfl (by intro _ _; exact xm) ?_
 refine te 7 (.int .i64 (k : Int)) hS39 rfl (by intro _ _; exact xm) ?_
 refine te 8 (.int .i64 ((k + 1 : Nat) : Int)) hS39 rfl (by intro _ _; exact xb (add1_i64 _ k (by omega) _)) ?_
 refine te 9 (pq9 g41 (0 + (k + 1))) hS39 rfl (by intro _ _; exact ex_index (k := (k + 1)) (by rfl) Try.underlying26 (by kernel_rfl) (by rfl) (by rfl) (show (k + 1) < l.length by omega)) ?_
 simp only [lay]
 refine te 10 (.int .u8 (l.getD (k + 1) 0)) hS39 rfl (by intro _ h; exact xc Try.underlying5 ((own_byS (hO32.to h)).atE (k := (k + 1)) rfl (by omega))) ?_
 refine te 11 (.int .u16 (l.getD (k + 1) 0)) hS39 rfl (by intro _ _; exact xv (conv_u16 5 33 .u8 (l.getD (k + 1) 0) (by kernel_rfl) Try.underlying33 (in_rng (getD_byte hO32.rng (k + 1))).1 (in_rng (getD_byte hO32.rng (k + 1))).2.1 _)) ?_
 refine te 12 (.int .u16 ((l.getD k 0) * 256 + l.getD (k + 1) 0)) hS39 rfl (by intro _ _; exact xb (w_or16 _ _ _ (getD_byte hO32.rng k) (getD_byte hO32.rng (k + 1)) _)) ?_
 simp only [lay]
 have b46 := (bt hb13 hb20).trans (hb25.mono (Nat.le_trans hb13.size (Nat.le_refl _)))
 refine te 13 (.agg (d.cells p)) hS39 rfl (by intro _ h; exact xo (((hg3.to b46).to h).load (P := Try.prog) 28 Try.underlying28 rfl (by kernel_rfl))) ?_
 simp only [lay]
 refine te 15 (.agg (e4c s t)) hS39 rfl (by intro _ h; exact xo (((hg10.to (hb20.trans (hb25.mono (Nat.le_refl _)))).to h).load (P := Try.prog) 32 Try.underlying32 rfl (by kernel_rfl))) ?_
 simp only [lay]
 refine t1 14 rfl (ow_call (fun v w' => OwnB w' W36.heap.size v (from18 d) ∧ Below W36.heap.size W36 w') (by exact xk Try.func86) (rsix18_any d hd p W36) ?_)
 rintro v52 W50 ⟨hO53, hb51⟩
 have z54 := hb51.size
 obtain ⟨A55, c56, rfl, y57⟩ := hO53.by_
 have hS58 := bt hS39 hb51
 refine ⟨hS58, ?_⟩
 simp only [lay]
 refine t1 16 rfl (ow_call (fun v w' => OwnB w' W50.heap.size v (to18 s t) ∧ Below W50.heap.size W50 w') (by exact xk Try.func97) (rfour18_any s t hE W50) ?_)
 rintro v61 W59 ⟨hO62, hb60⟩
 have z63 := hb60.size
 obtain ⟨A64, c65, rfl, y66⟩ := hO62.by_
 have hS67 := bt hS58 hb60
 refine ⟨hS67, ?_⟩
 simp only [lay]
 refine t1 17 rfl (ow_call (fun v w' => (∃ q, v = .tuple #[.int .u16 q, .int .i64 0] ∧ q = (updateS ((l.getD k 0) * 256 + l.getD (k + 1) 0) (from18 d) (to18 s t)).1 ∧ 0 ≤ q ∧ q < 65536) ∧ Below W59.heap.size W59 w') (by exact xk Try.func87) (rupdate_one (two_rng (getD_byte hO32.rng k) (getD_byte hO32.rng (k + 1))) (own_byS (hO53.to hb60)) (own_byS hO62) he (by first|omega | simp [sL, tL])) ?_)
 rintro _ W69 ⟨⟨q71, rfl, hq72, q073, q174⟩, hb70⟩
 have z75 := hb70.size
 have hS76 := bt hS67 hb70
 refine ⟨hS76, ?_⟩
 simp only [lay]
 refine te 18 (.tuple #[.int .u16 q71, .int .i64 0]) hS76 rfl (by intro _ _; exact xm) ?_
 refine te 19 (.int .u16 q71) hS76 rfl (by intro _ _; exact xe) ?_
 refine te 20 (.int .i64 0) hS76 rfl (by intro _ _; exact xe) ?_
 refine te 21 (.int .u16 q71) hS76 rfl (by intro _ _; exact xa) ?_
 simp only [lay]
 refine te 22 (.int .i64 0) hS76 rfl (by intro _ _; exact xa) ?_
 simp only [lay]
 refine wpAnyH_done (by kernel_rfl) ?_ _
 change Code.wp _ _ _ _ _
 refine wp_seq ?_
 refine wp_sr ?_
 refine lv (.int .u16 q71) (by exact xm) ?_
 simp only [lay]
 by_cases q77 : q71 = 0
 case pos =>
  refine lv (.bool true) (by exact yq) ?_
  refine lv (.bool true) (by exact xm) ?_
  refine lv (pq9 g1 40) (by exact xf 40 0 Try.underlying28) ?_
  simp only [lay]
  refine lv (.int .u8 d.pro) (by exact xc Try.underlying5 ((hg3.to (bt (bt (bt (bt b46 hb37) hb51) hb60) hb70)).cell 40 rfl)) ?_
  simp only [lay]
  by_cases q83 : d.pro = 17
  case pos =>
   refine lv (.bool true) (by exact yq) ?_
   refine lv (.bool true) (by exact xp (b := true)) ?_
   simp only [lay]
   refine wn ?_
   refine cT9 ?_
   refine wp_region_lit ?_
   refine lv (.int .u16 65535) (by exact xa) ?_
   simp only [lay]
   refine wn ?_
   refine wp_sr ?_
   refine lv (sq9 g41 0 l.length c34) (by exact xm) ?_
   refine lv (.int .i64 (k : Int)) (by exact xm) ?_
   refine lv (sq9 g41 0 l.length c34) (by exact xm) ?_
   refine lv (.int .i64 (k : Int)) (by exact xm) ?_
   simp only [lay]
   refine lv (.int .i64 ((k + 1 : Nat) : Int)) (by exact xb (add1_i64 _ k (by omega) _)) ?_
   refine lv (.int .u16 65535) (by exact xm) ?_
   refine lv (.int .u16 (65535 / 256)) (by exact xb (w_shr16 _ _ _)) ?_
   refine lv (.int .u8 (65535 / 256)) (by exact xv (conv_u8' 33 5 .u16 (65535 / 256) (by kernel_rfl) Try.underlying5 (by omega) _)) ?_
   simp only [lay]
   refine lv (.int .u16 65535) (by exact xm) ?_
   refine lv (.int .u8 (65535 % 256)) (by exact xv (conv_u8 33 5 .u16 65535 (by kernel_rfl) Try.underlying5 _)) ?_
   refine lv (pq9 g41 (0 + k)) (by exact ex_index (k := k) (by rfl) Try.underlying26 (by kernel_rfl) (by rfl) (by rfl) (show k < l.length by omega)) ?_
   simp only [lay]
   have own91 := hO32.to (bt (bt (bt hb37 hb51) hb60) hb70)
   refine lz (ow_stB 5 (.tmp 53) (.tmp 50) g41 _ W9.heap.size l.length c34 (65535 / 256) _ rfl (by rfl) (by rfl) (by kernel_rfl) own91 (by omega) (own_len own91) (by omega) ?_)
   intro W84 hO85 bs86 hb87
   have z95 := hb87.size
   simp only [lay]
   refine lv (pq9 g41 (0 + (k + 1))) (by exact ex_index (k := (k + 1)) (by rfl) Try.underlying26 (by kernel_rfl) (by rfl) (by rfl) (show (k + 1) < l.length by omega)) ?_
   simp only [lay]
   refine lz (ow_stB 5 (.tmp 54) (.tmp 52) g41 _ W9.heap.size l.length c34 (65535 % 256) _ rfl (by rfl) (by rfl) (by kernel_rfl) hO85 (by omega) (own_len hO85) (by omega) ?_)
   intro W98 hO99 bs100 hb101
   have z102 := hb101.size
   have own103 := ((hO53.to (bt hb60 hb70)).but6 bs86 (by omega)).but6 bs100 (by omega)
   have own104 := ((hO62.to hb70).but6 bs86 (by omega)).but6 bs100 (by omega)
   simp only [lay]
   refine wn ?_
   refine wp_sr ?_
   refine lv (sq9 g41 0 l.length c34) (by exact xm) ?_
   refine lv (sq9 g41 0 l.length c34) (by exact xa) ?_
   simp only [lay]
   refine wn ?_
   refine wp_ret ?_
   try simp only [Exit.then]
   have hf : fix17 (d.pro == 17) q71 = 65535 := by
    unfold fix17
    rw [if_pos ⟨by assumption, by rw [show d.pro = 17 from by assumption]; rfl⟩]
   have e : carry17 (d.pro == 17) (from18 d) (to18 s t) l k = (l.set (0 + k) (65535 / 256)).set (0 + (k + 1)) (65535 % 256) := by
    rw [carry17, two17, ← hq72, hf, put17, Nat.zero_add, Nat.zero_add]
   have l111 := Nat.le_trans b28.size h42
   exact bodyPost_ret (res_one Try.results74 rfl) rfl ⟨_, rfl, by rw [e]; exact (hO99.more b28.size), (((bt (bt (bt (bt (b29.trans (hb25.mono (Nat.le_trans b28.size (Nat.le_refl _)))) hb37) hb51) hb60) hb70).trans (hb87.mono l111)).trans (hb101.mono l111))⟩
  refine lv (.bool false) (by exact yqn) ?_
  refine lv (.bool false) (by exact xp (b := true)) ?_
  simp only [lay]
  refine wn ?_
  refine cF9 ?_
  refine wp_skip ?_
  change Code.wp _ _ _ _ _
  refine wp_sr ?_
  refine lv (sq9 g41 0 l.length c34) (by exact xm) ?_
  refine lv (.int .i64 (k : Int)) (by exact xm) ?_
  refine lv (sq9 g41 0 l.length c34) (by exact xm) ?_
  refine lv (.int .i64 (k : Int)) (by exact xm) ?_
  simp only [lay]
  refine lv (.int .i64 ((k + 1 : Nat) : Int)) (by exact xb (add1_i64 _ k (by omega) _)) ?_
  refine lv (.int .u16 q71) (by exact xm) ?_
  refine lv (.int .u16 (q71 / 256)) (by exact xb (w_shr16 _ _ _)) ?_
  refine lv (.int .u8 (q71 / 256)) (by exact xv (conv_u8' 33 5 .u16 (q71 / 256) (by kernel_rfl) Try.underlying5 (by omega) _)) ?_
  simp only [lay]
  refine lv (.int .u16 q71) (by exact xm) ?_
  refine lv (.int .u8 (q71 % 256)) (by exact xv (conv_u8 33 5 .u16 q71 (by kernel_rfl) Try.underlying5 _)) ?_
  refine lv (pq9 g41 (0 + k)) (by exact ex_index (k := k) (by rfl) Try.underlying26 (by kernel_rfl) (by rfl) (by rfl) (show k < l.length by omega)) ?_
  simp only [lay]
  have own121 := hO32.to (bt (bt (bt hb37 hb51) hb60) hb70)
  refine lz (ow_stB 5 (.tmp 53) (.tmp 50) g41 _ W9.heap.size l.length c34 (q71 / 256) _ rfl (by rfl) (by rfl) (by kernel_rfl) own121 (by omega) (own_len own121) (by omega) ?_)
  intro W114 hO115 bs116 hb117
  have z125 := hb117.size
  simp only [lay]
  refine lv (pq9 g41 (0 + (k + 1))) (by exact ex_index (k := (k + 1)) (by rfl) Try.underlying26 (by kernel_rfl) (by rfl) (by rfl) (show (k + 1) < l.length by omega)) ?_
  simp only [lay]
  refine lz (ow_stB 5 (.tmp 54) (.tmp 52) g41 _ W9.heap.size l.length c34 (q71 % 256) _ rfl (by rfl) (by rfl) (by kernel_rfl) hO115 (by omega) (own_len hO115) (by omega) ?_)
  intro W128 hO129 bs130 hb131
  have z132 := hb131.size
  have own133 := ((hO53.to (bt hb60 hb70)).but6 bs116 (by omega)).but6 bs130 (by omega)
  have own134 := ((hO62.to hb70).but6 bs116 (by omega)).but6 bs130 (by omega)
  simp only [lay]
  refine wn ?_
  refine wp_sr ?_
  refine lv (sq9 g41 0 l.length c34) (by exact xm) ?_
  refine lv (sq9 g41 0 l.length c34) (by exact xa) ?_
  simp only [lay]
  refine wn ?_
  refine wp_ret ?_
  try simp only [Exit.then]
  have hf : fix17 (d.pro == 17) q71 = q71 := by
   unfold fix17
   rw [if_neg (fun h => absurd (by simpa using h.2) (show ¬ d.pro = 17 from by assumption))]
  have e : carry17 (d.pro == 17) (from18 d) (to18 s t) l k = (l.set (0 + k) (q71 / 256)).set (0 + (k + 1)) (q71 % 256) := by
   rw [carry17, two17, ← hq72, hf, put17, Nat.zero_add, Nat.zero_add]
  have l141 := Nat.le_trans b28.size h42
  exact bodyPost_ret (res_one Try.results74 rfl) rfl ⟨_, rfl, by rw [e]; exact (hO129.more b28.size), (((bt (bt (bt (bt (b29.trans (hb25.mono (Nat.le_trans b28.size (Nat.le_refl _)))) hb37) hb51) hb60) hb70).trans (hb117.mono l141)).trans (hb131.mono l141))⟩
 refine lv (.bool false) (by exact yqn) ?_
 refine lv (.bool false) (by exact xm) ?_
 refine lzn ?_
 refine lzn ?_
 simp only [lay]
 refine lzn ?_
 refine lv (.bool false) (by exact xp (b := false)) ?_
 simp only [lay]
 refine wn ?_
 refine cF9 ?_
 refine wp_skip ?_
 change Code.wp _ _ _ _ _
 refine wp_sr ?_
 refine lv (sq9 g41 0 l.length c34) (by exact xm) ?_
 refine lv (.int .i64 (k : Int)) (by exact xm) ?_
 refine lv (sq9 g41 0 l.length c34) (by exact xm) ?_
 refine lv (.int .i64 (k : Int)) (by exact xm) ?_
 simp only [lay]
 refine lv (.int .i64 ((k + 1 : Nat) : Int)) (by exact xb (add1_i64 _ k (by omega) _)) ?_
 refine lv (.int .u16 q71) (by exact xm) ?_
 refine lv (.int .u16 (q71 / 256)) (by exact xb (w_shr16 _ _ _)) ?_
 refine lv (.int .u8 (q71 / 256)) (by exact xv (conv_u8' 33 5 .u16 (q71 / 256) (by kernel_rfl) Try.underlying5 (by omega) _)) ?_
 simp only [lay]
 refine lv (.int .u16 q71) (by exact xm) ?_
 refine lv (.int .u8 (q71 % 256)) (by exact xv (conv_u8 33 5 .u16 q71 (by kernel_rfl) Try.underlying5 _)) ?_
 refine lv (pq9 g41 (0 + k)) (by exact ex_index (k := k) (by rfl) Try.underlying26 (by kernel_rfl) (by rfl) (by rfl) (show k < l.length by omega)) ?_
 simp only [lay]
 have own151 := hO32.to (bt (bt (bt hb37 hb51) hb60) hb70)
 refine lz (ow_stB 5 (.tmp 53) (.tmp 50) g41 _ W9.heap.size l.length c34 (q71 / 256) _ rfl (by rfl) (by rfl) (by kernel_rfl) own151 (by omega) (own_len own151) (by omega) ?_)
 intro W144 hO145 bs146 hb147
 have z155 := hb147.size
 simp only [lay]
 refine lv (pq9 g41 (0 + (k + 1))) (by exact ex_index (k := (k + 1)) (by rfl) Try.underlying26 (by kernel_rfl) (by rfl) (by rfl) (show (k + 1) < l.length by omega)) ?_
 simp only [lay]
 refine lz (ow_stB 5 (.tmp 54) (.tmp 52) g41 _ W9.heap.size l.length c34 (q71 % 256) _ rfl (by rfl) (by rfl) (by kernel_rfl) hO145 (by omega) (own_len hO145) (by omega) ?_)
 intro W158 hO159 bs160 hb161
 have z162 := hb161.size
 have own163 := ((hO53.to (bt hb60 hb70)).but6 bs146 (by omega)).but6 bs160 (by omega)
 have own164 := ((hO62.to hb70).but6 bs146 (by omega)).but6 bs160 (by omega)
 simp only [lay]
 refine wn ?_
 refine wp_sr ?_
 refine lv (sq9 g41 0 l.length c34) (by exact xm) ?_
 refine lv (sq9 g41 0 l.length c34) (by exact xa) ?_
 simp only [lay]
 refine wn ?_
 refine wp_ret ?_
 try simp only [Exit.then]
 have hf : fix17 (d.pro == 17) q71 = q71 := by
  unfold fix17
  rw [if_neg (fun h => absurd h.1 (by assumption))]
 have e : carry17 (d.pro == 17) (from18 d) (to18 s t) l k = (l.set (0 + k) (q71 / 256)).set (0 + (k + 1)) (q71 % 256) := by
  rw [carry17, two17, ← hq72, hf, put17, Nat.zero_add, Nat.zero_add]
 have l171 := Nat.le_trans b28.size h42
 exact bodyPost_ret (res_one Try.results74 rfl) rfl ⟨_, rfl, by rw [e]; exact (hO159.more b28.size), (((bt (bt (bt (bt (b29.trans (hb25.mono (Nat.le_trans b28.size (Nat.le_refl _)))) hb37) hb51) hb60) hb70).trans (hb147.mono l171)).trans (hb161.mono l171))⟩
end Go.Proofs.Ytjnphelfloiadaa
