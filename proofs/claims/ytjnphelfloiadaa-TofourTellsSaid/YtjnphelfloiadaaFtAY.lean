/-
  Lemmas and walks for the row of TofourTells (part 25 of 37).
-/
import Derived.Test.YtjnphelfloiadaaFtAI
import Derived.Test.YtjnphelfloiadaaFtAP
import Derived.Test.YtjnphelfloiadaaFtAR
import Derived.Test.YtjnphelfloiadaaFtAX
set_option linter.unusedVariables false
set_option linter.unusedSimpArgs false
namespace Go.Proofs.Ytjnphelfloiadaa
open Go.RowKit Go.Shelf
attribute [local irreducible] wpList Code.wp Oper.wp wpOp wpAnyH

set_option maxRecDepth 100000 in
set_option maxHeartbeats 4000000 in
theorem carry18_any (d : D6) (p : W6) (s t : List Int) (hE : E4ok s t) (k g n c : Nat) (l : List Int) (w0 w : World) (h0 : Below w0.heap.size w0 w) (hO : OwnB w w0.heap.size (.slice (some ⟨g, 0, none⟩) n c) l) (hg : w0.heap.size ≤ g) (hgl : g < w.heap.size) (hk : k + 2 ≤ n) (hn : n ≤ 65536) (hR : Rd6 w.heap.size w d p) :
  Calls Try.prog 71 #[.slice (some ⟨g, 0, none⟩) n c, .int .i64 (k : Int), .agg (d.cells p), .agg (e4c s t)] w fun e w' => e = .returned (.tuple #[]) ∧ OwnB w' w0.heap.size (.slice (some ⟨g, 0, none⟩) n c) (carry17 (d.pro == 17) (from18 d) (to18 s t) l k) ∧ ButG g w w' ∧ Below g w w' := by
 have sL := hE.sL
 have tL := hE.tL
 have dsL := hR.ok.srcL
 have ddL := hR.ok.dstL
 have he : (from18 d).length = (to18 s t).length ∧ (to18 s t).length % 2 = 0 := by rw [from18_len hR.ok, to18_len hE]; decide
 go_enter Try.func71, Try.ntmps71
 refine wp_sr ?_
 refine lz (ow_box 28 (.tmp 2) _ rfl rfl ?_)
 intro g1 W2 hg3 ge4 sz5 hb6
 have z7 := hb6.size
 simp only [lay]
 refine lz (ow_box 32 (.tmp 3) _ rfl rfl ?_)
 intro g8 W9 hg10 ge11 sz12 hb13
 have z14 := hb13.size
 simp only [lay]
 refine wn ?_
 refine wp_seq ?_
 refine rg_drawn W9.heap.size (by kernel_rfl) (Nat.le_refl _) ?_
 intro W15 hb16 hs17 hS18
 have z19 := hb16.size
 refine wpAnyH_join (fun a W => ∃ (q93 : Int) (g33 : Nat) (A52 : Option Addr) (c53 : Nat) (g56 : Nat) (g64 : Nat) (A84 : Option Addr) (c85 : Nat), a = ⟨#[.slice (some ⟨g, 0, none⟩) n c, .int .i64 (k : Int), .agg (d.cells p), .agg (e4c s t), undef, undef, .pointer (some ⟨g1, 0, none⟩), .pointer (some ⟨g8, 0, none⟩), .int .u16 q93, .int .i64 0, .tuple #[.int .u16 q93, .int .i64 0], .slice (some ⟨g, 0, none⟩) n c, .int .i64 (k : Int), .int .u16 (two17 l k), .pointer (some ⟨g1, 3, none⟩), .slice (some ⟨g1, 3, none⟩) 16 16, .pointer (some ⟨g1, 19, none⟩), .slice (some ⟨g1, 19, none⟩) 16 16, .slice (some ⟨g33, 0, none⟩) 2 2, .slice A52 ((from18 d).length) c53, .pointer (some ⟨g8, 0, none⟩), .slice (some ⟨g8, 0, none⟩) 4 4, .pointer (some ⟨g8, 4, none⟩), .slice (some ⟨g8, 4, none⟩) 4 4, .slice (some ⟨g56, 0, none⟩) 24 24, .slice (some ⟨g64, 0, none⟩) 3 3, .slice A84 ((to18 s t).length) c85, .tuple #[.int .u16 q93, .int .i64 0], .int .u16 q93, .int .i64 0, undef, undef, undef, undef, undef, undef, undef, undef, undef, undef, undef], []⟩ ∧ Below W9.heap.size W9 W ∧ q93 = (updateS (two17 l k) (from18 d) (to18 s t)).1 ∧ 0 ≤ q93 ∧ q93 < 65536) (fun hk100 => ?_) ?_
 case refine_1 =>
  refine te 0 (.slice (some ⟨g, 0, none⟩) n c) hS18 rfl (by intro _ _; exact xm) ?_
  simp only [lay]
  refine te 1 (.int .i64 (k : Int)) hS18 rfl (by intro _ _; exact xm) ?_
  simp only [lay]
  refine te 3 (.pointer (some ⟨g1, 3, none⟩)) hS18 rfl (by intro _ _; exact xf 3 15 Try.underlying28) ?_
  simp only [lay]
  refine te 4 (.slice (some ⟨g1, 3, none⟩) 16 16) hS18 rfl (by intro _ _; exact ex_arr (by exact rfl) Try.underlying24 (by kernel_rfl) (by exact rfl)) ?_
  simp only [lay]
  refine te 5 (.pointer (some ⟨g1, 19, none⟩)) hS18 rfl (by intro _ _; exact xf 19 15 Try.underlying28) ?_
  simp only [lay]
  refine te 6 (.slice (some ⟨g1, 19, none⟩) 16 16) hS18 rfl (by intro _ _; exact ex_arr (by exact rfl) Try.underlying24 (by kernel_rfl) (by exact rfl)) ?_
  simp only [lay]
  refine te 9 (.pointer (some ⟨g8, 0, none⟩)) hS18 rfl (by intro _ _; exact xf 0 3 Try.underlying32) ?_
  simp only [lay]
  refine te 10 (.slice (some ⟨g8, 0, none⟩) 4 4) hS18 rfl (by intro _ _; exact ex_arr (by exact rfl) Try.underlying30 (by kernel_rfl) (by exact rfl)) ?_
  simp only [lay]
  refine te 11 (.pointer (some ⟨g8, 4, none⟩)) hS18 rfl (by intro _ _; exact xf 4 3 Try.underlying32) ?_
  simp only [lay]
  refine te 12 (.slice (some ⟨g8, 4, none⟩) 4 4) hS18 rfl (by intro _ _; exact ex_arr (by exact rfl) Try.underlying30 (by kernel_rfl) (by exact rfl)) ?_
  simp only [lay]
  refine tk_three (i := 2) (j := 7) (k := 13) (by kernel_rfl) ?L101 ?L102 ?L103
  case L101 =>
   have b104 := bt hb6 hb13
   have b105 := bt b104 hb16
   have own106 := hO.to b105
   have y107 := (own_byS own106)
   refine rs (i := 2) rfl (by kernel_rfl) (ow_call (fun v w' => v = .int .u16 (two17 l k) ∧ Below W15.heap.size W15 w') (by exact xk Try.func50) ((two18_any _ _ _ _ k W15 y107 (by omega) (by omega)).mono fun e w' h => ⟨_, h.1, rfl, h.2⟩) ?_)
   rintro _ W108 ⟨rfl, hb109⟩
   have z110 := hb109.size
   refine ⟨(Below.trans hS18 (hb109.mono hS18.size)), ?_⟩
   have hS111 := (Below.trans hS18 (hb109.mono hS18.size))
   simp only [lay]
   refine tk_two (i := 7) (j := 13) (by kernel_rfl) ?L112 ?L113
   case L112 =>
    refine rs (i := 7) rfl (by kernel_rfl) (ow_build [.slice (some ⟨g1, 3, none⟩) 16 16, .slice (some ⟨g1, 19, none⟩) 16 16] rfl Try.underlying100 (by kernel_rfl) (by kernel_rfl) rfl (by decide) (by decide) (by first | rfl | (simp only [List.map_toArray, List.map_cons, List.map_nil] <;> rfl)) (by simp [Value.cells]) ?_)
    intro g114 W115 hg116 ge117 sz118 hb119
    have z120 := hb119.size
    refine ⟨(Below.trans hS111 (hb119.mono hS111.size)), ?_⟩
    have hS121 := (Below.trans hS111 (hb119.mono hS111.size))
    simp only [lay]
    refine tk_two (i := 8) (j := 13) (by kernel_rfl) ?L122 ?L123
    case L122 =>
     have b124 := bt hb13 hb16
     have b125 := bt b124 hb109
     have b126 := bt b125 hb119
     have has127 := hg3.to b126
     refine rs (i := 8) rfl (by kernel_rfl) (ow_call (fun v w' => OwnB w' W115.heap.size v (from18 d) ∧ Below W115.heap.size W115 w') (by exact xk Try.func81) (concat2 hg116 (has127.byIn 3 16 d.src hR.ok.srcL ((show (_ : List Value) = u8s (l16 d.src) from by kernel_rfl).trans (u8s_16 hR.ok.srcL)) hR.ok.src (by decide)) (has127.byIn 19 16 d.dst hR.ok.dstL ((show (_ : List Value) = u8s (l16 d.dst) from by kernel_rfl).trans (u8s_16 hR.ok.dstL)) hR.ok.dst (by decide)) (by simp; try omega)) ?_)
     rintro v130 W128 ⟨hO131, hb129⟩
     have z132 := hb129.size
     obtain ⟨A133, c134, rfl, y135⟩ := hO131.by_
     refine ⟨(Below.trans hS121 (hb129.mono hS121.size)), ?_⟩
     have hS136 := (Below.trans hS121 (hb129.mono hS121.size))
     simp only [lay]
     refine t1 13 rfl (ow_make 26 (.const (.int .i64 24)) (.const (.int .i64 24)) rfl 24 24 rfl rfl Try.underlying26 info8 (by decide) (by decide) ?_)
     intro g137 W138 hO139 ge140 sz141 hb142
     have z143 := hb142.size
     refine ⟨(Below.trans hS136 (hb142.mono hS136.size)), ?_⟩
     have hS144 := (Below.trans hS136 (hb142.mono hS136.size))
     simp only [lay]
     refine t1 14 rfl (ow_build [.slice (some ⟨g8, 0, none⟩) 4 4, .slice (some ⟨g8, 4, none⟩) 4 4, .slice (some ⟨g137, 0, none⟩) 24 24] rfl Try.underlying100 (by kernel_rfl) (by kernel_rfl) rfl (by decide) (by decide) (by first | rfl | (simp only [List.map_toArray, List.map_cons, List.map_nil] <;> rfl)) (by simp [Value.cells]) ?_)
     intro g145 W146 hg147 ge148 sz149 hb150
     have z151 := hb150.size
     refine ⟨(Below.trans hS144 (hb150.mono hS144.size)), ?_⟩
     have hS152 := (Below.trans hS144 (hb150.mono hS144.size))
     simp only [lay]
     have b153 := bt hb16 hb109
     have b154 := bt b153 hb119
     have b155 := bt b154 hb129
     have b156 := bt b155 hb142
     have b157 := bt b156 hb150
     have has158 := hg10.to b157
     have own159 := hO139.to hb150
     refine t1 15 rfl (ow_call (fun v w' => OwnB w' W146.heap.size v (to18 s t) ∧ Below W146.heap.size W146 w') (by exact xk Try.func81) (concat3 hg147 (has158.byIn 0 4 s hE.sL ((show (_ : List Value) = u8s (l4 s) from by kernel_rfl).trans (u8s_4 hE.sL)) hE.s (by decide)) (has158.byIn 4 4 t hE.tL ((show (_ : List Value) = u8s (l4 t) from by kernel_rfl).trans (u8s_4 hE.tL)) hE.t (by decide)) (own_byS own159) (by simp; try omega)) ?_)
     rintro v162 W160 ⟨hO163, hb161⟩
     have z164 := hb161.size
     obtain ⟨A165, c166, rfl, y167⟩ := hO163.by_
     refine ⟨(Below.trans hS152 (hb161.mono hS152.size)), ?_⟩
     have hS168 := (Below.trans hS152 (hb161.mono hS152.size))
     simp only [lay]
     have b169 := bt hb142 hb150
     have b170 := bt b169 hb161
     have own171 := hO131.to b170
     refine t1 16 rfl (ow_call (fun v w' => (∃ q, v = .tuple #[.int .u16 q, .int .i64 0] ∧ q = (updateS (two17 l k) (from18 d) (to18 s t)).1 ∧ 0 ≤ q ∧ q < 65536) ∧ Below W160.heap.size W160 w') (by exact xk Try.func83) (update_one (two17_rng y107.rng k) (own_byS own171) (own_byS hO163) he) ?_)
     rintro _ W172 ⟨⟨q174, rfl, hq175, q0176, q1177⟩, hb173⟩
     have z178 := hb173.size
     refine ⟨(Below.trans hS168 (hb173.mono hS168.size)), ?_⟩
     have hS179 := (Below.trans hS168 (hb173.mono hS168.size))
     simp only [lay]
     refine te 17 (.tuple #[.int .u16 q174, .int .i64 0]) hS179 rfl (by intro _ _; exact xm) ?_
     simp only [lay]
     refine te 18 (.int .u16 q174) hS179 rfl (by intro _ _; exact xe) ?_
     simp only [lay]
     refine te 19 (.int .i64 0) hS179 rfl (by intro _ _; exact xe) ?_
     simp only [lay]
     refine te 20 (.int .u16 q174) hS179 rfl (by intro _ _; exact xa) ?_
     simp only [lay]
     refine te 21 (.int .i64 0) hS179 rfl (by intro _ _; exact xa) ?_
     simp only [lay]
     refine wpAnyH_done (by kernel_rfl) ?_ _
     have b180 := bt b157 hb161
     have b181 := bt b180 hb173
     exact hk100 _ _ ⟨q174, g114, A133, c134, g137, g145, A165, c166, rfl, b181, hq175, q0176, q1177⟩
    case L123 =>
     refine rs (i := 13) rfl (by kernel_rfl) (ow_make 26 (.const (.int .i64 24)) (.const (.int .i64 24)) rfl 24 24 rfl rfl Try.underlying26 info8 (by decide) (by decide) ?_)
     intro g182 W183 hO184 ge185 sz186 hb187
     have z188 := hb187.size
     refine ⟨(Below.trans hS121 (hb187.mono hS121.size)), ?_⟩
     have hS189 := (Below.trans hS121 (hb187.mono hS121.size))
     simp only [lay]
     refine tk_two (i := 8) (j := 14) (by kernel_rfl) ?L190 ?L191
     case L190 =>
      have has192 := hg116.to hb187
      have b193 := bt hb13 hb16
      have b194 := bt b193 hb109
      have b195 := bt b194 hb119
      have b196 := bt b195 hb187
      have has197 := hg3.to b196
      refine rs (i := 8) rfl (by kernel_rfl) (ow_call (fun v w' => OwnB w' W183.heap.size v (from18 d) ∧ Below W183.heap.size W183 w') (by exact xk Try.func81) (concat2 has192 (has197.byIn 3 16 d.src hR.ok.srcL ((show (_ : List Value) = u8s (l16 d.src) from by kernel_rfl).trans (u8s_16 hR.ok.srcL)) hR.ok.src (by decide)) (has197.byIn 19 16 d.dst hR.ok.dstL ((show (_ : List Value) = u8s (l16 d.dst) from by kernel_rfl).trans (u8s_16 hR.ok.dstL)) hR.ok.dst (by decide)) (by simp; try omega)) ?_)
      rintro v200 W198 ⟨hO201, hb199⟩
      have z202 := hb199.size
      obtain ⟨A203, c204, rfl, y205⟩ := hO201.by_
      refine ⟨(Below.trans hS189 (hb199.mono hS189.size)), ?_⟩
      have hS206 := (Below.trans hS189 (hb199.mono hS189.size))
      simp only [lay]
      refine t1 14 rfl (ow_build [.slice (some ⟨g8, 0, none⟩) 4 4, .slice (some ⟨g8, 4, none⟩) 4 4, .slice (some ⟨g182, 0, none⟩) 24 24] rfl Try.underlying100 (by kernel_rfl) (by kernel_rfl) rfl (by decide) (by decide) (by first | rfl | (simp only [List.map_toArray, List.map_cons, List.map_nil] <;> rfl)) (by simp [Value.cells]) ?_)
      intro g207 W208 hg209 ge210 sz211 hb212
      have z213 := hb212.size
      refine ⟨(Below.trans hS206 (hb212.mono hS206.size)), ?_⟩
      have hS214 := (Below.trans hS206 (hb212.mono hS206.size))
      simp only [lay]
      have b215 := bt hb16 hb109
      have b216 := bt b215 hb119
      have b217 := bt b216 hb187
      have b218 := bt b217 hb199
      have b219 := bt b218 hb212
      have has220 := hg10.to b219
      have b221 := bt hb199 hb212
      have own222 := hO184.to b221
      refine t1 15 rfl (ow_call (fun v w' => OwnB w' W208.heap.size v (to18 s t) ∧ Below W208.heap.size W208 w') (by exact xk Try.func81) (concat3 hg209 (has220.byIn 0 4 s hE.sL ((show (_ : List Value) = u8s (l4 s) from by kernel_rfl).trans (u8s_4 hE.sL)) hE.s (by decide)) (has220.byIn 4 4 t hE.tL ((show (_ : List Value) = u8s (l4 t) from by kernel_rfl).trans (u8s_4 hE.tL)) hE.t (by decide)) (own_byS own222) (by simp; try omega)) ?_)
      rintro v225 W223 ⟨hO226, hb224⟩
      have z227 := hb224.size
      obtain ⟨A228, c229, rfl, y230⟩ := hO226.by_
      refine ⟨(Below.trans hS214 (hb224.mono hS214.size)), ?_⟩
      have hS231 := (Below.trans hS214 (hb224.mono hS214.size))
      simp only [lay]
      have b232 := bt hb212 hb224
      have own233 := hO201.to b232
      refine t1 16 rfl (ow_call (fun v w' => (∃ q, v = .tuple #[.int .u16 q, .int .i64 0] ∧ q = (updateS (two17 l k) (from18 d) (to18 s t)).1 ∧ 0 ≤ q ∧ q < 65536) ∧ Below W223.heap.size W223 w') (by exact xk Try.func83) (update_one (two17_rng y107.rng k) (own_byS own233) (own_byS hO226) he) ?_)
      rintro _ W234 ⟨⟨q236, rfl, hq237, q0238, q1239⟩, hb235⟩
      have z240 := hb235.size
      refine ⟨(Below.trans hS231 (hb235.mono hS231.size)), ?_⟩
      have hS241 := (Below.trans hS231 (hb235.mono hS231.size))
      simp only [lay]
      refine te 17 (.tuple #[.int .u16 q236, .int .i64 0]) hS241 rfl (by intro _ _; exact xm) ?_
      simp only [lay]
      refine te 18 (.int .u16 q236) hS241 rfl (by intro _ _; exact xe) ?_
      simp only [lay]
      refine te 19 (.int .i64 0) hS241 rfl (by intro _ _; exact xe) ?_
      simp only [lay]
      refine te 20 (.int .u16 q236) hS241 rfl (by intro _ _; exact xa) ?_
      simp only [lay]
      refine te 21 (.int .i64 0) hS241 rfl (by intro _ _; exact xa) ?_
      simp only [lay]
      refine wpAnyH_done (by kernel_rfl) ?_ _
      have b242 := bt b219 hb224
      have b243 := bt b242 hb235
      exact hk100 _ _ ⟨q236, g114, A203, c204, g182, g207, A228, c229, rfl, b243, hq237, q0238, q1239⟩
     case L191 =>
      refine rs (i := 14) rfl (by kernel_rfl) (ow_build [.slice (some ⟨g8, 0, none⟩) 4 4, .slice (some ⟨g8, 4, none⟩) 4 4, .slice (some ⟨g182, 0, none⟩) 24 24] rfl Try.underlying100 (by kernel_rfl) (by kernel_rfl) rfl (by decide) (by decide) (by first | rfl | (simp only [List.map_toArray, List.map_cons, List.map_nil] <;> rfl)) (by simp [Value.cells]) ?_)
      intro g244 W245 hg246 ge247 sz248 hb249
      have z250 := hb249.size
      refine ⟨(Below.trans hS189 (hb249.mono hS189.size)), ?_⟩
      have hS251 := (Below.trans hS189 (hb249.mono hS189.size))
      simp only [lay]
      have b252 := bt hb187 hb249
      have has253 := hg116.to b252
      have b254 := bt hb13 hb16
      have b255 := bt b254 hb109
      have b256 := bt b255 hb119
      have b257 := bt b256 hb187
      have b258 := bt b257 hb249
      have has259 := hg3.to b258
      refine t1 8 rfl (ow_call (fun v w' => OwnB w' W245.heap.size v (from18 d) ∧ Below W245.heap.size W245 w') (by exact xk Try.func81) (concat2 has253 (has259.byIn 3 16 d.src hR.ok.srcL ((show (_ : List Value) = u8s (l16 d.src) from by kernel_rfl).trans (u8s_16 hR.ok.srcL)) hR.ok.src (by decide)) (has259.byIn 19 16 d.dst hR.ok.dstL ((show (_ : List Value) = u8s (l16 d.dst) from by kernel_rfl).trans (u8s_16 hR.ok.dstL)) hR.ok.dst (by decide)) (by simp; try omega)) ?_)
      rintro v262 W260 ⟨hO263, hb261⟩
      have z264 := hb261.size
      obtain ⟨A265, c266, rfl, y267⟩ := hO263.by_
      refine ⟨(Below.trans hS251 (hb261.mono hS251.size)), ?_⟩
      have hS268 := (Below.trans hS251 (hb261.mono hS251.size))
      simp only [lay]
      have has269 := hg246.to hb261
      have b270 := bt hb16 hb109
      have b271 := bt b270 hb119
      have b272 := bt b271 hb187
      have b273 := bt b272 hb249
      have b274 := bt b273 hb261
      have has275 := hg10.to b274
      have b276 := bt hb249 hb261
      have own277 := hO184.to b276
      refine t1 15 rfl (ow_call (fun v w' => OwnB w' W260.heap.size v (to18 s t) ∧ Below W260.heap.size W260 w') (by exact xk Try.func81) (concat3 has269 (has275.byIn 0 4 s hE.sL ((show (_ : List Value) = u8s (l4 s) from by kernel_rfl).trans (u8s_4 hE.sL)) hE.s (by decide)) (has275.byIn 4 4 t hE.tL ((show (_ : List Value) = u8s (l4 t) from by kernel_rfl).trans (u8s_4 hE.tL)) hE.t (by decide)) (own_byS own277) (by simp; try omega)) ?_)
      rintro v280 W278 ⟨hO281, hb279⟩
      have z282 := hb279.size
      obtain ⟨A283, c284, rfl, y285⟩ := hO281.by_
      refine ⟨(Below.trans hS268 (hb279.mono hS268.size)), ?_⟩
      have hS286 := (Below.trans hS268 (hb279.mono hS268.size))
      simp only [lay]
      have own287 := hO263.to hb279
      refine t1 16 rfl (ow_call (fun v w' => (∃ q, v = .tuple #[.int .u16 q, .int .i64 0] ∧ q = (updateS (two17 l k) (from18 d) (to18 s t)).1 ∧ 0 ≤ q ∧ q < 65536) ∧ Below W278.heap.size W278 w') (by exact xk Try.func83) (update_one (two17_rng y107.rng k) (own_byS own287) (own_byS hO281) he) ?_)
      rintro _ W288 ⟨⟨q290, rfl, hq291, q0292, q1293⟩, hb289⟩
      have z294 := hb289.size
      refine ⟨(Below.trans hS286 (hb289.mono hS286.size)), ?_⟩
      have hS295 := (Below.trans hS286 (hb289.mono hS286.size))
      simp only [lay]
      refine te 17 (.tuple #[.int .u16 q290, .int .i64 0]) hS295 rfl (by intro _ _; exact xm) ?_
      simp only [lay]
      refine te 18 (.int .u16 q290) hS295 rfl (by intro _ _; exact xe) ?_
      simp only [lay]
      refine te 19 (.int .i64 0) hS295 rfl (by intro _ _; exact xe) ?_
      simp only [lay]
      refine te 20 (.int .u16 q290) hS295 rfl (by intro _ _; exact xa) ?_
      simp only [lay]
      refine te 21 (.int .i64 0) hS295 rfl (by intro _ _; exact xa) ?_
      simp only [lay]
      refine wpAnyH_done (by kernel_rfl) ?_ _
      have b296 := bt b274 hb279
      have b297 := bt b296 hb289
      exact hk100 _ _ ⟨q290, g114, A265, c266, g182, g244, A283, c284, rfl, b297, hq291, q0292, q1293⟩
   case L113 =>
    refine rs (i := 13) rfl (by kernel_rfl) (ow_make 26 (.const (.int .i64 24)) (.const (.int .i64 24)) rfl 24 24 rfl rfl Try.underlying26 info8 (by decide) (by decide) ?_)
    intro g298 W299 hO300 ge301 sz302 hb303
    have z304 := hb303.size
    refine ⟨(Below.trans hS111 (hb303.mono hS111.size)), ?_⟩
    have hS305 := (Below.trans hS111 (hb303.mono hS111.size))
    simp only [lay]
    refine tk_two (i := 7) (j := 14) (by kernel_rfl) ?L306 ?L307
    case L306 =>
     refine rs (i := 7) rfl (by kernel_rfl) (ow_build [.slice (some ⟨g1, 3, none⟩) 16 16, .slice (some ⟨g1, 19, none⟩) 16 16] rfl Try.underlying100 (by kernel_rfl) (by kernel_rfl) rfl (by decide) (by decide) (by first | rfl | (simp only [List.map_toArray, List.map_cons, List.map_nil] <;> rfl)) (by simp [Value.cells]) ?_)
     intro g308 W309 hg310 ge311 sz312 hb313
     have z314 := hb313.size
     refine ⟨(Below.trans hS305 (hb313.mono hS305.size)), ?_⟩
     have hS315 := (Below.trans hS305 (hb313.mono hS305.size))
     simp only [lay]
     refine tk_two (i := 8) (j := 14) (by kernel_rfl) ?L316 ?L317
     case L316 =>
      have b318 := bt hb13 hb16
      have b319 := bt b318 hb109
      have b320 := bt b319 hb303
      have b321 := bt b320 hb313
      have has322 := hg3.to b321
      refine rs (i := 8) rfl (by kernel_rfl) (ow_call (fun v w' => OwnB w' W309.heap.size v (from18 d) ∧ Below W309.heap.size W309 w') (by exact xk Try.func81) (concat2 hg310 (has322.byIn 3 16 d.src hR.ok.srcL ((show (_ : List Value) = u8s (l16 d.src) from by kernel_rfl).trans (u8s_16 hR.ok.srcL)) hR.ok.src (by decide)) (has322.byIn 19 16 d.dst hR.ok.dstL ((show (_ : List Value) = u8s (l16 d.dst) from by kernel_rfl).trans (u8s_16 hR.ok.dstL)) hR.ok.dst (by decide)) (by simp; try omega)) ?_)
      rintro v325 W323 ⟨hO326, hb324⟩
      have z327 := hb324.size
      obtain ⟨A328, c329, rfl, y330⟩ := hO326.by_
      refine ⟨(Below.trans hS315 (hb324.mono hS315.size)), ?_⟩
      have hS331 := (Below.trans hS315 (hb324.mono hS315.size))
      simp only [lay]
      refine t1 14 rfl (ow_build [.slice (some ⟨g8, 0, none⟩) 4 4, .slice (some ⟨g8, 4, none⟩) 4 4, .slice (some ⟨g298, 0, none⟩) 24 24] rfl Try.underlying100 (by kernel_rfl) (by kernel_rfl) rfl (by decide) (by decide) (by first | rfl | (simp only [List.map_toArray, List.map_cons, List.map_nil] <;> rfl)) (by simp [Value.cells]) ?_)
      intro g332 W333 hg334 ge335 sz336 hb337
      have z338 := hb337.size
      refine ⟨(Below.trans hS331 (hb337.mono hS331.size)), ?_⟩
      have hS339 := (Below.trans hS331 (hb337.mono hS331.size))
      simp only [lay]
      have b340 := bt hb16 hb109
      have b341 := bt b340 hb303
      have b342 := bt b341 hb313
      have b343 := bt b342 hb324
      have b344 := bt b343 hb337
      have has345 := hg10.to b344
      have b346 := bt hb313 hb324
      have b347 := bt b346 hb337
      have own348 := hO300.to b347
      refine t1 15 rfl (ow_call (fun v w' => OwnB w' W333.heap.size v (to18 s t) ∧ Below W333.heap.size W333 w') (by exact xk Try.func81) (concat3 hg334 (has345.byIn 0 4 s hE.sL ((show (_ : List Value) = u8s (l4 s) from by kernel_rfl).trans (u8s_4 hE.sL)) hE.s (by decide)) (has345.byIn 4 4 t hE.tL ((show (_ : List Value) = u8s (l4 t) from by kernel_rfl).trans (u8s_4 hE.tL)) hE.t (by decide)) (own_byS own348) (by simp; try omega)) ?_)
      rintro v351 W349 ⟨hO352, hb350⟩
      have z353 := hb350.size
      obtain ⟨A354, c355, rfl, y356⟩ := hO352.by_
      refine ⟨(Below.trans hS339 (hb350.mono hS339.size)), ?_⟩
      have hS357 := (Below.trans hS339 (hb350.mono hS339.size))
      simp only [lay]
      have b358 := bt hb337 hb350
      have own359 := hO326.to b358
      refine t1 16 rfl (ow_call (fun v w' => (∃ q, v = .tuple #[.int .u16 q, .int .i64 0] ∧ q = (updateS (two17 l k) (from18 d) (to18 s t)).1 ∧ 0 ≤ q ∧ q < 65536) ∧ Below W349.heap.size W349 w') (by exact xk Try.func83) (update_one (two17_rng y107.rng k) (own_byS own359) (own_byS hO352) he) ?_)
      rintro _ W360 ⟨⟨q362, rfl, hq363, q0364, q1365⟩, hb361⟩
      have z366 := hb361.size
      refine ⟨(Below.trans hS357 (hb361.mono hS357.size)), ?_⟩
      have hS367 := (Below.trans hS357 (hb361.mono hS357.size))
      simp only [lay]
      refine te 17 (.tuple #[.int .u16 q362, .int .i64 0]) hS367 rfl (by intro _ _; exact xm) ?_
      simp only [lay]
      refine te 18 (.int .u16 q362) hS367 rfl (by intro _ _; exact xe) ?_
      simp only [lay]
      refine te 19 (.int .i64 0) hS367 rfl (by intro _ _; exact xe) ?_
      simp only [lay]
      refine te 20 (.int .u16 q362) hS367 rfl (by intro _ _; exact xa) ?_
      simp only [lay]
      refine te 21 (.int .i64 0) hS367 rfl (by intro _ _; exact xa) ?_
      simp only [lay]
      refine wpAnyH_done (by kernel_rfl) ?_ _
      have b368 := bt b344 hb350
      have b369 := bt b368 hb361
      exact hk100 _ _ ⟨q362, g308, A328, c329, g298, g332, A354, c355, rfl, b369, hq363, q0364, q1365⟩
     case L317 =>
      refine rs (i := 14) rfl (by kernel_rfl) (ow_build [.slice (some ⟨g8, 0, none⟩) 4 4, .slice (some ⟨g8, 4, none⟩) 4 4, .slice (some ⟨g298, 0, none⟩) 24 24] rfl Try.underlying100 (by kernel_rfl) (by kernel_rfl) rfl (by decide) (by decide) (by first | rfl | (simp only [List.map_toArray, List.map_cons, List.map_nil] <;> rfl)) (by simp [Value.cells]) ?_)
      intro g370 W371 hg372 ge373 sz374 hb375
      have z376 := hb375.size
      refine ⟨(Below.trans hS315 (hb375.mono hS315.size)), ?_⟩
      have hS377 := (Below.trans hS315 (hb375.mono hS315.size))
      simp only [lay]
      have has378 := hg310.to hb375
      have b379 := bt hb13 hb16
      have b380 := bt b379 hb109
      have b381 := bt b380 hb303
      have b382 := bt b381 hb313
      have b383 := bt b382 hb375
      have has384 := hg3.to b383
      refine t1 8 rfl (ow_call (fun v w' => OwnB w' W371.heap.size v (from18 d) ∧ Below W371.heap.size W371 w') (by exact xk Try.func81) (concat2 has378 (has384.byIn 3 16 d.src hR.ok.srcL ((show (_ : List Value) = u8s (l16 d.src) from by kernel_rfl).trans (u8s_16 hR.ok.srcL)) hR.ok.src (by decide)) (has384.byIn 19 16 d.dst hR.ok.dstL ((show (_ : List Value) = u8s (l16 d.dst) from by kernel_rfl).trans (u8s_16 hR.ok.dstL)) hR.ok.dst (by decide)) (by simp; try omega)) ?_)
      rintro v387 W385 ⟨hO388, hb386⟩
      have z389 := hb386.size
      obtain ⟨A390, c391, rfl, y392⟩ := hO388.by_
      refine ⟨(Below.trans hS377 (hb386.mono hS377.size)), ?_⟩
      have hS393 := (Below.trans hS377 (hb386.mono hS377.size))
      simp only [lay]
      have has394 := hg372.to hb386
      have b395 := bt hb16 hb109
      have b396 := bt b395 hb303
      have b397 := bt b396 hb313
      have b398 := bt b397 hb375
      have b399 := bt b398 hb386
      have has400 := hg10.to b399
      have b401 := bt hb313 hb375
      have b402 := bt b401 hb386
      have own403 := hO300.to b402
      refine t1 15 rfl (ow_call (fun v w' => OwnB w' W385.heap.size v (to18 s t) ∧ Below W385.heap.size W385 w') (by exact xk Try.func81) (concat3 has394 (has400.byIn 0 4 s hE.sL ((show (_ : List Value) = u8s (l4 s) from by kernel_rfl).trans (u8s_4 hE.sL)) hE.s (by decide)) (has400.byIn 4 4 t hE.tL ((show (_ : List Value) = u8s (l4 t) from by kernel_rfl).trans (u8s_4 hE.tL)) hE.t (by decide)) (own_byS own403) (by simp; try omega)) ?_)
      rintro v406 W404 ⟨hO407, hb405⟩
      have z408 := hb405.size
      obtain ⟨A409, c410, rfl, y411⟩ := hO407.by_
      refine ⟨(Below.trans hS393 (hb405.mono hS393.size)), ?_⟩
      have hS412 := (Below.trans hS393 (hb405.mono hS393.size))
      simp only [lay]
      have own413 := hO388.to hb405
      refine t1 16 rfl (ow_call (fun v w' => (∃ q, v = .tuple #[.int .u16 q, .int .i64 0] ∧ q = (updateS (two17 l k) (from18 d) (to18 s t)).1 ∧ 0 ≤ q ∧ q < 65536) ∧ Below W404.heap.size W404 w') (by exact xk Try.func83) (update_one (two17_rng y107.rng k) (own_byS own413) (own_byS hO407) he) ?_)
      rintro _ W414 ⟨⟨q416, rfl, hq417, q0418, q1419⟩, hb415⟩
      have z420 := hb415.size
      refine ⟨(Below.trans hS412 (hb415.mono hS412.size)), ?_⟩
      have hS421 := (Below.trans hS412 (hb415.mono hS412.size))
      simp only [lay]
      refine te 17 (.tuple #[.int .u16 q416, .int .i64 0]) hS421 rfl (by intro _ _; exact xm) ?_
      simp only [lay]
      refine te 18 (.int .u16 q416) hS421 rfl (by intro _ _; exact xe) ?_
      simp only [lay]
      refine te 19 (.int .i64 0) hS421 rfl (by intro _ _; exact xe) ?_
      simp only [lay]
      refine te 20 (.int .u16 q416) hS421 rfl (by intro _ _; exact xa) ?_
      simp only [lay]
      refine te 21 (.int .i64 0) hS421 rfl (by intro _ _; exact xa) ?_
      simp only [lay]
      refine wpAnyH_done (by kernel_rfl) ?_ _
      have b422 := bt b399 hb405
      have b423 := bt b422 hb415
      exact hk100 _ _ ⟨q416, g308, A390, c391, g298, g370, A409, c410, rfl, b423, hq417, q0418, q1419⟩
    case L307 =>
     refine rs (i := 14) rfl (by kernel_rfl) (ow_build [.slice (some ⟨g8, 0, none⟩) 4 4, .slice (some ⟨g8, 4, none⟩) 4 4, .slice (some ⟨g298, 0, none⟩) 24 24] rfl Try.underlying100 (by kernel_rfl) (by kernel_rfl) rfl (by decide) (by decide) (by first | rfl | (simp only [List.map_toArray, List.map_cons, List.map_nil] <;> rfl)) (by simp [Value.cells]) ?_)
     intro g424 W425 hg426 ge427 sz428 hb429
     have z430 := hb429.size
     refine ⟨(Below.trans hS305 (hb429.mono hS305.size)), ?_⟩
     have hS431 := (Below.trans hS305 (hb429.mono hS305.size))
     simp only [lay]
     refine t1 7 rfl (ow_build [.slice (some ⟨g1, 3, none⟩) 16 16, .slice (some ⟨g1, 19, none⟩) 16 16] rfl Try.underlying100 (by kernel_rfl) (by kernel_rfl) rfl (by decide) (by decide) (by first | rfl | (simp only [List.map_toArray, List.map_cons, List.map_nil] <;> rfl)) (by simp [Value.cells]) ?_)
     intro g432 W433 hg434 ge435 sz436 hb437
     have z438 := hb437.size
     refine ⟨(Below.trans hS431 (hb437.mono hS431.size)), ?_⟩
     have hS439 := (Below.trans hS431 (hb437.mono hS431.size))
     simp only [lay]
     have b440 := bt hb13 hb16
     have b441 := bt b440 hb109
     have b442 := bt b441 hb303
     have b443 := bt b442 hb429
     have b444 := bt b443 hb437
     have has445 := hg3.to b444
     refine t1 8 rfl (ow_call (fun v w' => OwnB w' W433.heap.size v (from18 d) ∧ Below W433.heap.size W433 w') (by exact xk Try.func81) (concat2 hg434 (has445.byIn 3 16 d.src hR.ok.srcL ((show (_ : List Value) = u8s (l16 d.src) from by kernel_rfl).trans (u8s_16 hR.ok.srcL)) hR.ok.src (by decide)) (has445.byIn 19 16 d.dst hR.ok.dstL ((show (_ : List Value) = u8s (l16 d.dst) from by kernel_rfl).trans (u8s_16 hR.ok.dstL)) hR.ok.dst (by decide)) (by simp; try omega)) ?_)
     rintro v448 W446 ⟨hO449, hb447⟩
     have z450 := hb447.size
     obtain ⟨A451, c452, rfl, y453⟩ := hO449.by_
     refine ⟨(Below.trans hS439 (hb447.mono hS439.size)), ?_⟩
     have hS454 := (Below.trans hS439 (hb447.mono hS439.size))
     simp only [lay]
     have b455 := bt hb437 hb447
     have has456 := hg426.to b455
     have b457 := bt hb16 hb109
     have b458 := bt b457 hb303
     have b459 := bt b458 hb429
     have b460 := bt b459 hb437
     have b461 := bt b460 hb447
     have has462 := hg10.to b461
     have b463 := bt hb429 hb437
     have b464 := bt b463 hb447
     have own465 := hO300.to b464
     refine t1 15 rfl (ow_call (fun v w' => OwnB w' W446.heap.size v (to18 s t) ∧ Below W446.heap.size W446 w') (by exact xk Try.func81) (concat3 has456 (has462.byIn 0 4 s hE.sL ((show (_ : List Value) = u8s (l4 s) from by kernel_rfl).trans (u8s_4 hE.sL)) hE.s (by decide)) (has462.byIn 4 4 t hE.tL ((show (_ : List Value) = u8s (l4 t) from by kernel_rfl).trans (u8s_4 hE.tL)) hE.t (by decide)) (own_byS own465) (by simp; try omega)) ?_)
     rintro v468 W466 ⟨hO469, hb467⟩
     have z470 := hb467.size
     obtain ⟨A471, c472, rfl, y473⟩ := hO469.by_
     refine ⟨(Below.trans hS454 (hb467.mono hS454.size)), ?_⟩
     have hS474 := (Below.trans hS454 (hb467.mono hS454.size))
     simp only [lay]
     have own475 := hO449.to hb467
     refine t1 16 rfl (ow_call (fun v w' => (∃ q, v = .tuple #[.int .u16 q, .int .i64 0] ∧ q = (updateS (two17 l k) (from18 d) (to18 s t)).1 ∧ 0 ≤ q ∧ q < 65536) ∧ Below W466.heap.size W466 w') (by exact xk Try.func83) (update_one (two17_rng y107.rng k) (own_byS own475) (own_byS hO469) he) ?_)
     rintro _ W476 ⟨⟨q478, rfl, hq479, q0480, q1481⟩, hb477⟩
     have z482 := hb477.size
     refine ⟨(Below.trans hS474 (hb477.mono hS474.size)), ?_⟩
     have hS483 := (Below.trans hS474 (hb477.mono hS474.size))
     simp only [lay]
     refine te 17 (.tuple #[.int .u16 q478, .int .i64 0]) hS483 rfl (by intro _ _; exact xm) ?_
     simp only [lay]
     refine te 18 (.int .u16 q478) hS483 rfl (by intro _ _; exact xe) ?_
     simp only [lay]
     refine te 19 (.int .i64 0) hS483 rfl (by intro _ _; exact xe) ?_
     simp only [lay]
     refine te 20 (.int .u16 q478) hS483 rfl (by intro _ _; exact xa) ?_
     simp only [lay]
     refine te 21 (.int .i64 0) hS483 rfl (by intro _ _; exact xa) ?_
     simp only [lay]
     refine wpAnyH_done (by kernel_rfl) ?_ _
     have b484 := bt b461 hb467
     have b485 := bt b484 hb477
     exact hk100 _ _ ⟨q478, g432, A451, c452, g298, g424, A471, c472, rfl, b485, hq479, q0480, q1481⟩
  case L102 =>
   refine rs (i := 7) rfl (by kernel_rfl) (ow_build [.slice (some ⟨g1, 3, none⟩) 16 16, .slice (some ⟨g1, 19, none⟩) 16 16] rfl Try.underlying100 (by kernel_rfl) (by kernel_rfl) rfl (by decide) (by decide) (by first | rfl | (simp only [List.map_toArray, List.map_cons, List.map_nil] <;> rfl)) (by simp [Value.cells]) ?_)
   intro g486 W487 hg488 ge489 sz490 hb491
   have z492 := hb491.size
   refine ⟨(Below.trans hS18 (hb491.mono hS18.size)), ?_⟩
   have hS493 := (Below.trans hS18 (hb491.mono hS18.size))
   simp only [lay]
   refine tk_two (i := 2) (j := 13) (by kernel_rfl) ?L494 ?L495
   case L494 =>
    have b496 := bt hb6 hb13
    have b497 := bt b496 hb16
    have b498 := bt b497 hb491
    have own499 := hO.to b498
    have y500 := (own_byS own499)
    refine rs (i := 2) rfl (by kernel_rfl) (ow_call (fun v w' => v = .int .u16 (two17 l k) ∧ Below W487.heap.size W487 w') (by exact xk Try.func50) ((two18_any _ _ _ _ k W487 y500 (by omega) (by omega)).mono fun e w' h => ⟨_, h.1, rfl, h.2⟩) ?_)
    rintro _ W501 ⟨rfl, hb502⟩
    have z503 := hb502.size
    refine ⟨(Below.trans hS493 (hb502.mono hS493.size)), ?_⟩
    have hS504 := (Below.trans hS493 (hb502.mono hS493.size))
    simp only [lay]
    refine tk_two (i := 8) (j := 13) (by kernel_rfl) ?L505 ?L506
    case L505 =>
     have has507 := hg488.to hb502
     have b508 := bt hb13 hb16
     have b509 := bt b508 hb491
     have b510 := bt b509 hb502
     have has511 := hg3.to b510
     refine rs (i := 8) rfl (by kernel_rfl) (ow_call (fun v w' => OwnB w' W501.heap.size v (from18 d) ∧ Below W501.heap.size W501 w') (by exact xk Try.func81) (concat2 has507 (has511.byIn 3 16 d.src hR.ok.srcL ((show (_ : List Value) = u8s (l16 d.src) from by kernel_rfl).trans (u8s_16 hR.ok.srcL)) hR.ok.src (by decide)) (has511.byIn 19 16 d.dst hR.ok.dstL ((show (_ : List Value) = u8s (l16 d.dst) from by kernel_rfl).trans (u8s_16 hR.ok.dstL)) hR.ok.dst (by decide)) (by simp; try omega)) ?_)
     rintro v514 W512 ⟨hO515, hb513⟩
     have z516 := hb513.size
     obtain ⟨A517, c518, rfl, y519⟩ := hO515.by_
     refine ⟨(Below.trans hS504 (hb513.mono hS504.size)), ?_⟩
     have hS520 := (Below.trans hS504 (hb513.mono hS504.size))
     simp only [lay]
     refine t1 13 rfl (ow_make 26 (.const (.int .i64 24)) (.const (.int .i64 24)) rfl 24 24 rfl rfl Try.underlying26 info8 (by decide) (by decide) ?_)
     intro g521 W522 hO523 ge524 sz525 hb526
     have z527 := hb526.size
     refine ⟨(Below.trans hS520 (hb526.mono hS520.size)), ?_⟩
     have hS528 := (Below.trans hS520 (hb526.mono hS520.size))
     simp only [lay]
     refine t1 14 rfl (ow_build [.slice (some ⟨g8, 0, none⟩) 4 4, .slice (some ⟨g8, 4, none⟩) 4 4, .slice (some ⟨g521, 0, none⟩) 24 24] rfl Try.underlying100 (by kernel_rfl) (by kernel_rfl) rfl (by decide) (by decide) (by first | rfl | (simp only [List.map_toArray, List.map_cons, List.map_nil] <;> rfl)) (by simp [Value.cells]) ?_)
     intro g529 W530 hg531 ge532 sz533 hb534
     have z535 := hb534.size
     refine ⟨(Below.trans hS528 (hb534.mono hS528.size)), ?_⟩
     have hS536 := (Below.trans hS528 (hb534.mono hS528.size))
     simp only [lay]
     have b537 := bt hb16 hb491
     have b538 := bt b537 hb502
     have b539 := bt b538 hb513
     have b540 := bt b539 hb526
     have b541 := bt b540 hb534
     have has542 := hg10.to b541
     have own543 := hO523.to hb534
     refine t1 15 rfl (ow_call (fun v w' => OwnB w' W530.heap.size v (to18 s t) ∧ Below W530.heap.size W530 w') (by exact xk Try.func81) (concat3 hg531 (has542.byIn 0 4 s hE.sL ((show (_ : List Value) = u8s (l4 s) from by kernel_rfl).trans (u8s_4 hE.sL)) hE.s (by decide)) (has542.byIn 4 4 t hE.tL ((show (_ : List Value) = u8s (l4 t) from by kernel_rfl).trans (u8s_4 hE.tL)) hE.t (by decide)) (own_byS own543) (by simp; try omega)) ?_)
     rintro v546 W544 ⟨hO547, hb545⟩
     have z548 := hb545.size
     obtain ⟨A549, c550, rfl, y551⟩ := hO547.by_
     refine ⟨(Below.trans hS536 (hb545.mono hS536.size)), ?_⟩
     have hS552 := (Below.trans hS536 (hb545.mono hS536.size))
     simp only [lay]
     have b553 := bt hb526 hb534
     have b554 := bt b553 hb545
     have own555 := hO515.to b554
     refine t1 16 rfl (ow_call (fun v w' => (∃ q, v = .tuple #[.int .u16 q, .int .i64 0] ∧ q = (updateS (two17 l k) (from18 d) (to18 s t)).1 ∧ 0 ≤ q ∧ q < 65536) ∧ Below W544.heap.size W544 w') (by exact xk Try.func83) (update_one (two17_rng y500.rng k) (own_byS own555) (own_byS hO547) he) ?_)
     rintro _ W556 ⟨⟨q558, rfl, hq559, q0560, q1561⟩, hb557⟩
     have z562 := hb557.size
     refine ⟨(Below.trans hS552 (hb557.mono hS552.size)), ?_⟩
     have hS563 := (Below.trans hS552 (hb557.mono hS552.size))
     simp only [lay]
     refine te 17 (.tuple #[.int .u16 q558, .int .i64 0]) hS563 rfl (by intro _ _; exact xm) ?_
     simp only [lay]
     refine te 18 (.int .u16 q558) hS563 rfl (by intro _ _; exact xe) ?_
     simp only [lay]
     refine te 19 (.int .i64 0) hS563 rfl (by intro _ _; exact xe) ?_
     simp only [lay]
     refine te 20 (.int .u16 q558) hS563 rfl (by intro _ _; exact xa) ?_
     simp only [lay]
     refine te 21 (.int .i64 0) hS563 rfl (by intro _ _; exact xa) ?_
     simp only [lay]
     refine wpAnyH_done (by kernel_rfl) ?_ _
     have b564 := bt b541 hb545
     have b565 := bt b564 hb557
     exact hk100 _ _ ⟨q558, g486, A517, c518, g521, g529, A549, c550, rfl, b565, hq559, q0560, q1561⟩
    case L506 =>
     refine rs (i := 13) rfl (by kernel_rfl) (ow_make 26 (.const (.int .i64 24)) (.const (.int .i64 24)) rfl 24 24 rfl rfl Try.underlying26 info8 (by decide) (by decide) ?_)
     intro g566 W567 hO568 ge569 sz570 hb571
     have z572 := hb571.size
     refine ⟨(Below.trans hS504 (hb571.mono hS504.size)), ?_⟩
     have hS573 := (Below.trans hS504 (hb571.mono hS504.size))
     simp only [lay]
     refine tk_two (i := 8) (j := 14) (by kernel_rfl) ?L574 ?L575
     case L574 =>
      have b576 := bt hb502 hb571
      have has577 := hg488.to b576
      have b578 := bt hb13 hb16
      have b579 := bt b578 hb491
      have b580 := bt b579 hb502
      have b581 := bt b580 hb571
      have has582 := hg3.to b581
      refine rs (i := 8) rfl (by kernel_rfl) (ow_call (fun v w' => OwnB w' W567.heap.size v (from18 d) ∧ Below W567.heap.size W567 w') (by exact xk Try.func81) (concat2 has577 (has582.byIn 3 16 d.src hR.ok.srcL ((show (_ : List Value) = u8s (l16 d.src) from by kernel_rfl).trans (u8s_16 hR.ok.srcL)) hR.ok.src (by decide)) (has582.byIn 19 16 d.dst hR.ok.dstL ((show (_ : List Value) = u8s (l16 d.dst) from by kernel_rfl).trans (u8s_16 hR.ok.dstL)) hR.ok.dst (by decide)) (by simp; try omega)) ?_)
      rintro v585 W583 ⟨hO586, hb584⟩
      have z587 := hb584.size
      obtain ⟨A588, c589, rfl, y590⟩ := hO586.by_
      refine ⟨(Below.trans hS573 (hb584.mono hS573.size)), ?_⟩
      have hS591 := (Below.trans hS573 (hb584.mono hS573.size))
      simp only [lay]
      refine t1 14 rfl (ow_build [.slice (some ⟨g8, 0, none⟩) 4 4, .slice (some ⟨g8, 4, none⟩) 4 4, .slice (some ⟨g566, 0, none⟩) 24 24] rfl Try.underlying100 (by kernel_rfl) (by kernel_rfl) rfl (by decide) (by decide) (by first | rfl | (simp only [List.map_toArray, List.map_cons, List.map_nil] <;> rfl)) (by simp [Value.cells]) ?_)
      intro g592 W593 hg594 ge595 sz596 hb597
      have z598 := hb597.size
      refine ⟨(Below.trans hS591 (hb597.mono hS591.size)), ?_⟩
      have hS599 := (Below.trans hS591 (hb597.mono hS591.size))
      simp only [lay]
      have b600 := bt hb16 hb491
      have b601 := bt b600 hb502
      have b602 := bt b601 hb571
      have b603 := bt b602 hb584
      have b604 := bt b603 hb597
      have has605 := hg10.to b604
      have b606 := bt hb584 hb597
      have own607 := hO568.to b606
      refine t1 15 rfl (ow_call (fun v w' => OwnB w' W593.heap.size v (to18 s t) ∧ Below W593.heap.size W593 w') (by exact xk Try.func81) (concat3 hg594 (has605.byIn 0 4 s hE.sL ((show (_ : List Value) = u8s (l4 s) from by kernel_rfl).trans (u8s_4 hE.sL)) hE.s (by decide)) (has605.byIn 4 4 t hE.tL ((show (_ : List Value) = u8s (l4 t) from by kernel_rfl).trans (u8s_4 hE.tL)) hE.t (by decide)) (own_byS own607) (by simp; try omega)) ?_)
      rintro v610 W608 ⟨hO611, hb609⟩
      have z612 := hb609.size
      obtain ⟨A613, c614, rfl, y615⟩ := hO611.by_
      refine ⟨(Below.trans hS599 (hb609.mono hS599.size)), ?_⟩
      have hS616 := (Below.trans hS599 (hb609.mono hS599.size))
      simp only [lay]
      have b617 := bt hb597 hb609
      have own618 := hO586.to b617
      refine t1 16 rfl (ow_call (fun v w' => (∃ q, v = .tuple #[.int .u16 q, .int .i64 0] ∧ q = (updateS (two17 l k) (from18 d) (to18 s t)).1 ∧ 0 ≤ q ∧ q < 65536) ∧ Below W608.heap.size W608 w') (by exact xk Try.func83) (update_one (two17_rng y500.rng k) (own_byS own618) (own_byS hO611) he) ?_)
      rintro _ W619 ⟨⟨q621, rfl, hq622, q0623, q1624⟩, hb620⟩
      have z625 := hb620.size
      refine ⟨(Below.trans hS616 (hb620.mono hS616.size)), ?_⟩
      have hS626 := (Below.trans hS616 (hb620.mono hS616.size))
      simp only [lay]
      refine te 17 (.tuple #[.int .u16 q621, .int .i64 0]) hS626 rfl (by intro _ _; exact xm) ?_
      simp only [lay]
      refine te 18 (.int .u16 q621) hS626 rfl (by intro _ _; exact xe) ?_
      simp only [lay]
      refine te 19 (.int .i64 0) hS626 rfl (by intro _ _; exact xe) ?_
      simp only [lay]
      refine te 20 (.int .u16 q621) hS626 rfl (by intro _ _; exact xa) ?_
      simp only [lay]
      refine te 21 (.int .i64 0) hS626 rfl (by intro _ _; exact xa) ?_
      simp only [lay]
      refine wpAnyH_done (by kernel_rfl) ?_ _
      have b627 := bt b604 hb609
      have b628 := bt b627 hb620
      exact hk100 _ _ ⟨q621, g486, A588, c589, g566, g592, A613, c614, rfl, b628, hq622, q0623, q1624⟩
     case L575 =>
      refine rs (i := 14) rfl (by kernel_rfl) (ow_build [.slice (some ⟨g8, 0, none⟩) 4 4, .slice (some ⟨g8, 4, none⟩) 4 4, .slice (some ⟨g566, 0, none⟩) 24 24] rfl Try.underlying100 (by kernel_rfl) (by kernel_rfl) rfl (by decide) (by decide) (by first | rfl | (simp only [List.map_toArray, List.map_cons, List.map_nil] <;> rfl)) (by simp [Value.cells]) ?_)
      intro g629 W630 hg631 ge632 sz633 hb634
      have z635 := hb634.size
      refine ⟨(Below.trans hS573 (hb634.mono hS573.size)), ?_⟩
      have hS636 := (Below.trans hS573 (hb634.mono hS573.size))
      simp only [lay]
      have b637 := bt hb502 hb571
      have b638 := bt b637 hb634
      have has639 := hg488.to b638
      have b640 := bt hb13 hb16
      have b641 := bt b640 hb491
      have b642 := bt b641 hb502
      have b643 := bt b642 hb571
      have b644 := bt b643 hb634
      have has645 := hg3.to b644
      refine t1 8 rfl (ow_call (fun v w' => OwnB w' W630.heap.size v (from18 d) ∧ Below W630.heap.size W630 w') (by exact xk Try.func81) (concat2 has639 (has645.byIn 3 16 d.src hR.ok.srcL ((show (_ : List Value) = u8s (l16 d.src) from by kernel_rfl).trans (u8s_16 hR.ok.srcL)) hR.ok.src (by decide)) (has645.byIn 19 16 d.dst hR.ok.dstL ((show (_ : List Value) = u8s (l16 d.dst) from by kernel_rfl).trans (u8s_16 hR.ok.dstL)) hR.ok.dst (by decide)) (by simp; try omega)) ?_)
      rintro v648 W646 ⟨hO649, hb647⟩
      have z650 := hb647.size
      obtain ⟨A651, c652, rfl, y653⟩ := hO649.by_
      refine ⟨(Below.trans hS636 (hb647.mono hS636.size)), ?_⟩
      have hS654 := (Below.trans hS636 (hb647.mono hS636.size))
      simp only [lay]
      have has655 := hg631.to hb647
      have b656 := bt hb16 hb491
      have b657 := bt b656 hb502
      have b658 := bt b657 hb571
      have b659 := bt b658 hb634
      have b660 := bt b659 hb647
      have has661 := hg10.to b660
      have b662 := bt hb634 hb647
      have own663 := hO568.to b662
      refine t1 15 rfl (ow_call (fun v w' => OwnB w' W646.heap.size v (to18 s t) ∧ Below W646.heap.size W646 w') (by exact xk Try.func81) (concat3 has655 (has661.byIn 0 4 s hE.sL ((show (_ : List Value) = u8s (l4 s) from by kernel_rfl).trans (u8s_4 hE.sL)) hE.s (by decide)) (has661.byIn 4 4 t hE.tL ((show (_ : List Value) = u8s (l4 t) from by kernel_rfl).trans (u8s_4 hE.tL)) hE.t (by decide)) (own_byS own663) (by simp; try omega)) ?_)
      rintro v666 W664 ⟨hO667, hb665⟩
      have z668 := hb665.size
      obtain ⟨A669, c670, rfl, y671⟩ := hO667.by_
      refine ⟨(Below.trans hS654 (hb665.mono hS654.size)), ?_⟩
      have hS672 := (Below.trans hS654 (hb665.mono hS654.size))
      simp only [lay]
      have own673 := hO649.to hb665
      refine t1 16 rfl (ow_call (fun v w' => (∃ q, v = .tuple #[.int .u16 q, .int .i64 0] ∧ q = (updateS (two17 l k) (from18 d) (to18 s t)).1 ∧ 0 ≤ q ∧ q < 65536) ∧ Below W664.heap.size W664 w') (by exact xk Try.func83) (update_one (two17_rng y500.rng k) (own_byS own673) (own_byS hO667) he) ?_)
      rintro _ W674 ⟨⟨q676, rfl, hq677, q0678, q1679⟩, hb675⟩
      have z680 := hb675.size
      refine ⟨(Below.trans hS672 (hb675.mono hS672.size)), ?_⟩
      have hS681 := (Below.trans hS672 (hb675.mono hS672.size))
      simp only [lay]
      refine te 17 (.tuple #[.int .u16 q676, .int .i64 0]) hS681 rfl (by intro _ _; exact xm) ?_
      simp only [lay]
      refine te 18 (.int .u16 q676) hS681 rfl (by intro _ _; exact xe) ?_
      simp only [lay]
      refine te 19 (.int .i64 0) hS681 rfl (by intro _ _; exact xe) ?_
      simp only [lay]
      refine te 20 (.int .u16 q676) hS681 rfl (by intro _ _; exact xa) ?_
      simp only [lay]
      refine te 21 (.int .i64 0) hS681 rfl (by intro _ _; exact xa) ?_
      simp only [lay]
      refine wpAnyH_done (by kernel_rfl) ?_ _
      have b682 := bt b660 hb665
      have b683 := bt b682 hb675
      exact hk100 _ _ ⟨q676, g486, A651, c652, g566, g629, A669, c670, rfl, b683, hq677, q0678, q1679⟩
   case L495 =>
    refine rs (i := 13) rfl (by kernel_rfl) (ow_make 26 (.const (.int .i64 24)) (.const (.int .i64 24)) rfl 24 24 rfl rfl Try.underlying26 info8 (by decide) (by decide) ?_)
    intro g684 W685 hO686 ge687 sz688 hb689
    have z690 := hb689.size
    refine ⟨(Below.trans hS493 (hb689.mono hS493.size)), ?_⟩
    have hS691 := (Below.trans hS493 (hb689.mono hS493.size))
    simp only [lay]
    refine tk_two (i := 2) (j := 14) (by kernel_rfl) ?L692 ?L693
    case L692 =>
     have b694 := bt hb6 hb13
     have b695 := bt b694 hb16
     have b696 := bt b695 hb491
     have b697 := bt b696 hb689
     have own698 := hO.to b697
     have y699 := (own_byS own698)
     refine rs (i := 2) rfl (by kernel_rfl) (ow_call (fun v w' => v = .int .u16 (two17 l k) ∧ Below W685.heap.size W685 w') (by exact xk Try.func50) ((two18_any _ _ _ _ k W685 y699 (by omega) (by omega)).mono fun e w' h => ⟨_, h.1, rfl, h.2⟩) ?_)
     rintro _ W700 ⟨rfl, hb701⟩
     have z702 := hb701.size
     refine ⟨(Below.trans hS691 (hb701.mono hS691.size)), ?_⟩
     have hS703 := (Below.trans hS691 (hb701.mono hS691.size))
     simp only [lay]
     refine tk_two (i := 8) (j := 14) (by kernel_rfl) ?L704 ?L705
     case L704 =>
      have b706 := bt hb689 hb701
      have has707 := hg488.to b706
      have b708 := bt hb13 hb16
      have b709 := bt b708 hb491
      have b710 := bt b709 hb689
      have b711 := bt b710 hb701
      have has712 := hg3.to b711
      refine rs (i := 8) rfl (by kernel_rfl) (ow_call (fun v w' => OwnB w' W700.heap.size v (from18 d) ∧ Below W700.heap.size W700 w') (by exact xk Try.func81) (concat2 has707 (has712.byIn 3 16 d.src hR.ok.srcL ((show (_ : List Value) = u8s (l16 d.src) from by kernel_rfl).trans (u8s_16 hR.ok.srcL)) hR.ok.src (by decide)) (has712.byIn 19 16 d.dst hR.ok.dstL ((show (_ : List Value) = u8s (l16 d.dst) from by kernel_rfl).trans (u8s_16 hR.ok.dstL)) hR.ok.dst (by decide)) (by simp; try omega)) ?_)
      rintro v715 W713 ⟨hO716, hb714⟩
      have z717 := hb714.size
      obtain ⟨A718, c719, rfl, y720⟩ := hO716.by_
      refine ⟨(Below.trans hS703 (hb714.mono hS703.size)), ?_⟩
      have hS721 := (Below.trans hS703 (hb714.mono hS703.size))
      simp only [lay]
      refine t1 14 rfl (ow_build [.slice (some ⟨g8, 0, none⟩) 4 4, .slice (some ⟨g8, 4, none⟩) 4 4, .slice (some ⟨g684, 0, none⟩) 24 24] rfl Try.underlying100 (by kernel_rfl) (by kernel_rfl) rfl (by decide) (by decide) (by first | rfl | (simp only [List.map_toArray, List.map_cons, List.map_nil] <;> rfl)) (by simp [Value.cells]) ?_)
      intro g722 W723 hg724 ge725 sz726 hb727
      have z728 := hb727.size
      refine ⟨(Below.trans hS721 (hb727.mono hS721.size)), ?_⟩
      have hS729 := (Below.trans hS721 (hb727.mono hS721.size))
      simp only [lay]
      have b730 := bt hb16 hb491
      have b731 := bt b730 hb689
      have b732 := bt b731 hb701
      have b733 := bt b732 hb714
      have b734 := bt b733 hb727
      have has735 := hg10.to b734
      have b736 := bt hb701 hb714
      have b737 := bt b736 hb727
      have own738 := hO686.to b737
      refine t1 15 rfl (ow_call (fun v w' => OwnB w' W723.heap.size v (to18 s t) ∧ Below W723.heap.size W723 w') (by exact xk Try.func81) (concat3 hg724 (has735.byIn 0 4 s hE.sL ((show (_ : List Value) = u8s (l4 s) from by kernel_rfl).trans (u8s_4 hE.sL)) hE.s (by decide)) (has735.byIn 4 4 t hE.tL ((show (_ : List Value) = u8s (l4 t) from by kernel_rfl).trans (u8s_4 hE.tL)) hE.t (by decide)) (own_byS own738) (by simp; try omega)) ?_)
      rintro v741 W739 ⟨hO742, hb740⟩
      have z743 := hb740.size
      obtain ⟨A744, c745, rfl, y746⟩ := hO742.by_
      refine ⟨(Below.trans hS729 (hb740.mono hS729.size)), ?_⟩
      have hS747 := (Below.trans hS729 (hb740.mono hS729.size))
      simp only [lay]
      have b748 := bt hb727 hb740
      have own749 := hO716.to b748
      refine t1 16 rfl (ow_call (fun v w' => (∃ q, v = .tuple #[.int .u16 q, .int .i64 0] ∧ q = (updateS (two17 l k) (from18 d) (to18 s t)).1 ∧ 0 ≤ q ∧ q < 65536) ∧ Below W739.heap.size W739 w') (by exact xk Try.func83) (update_one (two17_rng y699.rng k) (own_byS own749) (own_byS hO742) he) ?_)
      rintro _ W750 ⟨⟨q752, rfl, hq753, q0754, q1755⟩, hb751⟩
      have z756 := hb751.size
      refine ⟨(Below.trans hS747 (hb751.mono hS747.size)), ?_⟩
      have hS757 := (Below.trans hS747 (hb751.mono hS747.size))
      simp only [lay]
      refine te 17 (.tuple #[.int .u16 q752, .int .i64 0]) hS757 rfl (by intro _ _; exact xm) ?_
      simp only [lay]
      refine te 18 (.int .u16 q752) hS757 rfl (by intro _ _; exact xe) ?_
      simp only [lay]
      refine te 19 (.int .i64 0) hS757 rfl (by intro _ _; exact xe) ?_
      simp only [lay]
      refine te 20 (.int .u16 q752) hS757 rfl (by intro _ _; exact xa) ?_
      simp only [lay]
      refine te 21 (.int .i64 0) hS757 rfl (by intro _ _; exact xa) ?_
      simp only [lay]
      refine wpAnyH_done (by kernel_rfl) ?_ _
      have b758 := bt b734 hb740
      have b759 := bt b758 hb751
      exact hk100 _ _ ⟨q752, g486, A718, c719, g684, g722, A744, c745, rfl, b759, hq753, q0754, q1755⟩
     case L705 =>
      refine rs (i := 14) rfl (by kernel_rfl) (ow_build [.slice (some ⟨g8, 0, none⟩) 4 4, .slice (some ⟨g8, 4, none⟩) 4 4, .slice (some ⟨g684, 0, none⟩) 24 24] rfl Try.underlying100 (by kernel_rfl) (by kernel_rfl) rfl (by decide) (by decide) (by first | rfl | (simp only [List.map_toArray, List.map_cons, List.map_nil] <;> rfl)) (by simp [Value.cells]) ?_)
      intro g760 W761 hg762 ge763 sz764 hb765
      have z766 := hb765.size
      refine ⟨(Below.trans hS703 (hb765.mono hS703.size)), ?_⟩
      have hS767 := (Below.trans hS703 (hb765.mono hS703.size))
      simp only [lay]
      have b768 := bt hb689 hb701
      have b769 := bt b768 hb765
      have has770 := hg488.to b769
      have b771 := bt hb13 hb16
      have b772 := bt b771 hb491
      have b773 := bt b772 hb689
      have b774 := bt b773 hb701
      have b775 := bt b774 hb765
      have has776 := hg3.to b775
      refine t1 8 rfl (ow_call (fun v w' => OwnB w' W761.heap.size v (from18 d) ∧ Below W761.heap.size W761 w') (by exact xk Try.func81) (concat2 has770 (has776.byIn 3 16 d.src hR.ok.srcL ((show (_ : List Value) = u8s (l16 d.src) from by kernel_rfl).trans (u8s_16 hR.ok.srcL)) hR.ok.src (by decide)) (has776.byIn 19 16 d.dst hR.ok.dstL ((show (_ : List Value) = u8s (l16 d.dst) from by kernel_rfl).trans (u8s_16 hR.ok.dstL)) hR.ok.dst (by decide)) (by simp; try omega)) ?_)
      rintro v779 W777 ⟨hO780, hb778⟩
      have z781 := hb778.size
      obtain ⟨A782, c783, rfl, y784⟩ := hO780.by_
      refine ⟨(Below.trans hS767 (hb778.mono hS767.size)), ?_⟩
      have hS785 := (Below.trans hS767 (hb778.mono hS767.size))
      simp only [lay]
      have has786 := hg762.to hb778
      have b787 := bt hb16 hb491
      have b788 := bt b787 hb689
      have b789 := bt b788 hb701
      have b790 := bt b789 hb765
      have b791 := bt b790 hb778
      have has792 := hg10.to b791
      have b793 := bt hb701 hb765
      have b794 := bt b793 hb778
      have own795 := hO686.to b794
      refine t1 15 rfl (ow_call (fun v w' => OwnB w' W777.heap.size v (to18 s t) ∧ Below W777.heap.size W777 w') (by exact xk Try.func81) (concat3 has786 (has792.byIn 0 4 s hE.sL ((show (_ : List Value) = u8s (l4 s) from by kernel_rfl).trans (u8s_4 hE.sL)) hE.s (by decide)) (has792.byIn 4 4 t hE.tL ((show (_ : List Value) = u8s (l4 t) from by kernel_rfl).trans (u8s_4 hE.tL)) hE.t (by decide)) (own_byS own795) (by simp; try omega)) ?_)
      rintro v798 W796 ⟨hO799, hb797⟩
      have z800 := hb797.size
      obtain ⟨A801, c802, rfl, y803⟩ := hO799.by_
      refine ⟨(Below.trans hS785 (hb797.mono hS785.size)), ?_⟩
      have hS804 := (Below.trans hS785 (hb797.mono hS785.size))
      simp only [lay]
      have own805 := hO780.to hb797
      refine t1 16 rfl (ow_call (fun v w' => (∃ q, v = .tuple #[.int .u16 q, .int .i64 0] ∧ q = (updateS (two17 l k) (from18 d) (to18 s t)).1 ∧ 0 ≤ q ∧ q < 65536) ∧ Below W796.heap.size W796 w') (by exact xk Try.func83) (update_one (two17_rng y699.rng k) (own_byS own805) (own_byS hO799) he) ?_)
      rintro _ W806 ⟨⟨q808, rfl, hq809, q0810, q1811⟩, hb807⟩
      have z812 := hb807.size
      refine ⟨(Below.trans hS804 (hb807.mono hS804.size)), ?_⟩
      have hS813 := (Below.trans hS804 (hb807.mono hS804.size))
      simp only [lay]
      refine te 17 (.tuple #[.int .u16 q808, .int .i64 0]) hS813 rfl (by intro _ _; exact xm) ?_
      simp only [lay]
      refine te 18 (.int .u16 q808) hS813 rfl (by intro _ _; exact xe) ?_
      simp only [lay]
      refine te 19 (.int .i64 0) hS813 rfl (by intro _ _; exact xe) ?_
      simp only [lay]
      refine te 20 (.int .u16 q808) hS813 rfl (by intro _ _; exact xa) ?_
      simp only [lay]
      refine te 21 (.int .i64 0) hS813 rfl (by intro _ _; exact xa) ?_
      simp only [lay]
      refine wpAnyH_done (by kernel_rfl) ?_ _
      have b814 := bt b791 hb797
      have b815 := bt b814 hb807
      exact hk100 _ _ ⟨q808, g486, A782, c783, g684, g760, A801, c802, rfl, b815, hq809, q0810, q1811⟩
    case L693 =>
     refine rs (i := 14) rfl (by kernel_rfl) (ow_build [.slice (some ⟨g8, 0, none⟩) 4 4, .slice (some ⟨g8, 4, none⟩) 4 4, .slice (some ⟨g684, 0, none⟩) 24 24] rfl Try.underlying100 (by kernel_rfl) (by kernel_rfl) rfl (by decide) (by decide) (by first | rfl | (simp only [List.map_toArray, List.map_cons, List.map_nil] <;> rfl)) (by simp [Value.cells]) ?_)
     intro g816 W817 hg818 ge819 sz820 hb821
     have z822 := hb821.size
     refine ⟨(Below.trans hS691 (hb821.mono hS691.size)), ?_⟩
     have hS823 := (Below.trans hS691 (hb821.mono hS691.size))
     simp only [lay]
     have b824 := bt hb6 hb13
     have b825 := bt b824 hb16
     have b826 := bt b825 hb491
     have b827 := bt b826 hb689
     have b828 := bt b827 hb821
     have own829 := hO.to b828
     have y830 := (own_byS own829)
     refine t1 2 rfl (ow_call (fun v w' => v = .int .u16 (two17 l k) ∧ Below W817.heap.size W817 w') (by exact xk Try.func50) ((two18_any _ _ _ _ k W817 y830 (by omega) (by omega)).mono fun e w' h => ⟨_, h.1, rfl, h.2⟩) ?_)
     rintro _ W831 ⟨rfl, hb832⟩
     have z833 := hb832.size
     refine ⟨(Below.trans hS823 (hb832.mono hS823.size)), ?_⟩
     have hS834 := (Below.trans hS823 (hb832.mono hS823.size))
     simp only [lay]
     have b835 := bt hb689 hb821
     have b836 := bt b835 hb832
     have has837 := hg488.to b836
     have b838 := bt hb13 hb16
     have b839 := bt b838 hb491
     have b840 := bt b839 hb689
     have b841 := bt b840 hb821
     have b842 := bt b841 hb832
     have has843 := hg3.to b842
     refine t1 8 rfl (ow_call (fun v w' => OwnB w' W831.heap.size v (from18 d) ∧ Below W831.heap.size W831 w') (by exact xk Try.func81) (concat2 has837 (has843.byIn 3 16 d.src hR.ok.srcL ((show (_ : List Value) = u8s (l16 d.src) from by kernel_rfl).trans (u8s_16 hR.ok.srcL)) hR.ok.src (by decide)) (has843.byIn 19 16 d.dst hR.ok.dstL ((show (_ : List Value) = u8s (l16 d.dst) from by kernel_rfl).trans (u8s_16 hR.ok.dstL)) hR.ok.dst (by decide)) (by simp; try omega)) ?_)
     rintro v846 W844 ⟨hO847, hb845⟩
     have z848 := hb845.size
     obtain ⟨A849, c850, rfl, y851⟩ := hO847.by_
     refine ⟨(Below.trans hS834 (hb845.mono hS834.size)), ?_⟩
     have hS852 := (Below.trans hS834 (hb845.mono hS834.size))
     simp only [lay]
     have b853 := bt hb832 hb845
     have has854 := hg818.to b853
     have b855 := bt hb16 hb491
     have b856 := bt b855 hb689
     have b857 := bt b856 hb821
     have b858 := bt b857 hb832
     have b859 := bt b858 hb845
     have has860 := hg10.to b859
     have b861 := bt hb821 hb832
     have b862 := bt b861 hb845
     have own863 := hO686.to b862
     refine t1 15 rfl (ow_call (fun v w' => OwnB w' W844.heap.size v (to18 s t) ∧ Below W844.heap.size W844 w') (by exact xk Try.func81) (concat3 has854 (has860.byIn 0 4 s hE.sL ((show (_ : List Value) = u8s (l4 s) from by kernel_rfl).trans (u8s_4 hE.sL)) hE.s (by decide)) (has860.byIn 4 4 t hE.tL ((show (_ : List Value) = u8s (l4 t) from by kernel_rfl).trans (u8s_4 hE.tL)) hE.t (by decide)) (own_byS own863) (by simp; try omega)) ?_)
     rintro v866 W864 ⟨hO867, hb865⟩
     have z868 := hb865.size
     obtain ⟨A869, c870, rfl, y871⟩ := hO867.by_
     refine ⟨(Below.trans hS852 (hb865.mono hS852.size)), ?_⟩
     have hS872 := (Below.trans hS852 (hb865.mono hS852.size))
     simp only [lay]
     have own873 := hO847.to hb865
     refine t1 16 rfl (ow_call (fun v w' => (∃ q, v = .tuple #[.int .u16 q, .int .i64 0] ∧ q = (updateS (two17 l k) (from18 d) (to18 s t)).1 ∧ 0 ≤ q ∧ q < 65536) ∧ Below W864.heap.size W864 w') (by exact xk Try.func83) (update_one (two17_rng y830.rng k) (own_byS own873) (own_byS hO867) he) ?_)
     rintro _ W874 ⟨⟨q876, rfl, hq877, q0878, q1879⟩, hb875⟩
     have z880 := hb875.size
     refine ⟨(Below.trans hS872 (hb875.mono hS872.size)), ?_⟩
     have hS881 := (Below.trans hS872 (hb875.mono hS872.size))
     simp only [lay]
     refine te 17 (.tuple #[.int .u16 q876, .int .i64 0]) hS881 rfl (by intro _ _; exact xm) ?_
     simp only [lay]
     refine te 18 (.int .u16 q876) hS881 rfl (by intro _ _; exact xe) ?_
     simp only [lay]
     refine te 19 (.int .i64 0) hS881 rfl (by intro _ _; exact xe) ?_
     simp only [lay]
     refine te 20 (.int .u16 q876) hS881 rfl (by intro _ _; exact xa) ?_
     simp only [lay]
     refine te 21 (.int .i64 0) hS881 rfl (by intro _ _; exact xa) ?_
     simp only [lay]
     refine wpAnyH_done (by kernel_rfl) ?_ _
     have b882 := bt b859 hb865
     have b883 := bt b882 hb875
     exact hk100 _ _ ⟨q876, g486, A849, c850, g684, g816, A869, c870, rfl, b883, hq877, q0878, q1879⟩
  case L103 =>
   refine rs (i := 13) rfl (by kernel_rfl) (ow_make 26 (.const (.int .i64 24)) (.const (.int .i64 24)) rfl 24 24 rfl rfl Try.underlying26 info8 (by decide) (by decide) ?_)
   intro g884 W885 hO886 ge887 sz888 hb889
   have z890 := hb889.size
   refine ⟨(Below.trans hS18 (hb889.mono hS18.size)), ?_⟩
   have hS891 := (Below.trans hS18 (hb889.mono hS18.size))
   simp only [lay]
   refine tk_three (i := 2) (j := 7) (k := 14) (by kernel_rfl) ?L892 ?L893 ?L894
   case L892 =>
    have b895 := bt hb6 hb13
    have b896 := bt b895 hb16
    have b897 := bt b896 hb889
    have own898 := hO.to b897
    have y899 := (own_byS own898)
    refine rs (i := 2) rfl (by kernel_rfl) (ow_call (fun v w' => v = .int .u16 (two17 l k) ∧ Below W885.heap.size W885 w') (by exact xk Try.func50) ((two18_any _ _ _ _ k W885 y899 (by omega) (by omega)).mono fun e w' h => ⟨_, h.1, rfl, h.2⟩) ?_)
    rintro _ W900 ⟨rfl, hb901⟩
    have z902 := hb901.size
    refine ⟨(Below.trans hS891 (hb901.mono hS891.size)), ?_⟩
    have hS903 := (Below.trans hS891 (hb901.mono hS891.size))
    simp only [lay]
    refine tk_two (i := 7) (j := 14) (by kernel_rfl) ?L904 ?L905
    case L904 =>
     refine rs (i := 7) rfl (by kernel_rfl) (ow_build [.slice (some ⟨g1, 3, none⟩) 16 16, .slice (some ⟨g1, 19, none⟩) 16 16] rfl Try.underlying100 (by kernel_rfl) (by kernel_rfl) rfl (by decide) (by decide) (by first | rfl | (simp only [List.map_toArray, List.map_cons, List.map_nil] <;> rfl)) (by simp [Value.cells]) ?_)
     intro g906 W907 hg908 ge909 sz910 hb911
     have z912 := hb911.size
     refine ⟨(Below.trans hS903 (hb911.mono hS903.size)), ?_⟩
     have hS913 := (Below.trans hS903 (hb911.mono hS903.size))
     simp only [lay]
     refine tk_two (i := 8) (j := 14) (by kernel_rfl) ?L914 ?L915
     case L914 =>
      have b916 := bt hb13 hb16
      have b917 := bt b916 hb889
      have b918 := bt b917 hb901
      have b919 := bt b918 hb911
      have has920 := hg3.to b919
      refine rs (i := 8) rfl (by kernel_rfl) (ow_call (fun v w' => OwnB w' W907.heap.size v (from18 d) ∧ Below W907.heap.size W907 w') (by exact xk Try.func81) (concat2 hg908 (has920.byIn 3 16 d.src hR.ok.srcL ((show (_ : List Value) = u8s (l16 d.src) from by kernel_rfl).trans (u8s_16 hR.ok.srcL)) hR.ok.src (by decide)) (has920.byIn 19 16 d.dst hR.ok.dstL ((show (_ : List Value) = u8s (l16 d.dst) from by kernel_rfl).trans (u8s_16 hR.ok.dstL)) hR.ok.dst (by decide)) (by simp; try omega)) ?_)
      rintro v923 W921 ⟨hO924, hb922⟩
      have z925 := hb922.size
      obtain ⟨A926, c927, rfl, y928⟩ := hO924.by_
      refine ⟨(Below.trans hS913 (hb922.mono hS913.size)), ?_⟩
      have hS929 := (Below.trans hS913 (hb922.mono hS913.size))
      simp only [lay]
      refine t1 14 rfl (ow_build [.slice (some ⟨g8, 0, none⟩) 4 4, .slice (some ⟨g8, 4, none⟩) 4 4, .slice (some ⟨g884, 0, none⟩) 24 24] rfl Try.underlying100 (by kernel_rfl) (by kernel_rfl) rfl (by decide) (by decide) (by first | rfl | (simp only [List.map_toArray, List.map_cons, List.map_nil] <;> rfl)) (by simp [Value.cells]) ?_)
      intro g930 W931 hg932 ge933 sz934 hb935
      have z936 := hb935.size
      refine ⟨(Below.trans hS929 (hb935.mono hS929.size)), ?_⟩
      have hS937 := (Below.trans hS929 (hb935.mono hS929.size))
      simp only [lay]
      have b938 := bt hb16 hb889
      have b939 := bt b938 hb901
      have b940 := bt b939 hb911
      have b941 := bt b940 hb922
      have b942 := bt b941 hb935
      have has943 := hg10.to b942
      have b944 := bt hb901 hb911
      have b945 := bt b944 hb922
      have b946 := bt b945 hb935
      have own947 := hO886.to b946
      refine t1 15 rfl (ow_call (fun v w' => OwnB w' W931.heap.size v (to18 s t) ∧ Below W931.heap.size W931 w') (by exact xk Try.func81) (concat3 hg932 (has943.byIn 0 4 s hE.sL ((show (_ : List Value) = u8s (l4 s) from by kernel_rfl).trans (u8s_4 hE.sL)) hE.s (by decide)) (has943.byIn 4 4 t hE.tL ((show (_ : List Value) = u8s (l4 t) from by kernel_rfl).trans (u8s_4 hE.tL)) hE.t (by decide)) (own_byS own947) (by simp; try omega)) ?_)
      rintro v950 W948 ⟨hO951, hb949⟩
      have z952 := hb949.size
      obtain ⟨A953, c954, rfl, y955⟩ := hO951.by_
      refine ⟨(Below.trans hS937 (hb949.mono hS937.size)), ?_⟩
      have hS956 := (Below.trans hS937 (hb949.mono hS937.size))
      simp only [lay]
      have b957 := bt hb935 hb949
      have own958 := hO924.to b957
      refine t1 16 rfl (ow_call (fun v w' => (∃ q, v = .tuple #[.int .u16 q, .int .i64 0] ∧ q = (updateS (two17 l k) (from18 d) (to18 s t)).1 ∧ 0 ≤ q ∧ q < 65536) ∧ Below W948.heap.size W948 w') (by exact xk Try.func83) (update_one (two17_rng y899.rng k) (own_byS own958) (own_byS hO951) he) ?_)
      rintro _ W959 ⟨⟨q961, rfl, hq962, q0963, q1964⟩, hb960⟩
      have z965 := hb960.size
      refine ⟨(Below.trans hS956 (hb960.mono hS956.size)), ?_⟩
      have hS966 := (Below.trans hS956 (hb960.mono hS956.size))
      simp only [lay]
      refine te 17 (.tuple #[.int .u16 q961, .int .i64 0]) hS966 rfl (by intro _ _; exact xm) ?_
      simp only [lay]
      refine te 18 (.int .u16 q961) hS966 rfl (by intro _ _; exact xe) ?_
      simp only [lay]
      refine te 19 (.int .i64 0) hS966 rfl (by intro _ _; exact xe) ?_
      simp only [lay]
      refine te 20 (.int .u16 q961) hS966 rfl (by intro _ _; exact xa) ?_
      simp only [lay]
      refine te 21 (.int .i64 0) hS966 rfl (by intro _ _; exact xa) ?_
      simp only [lay]
      refine wpAnyH_done (by kernel_rfl) ?_ _
      have b967 := bt b942 hb949
      have b968 := bt b967 hb960
      exact hk100 _ _ ⟨q961, g906, A926, c927, g884, g930, A953, c954, rfl, b968, hq962, q0963, q1964⟩
     case L915 =>
      refine rs (i := 14) rfl (by kernel_rfl) (ow_build [.slice (some ⟨g8, 0, none⟩) 4 4, .slice (some ⟨g8, 4, none⟩) 4 4, .slice (some ⟨g884, 0, none⟩) 24 24] rfl Try.underlying100 (by kernel_rfl) (by kernel_rfl) rfl (by decide) (by decide) (by first | rfl | (simp only [List.map_toArray, List.map_cons, List.map_nil] <;> rfl)) (by simp [Value.cells]) ?_)
      intro g969 W970 hg971 ge972 sz973 hb974
      have z975 := hb974.size
      refine ⟨(Below.trans hS913 (hb974.mono hS913.size)), ?_⟩
      have hS976 := (Below.trans hS913 (hb974.mono hS913.size))
      simp only [lay]
      have has977 := hg908.to hb974
      have b978 := bt hb13 hb16
      have b979 := bt b978 hb889
      have b980 := bt b979 hb901
      have b981 := bt b980 hb911
      have b982 := bt b981 hb974
      have has983 := hg3.to b982
      refine t1 8 rfl (ow_call (fun v w' => OwnB w' W970.heap.size v (from18 d) ∧ Below W970.heap.size W970 w') (by exact xk Try.func81) (concat2 has977 (has983.byIn 3 16 d.src hR.ok.srcL ((show (_ : List Value) = u8s (l16 d.src) from by kernel_rfl).trans (u8s_16 hR.ok.srcL)) hR.ok.src (by decide)) (has983.byIn 19 16 d.dst hR.ok.dstL ((show (_ : List Value) = u8s (l16 d.dst) from by kernel_rfl).trans (u8s_16 hR.ok.dstL)) hR.ok.dst (by decide)) (by simp; try omega)) ?_)
      rintro v986 W984 ⟨hO987, hb985⟩
      have z988 := hb985.size
      obtain ⟨A989, c990, rfl, y991⟩ := hO987.by_
      refine ⟨(Below.trans hS976 (hb985.mono hS976.size)), ?_⟩
      have hS992 := (Below.trans hS976 (hb985.mono hS976.size))
      simp only [lay]
      have has993 := hg971.to hb985
      have b994 := bt hb16 hb889
      have b995 := bt b994 hb901
      have b996 := bt b995 hb911
      have b997 := bt b996 hb974
      have b998 := bt b997 hb985
      have has999 := hg10.to b998
      have b1000 := bt hb901 hb911
      have b1001 := bt b1000 hb974
      have b1002 := bt b1001 hb985
      have own1003 := hO886.to b1002
      refine t1 15 rfl (ow_call (fun v w' => OwnB w' W984.heap.size v (to18 s t) ∧ Below W984.heap.size W984 w') (by exact xk Try.func81) (concat3 has993 (has999.byIn 0 4 s hE.sL ((show (_ : List Value) = u8s (l4 s) from by kernel_rfl).trans (u8s_4 hE.sL)) hE.s (by decide)) (has999.byIn 4 4 t hE.tL ((show (_ : List Value) = u8s (l4 t) from by kernel_rfl).trans (u8s_4 hE.tL)) hE.t (by decide)) (own_byS own1003) (by simp; try omega)) ?_)
      rintro v1006 W1004 ⟨hO1007, hb1005⟩
      have z1008 := hb1005.size
      obtain ⟨A1009, c1010, rfl, y1011⟩ := hO1007.by_
      refine ⟨(Below.trans hS992 (hb1005.mono hS992.size)), ?_⟩
      have hS1012 := (Below.trans hS992 (hb1005.mono hS992.size))
      simp only [lay]
      have own1013 := hO987.to hb1005
      refine t1 16 rfl (ow_call (fun v w' => (∃ q, v = .tuple #[.int .u16 q, .int .i64 0] ∧ q = (updateS (two17 l k) (from18 d) (to18 s t)).1 ∧ 0 ≤ q ∧ q < 65536) ∧ Below W1004.heap.size W1004 w') (by exact xk Try.func83) (update_one (two17_rng y899.rng k) (own_byS own1013) (own_byS hO1007) he) ?_)
      rintro _ W1014 ⟨⟨q1016, rfl, hq1017, q01018, q11019⟩, hb1015⟩
      have z1020 := hb1015.size
      refine ⟨(Below.trans hS1012 (hb1015.mono hS1012.size)), ?_⟩
      have hS1021 := (Below.trans hS1012 (hb1015.mono hS1012.size))
      simp only [lay]
      refine te 17 (.tuple #[.int .u16 q1016, .int .i64 0]) hS1021 rfl (by intro _ _; exact xm) ?_
      simp only [lay]
      refine te 18 (.int .u16 q1016) hS1021 rfl (by intro _ _; exact xe) ?_
      simp only [lay]
      refine te 19 (.int .i64 0) hS1021 rfl (by intro _ _; exact xe) ?_
      simp only [lay]
      refine te 20 (.int .u16 q1016) hS1021 rfl (by intro _ _; exact xa) ?_
      simp only [lay]
      refine te 21 (.int .i64 0) hS1021 rfl (by intro _ _; exact xa) ?_
      simp only [lay]
      refine wpAnyH_done (by kernel_rfl) ?_ _
      have b1022 := bt b998 hb1005
      have b1023 := bt b1022 hb1015
      exact hk100 _ _ ⟨q1016, g906, A989, c990, g884, g969, A1009, c1010, rfl, b1023, hq1017, q01018, q11019⟩
    case L905 =>
     refine rs (i := 14) rfl (by kernel_rfl) (ow_build [.slice (some ⟨g8, 0, none⟩) 4 4, .slice (some ⟨g8, 4, none⟩) 4 4, .slice (some ⟨g884, 0, none⟩) 24 24] rfl Try.underlying100 (by kernel_rfl) (by kernel_rfl) rfl (by decide) (by decide) (by first | rfl | (simp only [List.map_toArray, List.map_cons, List.map_nil] <;> rfl)) (by simp [Value.cells]) ?_)
     intro g1024 W1025 hg1026 ge1027 sz1028 hb1029
     have z1030 := hb1029.size
     refine ⟨(Below.trans hS903 (hb1029.mono hS903.size)), ?_⟩
     have hS1031 := (Below.trans hS903 (hb1029.mono hS903.size))
     simp only [lay]
     refine t1 7 rfl (ow_build [.slice (some ⟨g1, 3, none⟩) 16 16, .slice (some ⟨g1, 19, none⟩) 16 16] rfl Try.underlying100 (by kernel_rfl) (by kernel_rfl) rfl (by decide) (by decide) (by first | rfl | (simp only [List.map_toArray, List.map_cons, List.map_nil] <;> rfl)) (by simp [Value.cells]) ?_)
     intro g1032 W1033 hg1034 ge1035 sz1036 hb1037
     have z1038 := hb1037.size
     refine ⟨(Below.trans hS1031 (hb1037.mono hS1031.size)), ?_⟩
     have hS1039 := (Below.trans hS1031 (hb1037.mono hS1031.size))
     simp only [lay]
     have b1040 := bt hb13 hb16
     have b1041 := bt b1040 hb889
     have b1042 := bt b1041 hb901
     have b1043 := bt b1042 hb1029
     have b1044 := bt b1043 hb1037
     have has1045 := hg3.to b1044
     refine t1 8 rfl (ow_call (fun v w' => OwnB w' W1033.heap.size v (from18 d) ∧ Below W1033.heap.size W1033 w') (by exact xk Try.func81) (concat2 hg1034 (has1045.byIn 3 16 d.src hR.ok.srcL ((show (_ : List Value) = u8s (l16 d.src) from by kernel_rfl).trans (u8s_16 hR.ok.srcL)) hR.ok.src (by decide)) (has1045.byIn 19 16 d.dst hR.ok.dstL ((show (_ : List Value) = u8s (l16 d.dst) from by kernel_rfl).trans (u8s_16 hR.ok.dstL)) hR.ok.dst (by decide)) (by simp; try omega)) ?_)
     rintro v1048 W1046 ⟨hO1049, hb1047⟩
     have z1050 := hb1047.size
     obtain ⟨A1051, c1052, rfl, y1053⟩ := hO1049.by_
     refine ⟨(Below.trans hS1039 (hb1047.mono hS1039.size)), ?_⟩
     have hS1054 := (Below.trans hS1039 (hb1047.mono hS1039.size))
     simp only [lay]
     have b1055 := bt hb1037 hb1047
     have has1056 := hg1026.to b1055
     have b1057 := bt hb16 hb889
     have b1058 := bt b1057 hb901
     have b1059 := bt b1058 hb1029
     have b1060 := bt b1059 hb1037
     have b1061 := bt b1060 hb1047
     have has1062 := hg10.to b1061
     have b1063 := bt hb901 hb1029
     have b1064 := bt b1063 hb1037
     have b1065 := bt b1064 hb1047
     have own1066 := hO886.to b1065
     refine t1 15 rfl (ow_call (fun v w' => OwnB w' W1046.heap.size v (to18 s t) ∧ Below W1046.heap.size W1046 w') (by exact xk Try.func81) (concat3 has1056 (has1062.byIn 0 4 s hE.sL ((show (_ : List Value) = u8s (l4 s) from by kernel_rfl).trans (u8s_4 hE.sL)) hE.s (by decide)) (has1062.byIn 4 4 t hE.tL ((show (_ : List Value) = u8s (l4 t) from by kernel_rfl).trans (u8s_4 hE.tL)) hE.t (by decide)) (own_byS own1066) (by simp; try omega)) ?_)
     rintro v1069 W1067 ⟨hO1070, hb1068⟩
     have z1071 := hb1068.size
     obtain ⟨A1072, c1073, rfl, y1074⟩ := hO1070.by_
     refine ⟨(Below.trans hS1054 (hb1068.mono hS1054.size)), ?_⟩
     have hS1075 := (Below.trans hS1054 (hb1068.mono hS1054.size))
     simp only [lay]
     have own1076 := hO1049.to hb1068
     refine t1 16 rfl (ow_call (fun v w' => (∃ q, v = .tuple #[.int .u16 q, .int .i64 0] ∧ q = (updateS (two17 l k) (from18 d) (to18 s t)).1 ∧ 0 ≤ q ∧ q < 65536) ∧ Below W1067.heap.size W1067 w') (by exact xk Try.func83) (update_one (two17_rng y899.rng k) (own_byS own1076) (own_byS hO1070) he) ?_)
     rintro _ W1077 ⟨⟨q1079, rfl, hq1080, q01081, q11082⟩, hb1078⟩
     have z1083 := hb1078.size
     refine ⟨(Below.trans hS1075 (hb1078.mono hS1075.size)), ?_⟩
     have hS1084 := (Below.trans hS1075 (hb1078.mono hS1075.size))
     simp only [lay]
     refine te 17 (.tuple #[.int .u16 q1079, .int .i64 0]) hS1084 rfl (by intro _ _; exact xm) ?_
     simp only [lay]
     refine te 18 (.int .u16 q1079) hS1084 rfl (by intro _ _; exact xe) ?_
     simp only [lay]
     refine te 19 (.int .i64 0) hS1084 rfl (by intro _ _; exact xe) ?_
     simp only [lay]
     refine te 20 (.int .u16 q1079) hS1084 rfl (by intro _ _; exact xa) ?_
     simp only [lay]
     refine te 21 (.int .i64 0) hS1084 rfl (by intro _ _; exact xa) ?_
     simp only [lay]
     refine wpAnyH_done (by kernel_rfl) ?_ _
     have b1085 := bt b1061 hb1068
     have b1086 := bt b1085 hb1078
     exact hk100 _ _ ⟨q1079, g1032, A1051, c1052, g884, g1024, A1072, c1073, rfl, b1086, hq1080, q01081, q11082⟩
   case L893 =>
    refine rs (i := 7) rfl (by kernel_rfl) (ow_build [.slice (some ⟨g1, 3, none⟩) 16 16, .slice (some ⟨g1, 19, none⟩) 16 16] rfl Try.underlying100 (by kernel_rfl) (by kernel_rfl) rfl (by decide) (by decide) (by first | rfl | (simp only [List.map_toArray, List.map_cons, List.map_nil] <;> rfl)) (by simp [Value.cells]) ?_)
    intro g1087 W1088 hg1089 ge1090 sz1091 hb1092
    have z1093 := hb1092.size
    refine ⟨(Below.trans hS891 (hb1092.mono hS891.size)), ?_⟩
    have hS1094 := (Below.trans hS891 (hb1092.mono hS891.size))
    simp only [lay]
    refine tk_two (i := 2) (j := 14) (by kernel_rfl) ?L1095 ?L1096
    case L1095 =>
     have b1097 := bt hb6 hb13
     have b1098 := bt b1097 hb16
     have b1099 := bt b1098 hb889
     have b1100 := bt b1099 hb1092
     have own1101 := hO.to b1100
     have y1102 := (own_byS own1101)
     refine rs (i := 2) rfl (by kernel_rfl) (ow_call (fun v w' => v = .int .u16 (two17 l k) ∧ Below W1088.heap.size W1088 w') (by exact xk Try.func50) ((two18_any _ _ _ _ k W1088 y1102 (by omega) (by omega)).mono fun e w' h => ⟨_, h.1, rfl, h.2⟩) ?_)
     rintro _ W1103 ⟨rfl, hb1104⟩
     have z1105 := hb1104.size
     refine ⟨(Below.trans hS1094 (hb1104.mono hS1094.size)), ?_⟩
     have hS1106 := (Below.trans hS1094 (hb1104.mono hS1094.size))
     simp only [lay]
     refine tk_two (i := 8) (j := 14) (by kernel_rfl) ?L1107 ?L1108
     case L1107 =>
      have has1109 := hg1089.to hb1104
      have b1110 := bt hb13 hb16
      have b1111 := bt b1110 hb889
      have b1112 := bt b1111 hb1092
      have b1113 := bt b1112 hb1104
      have has1114 := hg3.to b1113
      refine rs (i := 8) rfl (by kernel_rfl) (ow_call (fun v w' => OwnB w' W1103.heap.size v (from18 d) ∧ Below W1103.heap.size W1103 w') (by exact xk Try.func81) (concat2 has1109 (has1114.byIn 3 16 d.src hR.ok.srcL ((show (_ : List Value) = u8s (l16 d.src) from by kernel_rfl).trans (u8s_16 hR.ok.srcL)) hR.ok.src (by decide)) (has1114.byIn 19 16 d.dst hR.ok.dstL ((show (_ : List Value) = u8s (l16 d.dst) from by kernel_rfl).trans (u8s_16 hR.ok.dstL)) hR.ok.dst (by decide)) (by simp; try omega)) ?_)
      rintro v1117 W1115 ⟨hO1118, hb1116⟩
      have z1119 := hb1116.size
      obtain ⟨A1120, c1121, rfl, y1122⟩ := hO1118.by_
      refine ⟨(Below.trans hS1106 (hb1116.mono hS1106.size)), ?_⟩
      have hS1123 := (Below.trans hS1106 (hb1116.mono hS1106.size))
      simp only [lay]
      refine t1 14 rfl (ow_build [.slice (some ⟨g8, 0, none⟩) 4 4, .slice (some ⟨g8, 4, none⟩) 4 4, .slice (some ⟨g884, 0, none⟩) 24 24] rfl Try.underlying100 (by kernel_rfl) (by kernel_rfl) rfl (by decide) (by decide) (by first | rfl | (simp only [List.map_toArray, List.map_cons, List.map_nil] <;> rfl)) (by simp [Value.cells]) ?_)
      intro g1124 W1125 hg1126 ge1127 sz1128 hb1129
      have z1130 := hb1129.size
      refine ⟨(Below.trans hS1123 (hb1129.mono hS1123.size)), ?_⟩
      have hS1131 := (Below.trans hS1123 (hb1129.mono hS1123.size))
      simp only [lay]
      have b1132 := bt hb16 hb889
      have b1133 := bt b1132 hb1092
      have b1134 := bt b1133 hb1104
      have b1135 := bt b1134 hb1116
      have b1136 := bt b1135 hb1129
      have has1137 := hg10.to b1136
      have b1138 := bt hb1092 hb1104
      have b1139 := bt b1138 hb1116
      have b1140 := bt b1139 hb1129
      have own1141 := hO886.to b1140
      refine t1 15 rfl (ow_call (fun v w' => OwnB w' W1125.heap.size v (to18 s t) ∧ Below W1125.heap.size W1125 w') (by exact xk Try.func81) (concat3 hg1126 (has1137.byIn 0 4 s hE.sL ((show (_ : List Value) = u8s (l4 s) from by kernel_rfl).trans (u8s_4 hE.sL)) hE.s (by decide)) (has1137.byIn 4 4 t hE.tL ((show (_ : List Value) = u8s (l4 t) from by kernel_rfl).trans (u8s_4 hE.tL)) hE.t (by decide)) (own_byS own1141) (by simp; try omega)) ?_)
      rintro v1144 W1142 ⟨hO1145, hb1143⟩
      have z1146 := hb1143.size
      obtain ⟨A1147, c1148, rfl, y1149⟩ := hO1145.by_
      refine ⟨(Below.trans hS1131 (hb1143.mono hS1131.size)), ?_⟩
      have hS1150 := (Below.trans hS1131 (hb1143.mono hS1131.size))
      simp only [lay]
      have b1151 := bt hb1129 hb1143
      have own1152 := hO1118.to b1151
      refine t1 16 rfl (ow_call (fun v w' => (∃ q, v = .tuple #[.int .u16 q, .int .i64 0] ∧ q = (updateS (two17 l k) (from18 d) (to18 s t)).1 ∧ 0 ≤ q ∧ q < 65536) ∧ Below W1142.heap.size W1142 w') (by exact xk Try.func83) (update_one (two17_rng y1102.rng k) (own_byS own1152) (own_byS hO1145) he) ?_)
      rintro _ W1153 ⟨⟨q1155, rfl, hq1156, q01157, q11158⟩, hb1154⟩
      have z1159 := hb1154.size
      refine ⟨(Below.trans hS1150 (hb1154.mono hS1150.size)), ?_⟩
      have hS1160 := (Below.trans hS1150 (hb1154.mono hS1150.size))
      simp only [lay]
      refine te 17 (.tuple #[.int .u16 q1155, .int .i64 0]) hS1160 rfl (by intro _ _; exact xm) ?_
      simp only [lay]
      refine te 18 (.int .u16 q1155) hS1160 rfl (by intro _ _; exact xe) ?_
      simp only [lay]
      refine te 19 (.int .i64 0) hS1160 rfl (by intro _ _; exact xe) ?_
      simp only [lay]
      refine te 20 (.int .u16 q1155) hS1160 rfl (by intro _ _; exact xa) ?_
      simp only [lay]
      refine te 21 (.int .i64 0) hS1160 rfl (by intro _ _; exact xa) ?_
      simp only [lay]
      refine wpAnyH_done (by kernel_rfl) ?_ _
      have b1161 := bt b1136 hb1143
      have b1162 := bt b1161 hb1154
      exact hk100 _ _ ⟨q1155, g1087, A1120, c1121, g884, g1124, A1147, c1148, rfl, b1162, hq1156, q01157, q11158⟩
     case L1108 =>
      refine rs (i := 14) rfl (by kernel_rfl) (ow_build [.slice (some ⟨g8, 0, none⟩) 4 4, .slice (some ⟨g8, 4, none⟩) 4 4, .slice (some ⟨g884, 0, none⟩) 24 24] rfl Try.underlying100 (by kernel_rfl) (by kernel_rfl) rfl (by decide) (by decide) (by first | rfl | (simp only [List.map_toArray, List.map_cons, List.map_nil] <;> rfl)) (by simp [Value.cells]) ?_)
      intro g1163 W1164 hg1165 ge1166 sz1167 hb1168
      have z1169 := hb1168.size
      refine ⟨(Below.trans hS1106 (hb1168.mono hS1106.size)), ?_⟩
      have hS1170 := (Below.trans hS1106 (hb1168.mono hS1106.size))
      simp only [lay]
      have b1171 := bt hb1104 hb1168
      have has1172 := hg1089.to b1171
      have b1173 := bt hb13 hb16
      have b1174 := bt b1173 hb889
      have b1175 := bt b1174 hb1092
      have b1176 := bt b1175 hb1104
      have b1177 := bt b1176 hb1168
      have has1178 := hg3.to b1177
      refine t1 8 rfl (ow_call (fun v w' => OwnB w' W1164.heap.size v (from18 d) ∧ Below W1164.heap.size W1164 w') (by exact xk Try.func81) (concat2 has1172 (has1178.byIn 3 16 d.src hR.ok.srcL ((show (_ : List Value) = u8s (l16 d.src) from by kernel_rfl).trans (u8s_16 hR.ok.srcL)) hR.ok.src (by decide)) (has1178.byIn 19 16 d.dst hR.ok.dstL ((show (_ : List Value) = u8s (l16 d.dst) from by kernel_rfl).trans (u8s_16 hR.ok.dstL)) hR.ok.dst (by decide)) (by simp; try omega)) ?_)
      rintro v1181 W1179 ⟨hO1182, hb1180⟩
      have z1183 := hb1180.size
      obtain ⟨A1184, c1185, rfl, y1186⟩ := hO1182.by_
      refine ⟨(Below.trans hS1170 (hb1180.mono hS1170.size)), ?_⟩
      have hS1187 := (Below.trans hS1170 (hb1180.mono hS1170.size))
      simp only [lay]
      have has1188 := hg1165.to hb1180
      have b1189 := bt hb16 hb889
      have b1190 := bt b1189 hb1092
      have b1191 := bt b1190 hb1104
      have b1192 := bt b1191 hb1168
      have b1193 := bt b1192 hb1180
      have has1194 := hg10.to b1193
      have b1195 := bt hb1092 hb1104
      have b1196 := bt b1195 hb1168
      have b1197 := bt b1196 hb1180
      have own1198 := hO886.to b1197
      refine t1 15 rfl (ow_call (fun v w' => OwnB w' W1179.heap.size v (to18 s t) ∧ Below W1179.heap.size W1179 w') (by exact xk Try.func81) (concat3 has1188 (has1194.byIn 0 4 s hE.sL ((show (_ : List Value) = u8s (l4 s) from by kernel_rfl).trans (u8s_4 hE.sL)) hE.s (by decide)) (has1194.byIn 4 4 t hE.tL ((show (_ : List Value) = u8s (l4 t) from by kernel_rfl).trans (u8s_4 hE.tL)) hE.t (by decide)) (own_byS own1198) (by simp; try omega)) ?_)
      rintro v1201 W1199 ⟨hO1202, hb1200⟩
      have z1203 := hb1200.size
      obtain ⟨A1204, c1205, rfl, y1206⟩ := hO1202.by_
      refine ⟨(Below.trans hS1187 (hb1200.mono hS1187.size)), ?_⟩
      have hS1207 := (Below.trans hS1187 (hb1200.mono hS1187.size))
      simp only [lay]
      have own1208 := hO1182.to hb1200
      refine t1 16 rfl (ow_call (fun v w' => (∃ q, v = .tuple #[.int .u16 q, .int .i64 0] ∧ q = (updateS (two17 l k) (from18 d) (to18 s t)).1 ∧ 0 ≤ q ∧ q < 65536) ∧ Below W1199.heap.size W1199 w') (by exact xk Try.func83) (update_one (two17_rng y1102.rng k) (own_byS own1208) (own_byS hO1202) he) ?_)
      rintro _ W1209 ⟨⟨q1211, rfl, hq1212, q01213, q11214⟩, hb1210⟩
      have z1215 := hb1210.size
      refine ⟨(Below.trans hS1207 (hb1210.mono hS1207.size)), ?_⟩
      have hS1216 := (Below.trans hS1207 (hb1210.mono hS1207.size))
      simp only [lay]
      refine te 17 (.tuple #[.int .u16 q1211, .int .i64 0]) hS1216 rfl (by intro _ _; exact xm) ?_
      simp only [lay]
      refine te 18 (.int .u16 q1211) hS1216 rfl (by intro _ _; exact xe) ?_
      simp only [lay]
      refine te 19 (.int .i64 0) hS1216 rfl (by intro _ _; exact xe) ?_
      simp only [lay]
      refine te 20 (.int .u16 q1211) hS1216 rfl (by intro _ _; exact xa) ?_
      simp only [lay]
      refine te 21 (.int .i64 0) hS1216 rfl (by intro _ _; exact xa) ?_
      simp only [lay]
      refine wpAnyH_done (by kernel_rfl) ?_ _
      have b1217 := bt b1193 hb1200
      have b1218 := bt b1217 hb1210
      exact hk100 _ _ ⟨q1211, g1087, A1184, c1185, g884, g1163, A1204, c1205, rfl, b1218, hq1212, q01213, q11214⟩
    case L1096 =>
     refine rs (i := 14) rfl (by kernel_rfl) (ow_build [.slice (some ⟨g8, 0, none⟩) 4 4, .slice (some ⟨g8, 4, none⟩) 4 4, .slice (some ⟨g884, 0, none⟩) 24 24] rfl Try.underlying100 (by kernel_rfl) (by kernel_rfl) rfl (by decide) (by decide) (by first | rfl | (simp only [List.map_toArray, List.map_cons, List.map_nil] <;> rfl)) (by simp [Value.cells]) ?_)
     intro g1219 W1220 hg1221 ge1222 sz1223 hb1224
     have z1225 := hb1224.size
     refine ⟨(Below.trans hS1094 (hb1224.mono hS1094.size)), ?_⟩
     have hS1226 := (Below.trans hS1094 (hb1224.mono hS1094.size))
     simp only [lay]
     have b1227 := bt hb6 hb13
     have b1228 := bt b1227 hb16
     have b1229 := bt b1228 hb889
     have b1230 := bt b1229 hb1092
     have b1231 := bt b1230 hb1224
     have own1232 := hO.to b1231
     have y1233 := (own_byS own1232)
     refine t1 2 rfl (ow_call (fun v w' => v = .int .u16 (two17 l k) ∧ Below W1220.heap.size W1220 w') (by exact xk Try.func50) ((two18_any _ _ _ _ k W1220 y1233 (by omega) (by omega)).mono fun e w' h => ⟨_, h.1, rfl, h.2⟩) ?_)
     rintro _ W1234 ⟨rfl, hb1235⟩
     have z1236 := hb1235.size
     refine ⟨(Below.trans hS1226 (hb1235.mono hS1226.size)), ?_⟩
     have hS1237 := (Below.trans hS1226 (hb1235.mono hS1226.size))
     simp only [lay]
     have b1238 := bt hb1224 hb1235
     have has1239 := hg1089.to b1238
     have b1240 := bt hb13 hb16
     have b1241 := bt b1240 hb889
     have b1242 := bt b1241 hb1092
     have b1243 := bt b1242 hb1224
     have b1244 := bt b1243 hb1235
     have has1245 := hg3.to b1244
     refine t1 8 rfl (ow_call (fun v w' => OwnB w' W1234.heap.size v (from18 d) ∧ Below W1234.heap.size W1234 w') (by exact xk Try.func81) (concat2 has1239 (has1245.byIn 3 16 d.src hR.ok.srcL ((show (_ : List Value) = u8s (l16 d.src) from by kernel_rfl).trans (u8s_16 hR.ok.srcL)) hR.ok.src (by decide)) (has1245.byIn 19 16 d.dst hR.ok.dstL ((show (_ : List Value) = u8s (l16 d.dst) from by kernel_rfl).trans (u8s_16 hR.ok.dstL)) hR.ok.dst (by decide)) (by simp; try omega)) ?_)
     rintro v1248 W1246 ⟨hO1249, hb1247⟩
     have z1250 := hb1247.size
     obtain ⟨A1251, c1252, rfl, y1253⟩ := hO1249.by_
     refine ⟨(Below.trans hS1237 (hb1247.mono hS1237.size)), ?_⟩
     have hS1254 := (Below.trans hS1237 (hb1247.mono hS1237.size))
     simp only [lay]
     have b1255 := bt hb1235 hb1247
     have has1256 := hg1221.to b1255
     have b1257 := bt hb16 hb889
     have b1258 := bt b1257 hb1092
     have b1259 := bt b1258 hb1224
     have b1260 := bt b1259 hb1235
     have b1261 := bt b1260 hb1247
     have has1262 := hg10.to b1261
     have b1263 := bt hb1092 hb1224
     have b1264 := bt b1263 hb1235
     have b1265 := bt b1264 hb1247
     have own1266 := hO886.to b1265
     refine t1 15 rfl (ow_call (fun v w' => OwnB w' W1246.heap.size v (to18 s t) ∧ Below W1246.heap.size W1246 w') (by exact xk Try.func81) (concat3 has1256 (has1262.byIn 0 4 s hE.sL ((show (_ : List Value) = u8s (l4 s) from by kernel_rfl).trans (u8s_4 hE.sL)) hE.s (by decide)) (has1262.byIn 4 4 t hE.tL ((show (_ : List Value) = u8s (l4 t) from by kernel_rfl).trans (u8s_4 hE.tL)) hE.t (by decide)) (own_byS own1266) (by simp; try omega)) ?_)
     rintro v1269 W1267 ⟨hO1270, hb1268⟩
     have z1271 := hb1268.size
     obtain ⟨A1272, c1273, rfl, y1274⟩ := hO1270.by_
     refine ⟨(Below.trans hS1254 (hb1268.mono hS1254.size)), ?_⟩
     have hS1275 := (Below.trans hS1254 (hb1268.mono hS1254.size))
     simp only [lay]
     have own1276 := hO1249.to hb1268
     refine t1 16 rfl (ow_call (fun v w' => (∃ q, v = .tuple #[.int .u16 q, .int .i64 0] ∧ q = (updateS (two17 l k) (from18 d) (to18 s t)).1 ∧ 0 ≤ q ∧ q < 65536) ∧ Below W1267.heap.size W1267 w') (by exact xk Try.func83) (update_one (two17_rng y1233.rng k) (own_byS own1276) (own_byS hO1270) he) ?_)
     rintro _ W1277 ⟨⟨q1279, rfl, hq1280, q01281, q11282⟩, hb1278⟩
     have z1283 := hb1278.size
     refine ⟨(Below.trans hS1275 (hb1278.mono hS1275.size)), ?_⟩
     have hS1284 := (Below.trans hS1275 (hb1278.mono hS1275.size))
     simp only [lay]
     refine te 17 (.tuple #[.int .u16 q1279, .int .i64 0]) hS1284 rfl (by intro _ _; exact xm) ?_
     simp only [lay]
     refine te 18 (.int .u16 q1279) hS1284 rfl (by intro _ _; exact xe) ?_
     simp only [lay]
     refine te 19 (.int .i64 0) hS1284 rfl (by intro _ _; exact xe) ?_
     simp only [lay]
     refine te 20 (.int .u16 q1279) hS1284 rfl (by intro _ _; exact xa) ?_
     simp only [lay]
     refine te 21 (.int .i64 0) hS1284 rfl (by intro _ _; exact xa) ?_
     simp only [lay]
     refine wpAnyH_done (by kernel_rfl) ?_ _
     have b1285 := bt b1261 hb1268
     have b1286 := bt b1285 hb1278
     exact hk100 _ _ ⟨q1279, g1087, A1251, c1252, g884, g1219, A1272, c1273, rfl, b1286, hq1280, q01281, q11282⟩
   case L894 =>
    refine rs (i := 14) rfl (by kernel_rfl) (ow_build [.slice (some ⟨g8, 0, none⟩) 4 4, .slice (some ⟨g8, 4, none⟩) 4 4, .slice (some ⟨g884, 0, none⟩) 24 24] rfl Try.underlying100 (by kernel_rfl) (by kernel_rfl) rfl (by decide) (by decide) (by first | rfl | (simp only [List.map_toArray, List.map_cons, List.map_nil] <;> rfl)) (by simp [Value.cells]) ?_)
    intro g1287 W1288 hg1289 ge1290 sz1291 hb1292
    have z1293 := hb1292.size
    refine ⟨(Below.trans hS891 (hb1292.mono hS891.size)), ?_⟩
    have hS1294 := (Below.trans hS891 (hb1292.mono hS891.size))
    simp only [lay]
    refine tk_two (i := 2) (j := 7) (by kernel_rfl) ?L1295 ?L1296
    case L1295 =>
     have b1297 := bt hb6 hb13
     have b1298 := bt b1297 hb16
     have b1299 := bt b1298 hb889
     have b1300 := bt b1299 hb1292
     have own1301 := hO.to b1300
     have y1302 := (own_byS own1301)
     refine rs (i := 2) rfl (by kernel_rfl) (ow_call (fun v w' => v = .int .u16 (two17 l k) ∧ Below W1288.heap.size W1288 w') (by exact xk Try.func50) ((two18_any _ _ _ _ k W1288 y1302 (by omega) (by omega)).mono fun e w' h => ⟨_, h.1, rfl, h.2⟩) ?_)
     rintro _ W1303 ⟨rfl, hb1304⟩
     have z1305 := hb1304.size
     refine ⟨(Below.trans hS1294 (hb1304.mono hS1294.size)), ?_⟩
     have hS1306 := (Below.trans hS1294 (hb1304.mono hS1294.size))
     simp only [lay]
     refine t1 7 rfl (ow_build [.slice (some ⟨g1, 3, none⟩) 16 16, .slice (some ⟨g1, 19, none⟩) 16 16] rfl Try.underlying100 (by kernel_rfl) (by kernel_rfl) rfl (by decide) (by decide) (by first | rfl | (simp only [List.map_toArray, List.map_cons, List.map_nil] <;> rfl)) (by simp [Value.cells]) ?_)
     intro g1307 W1308 hg1309 ge1310 sz1311 hb1312
     have z1313 := hb1312.size
     refine ⟨(Below.trans hS1306 (hb1312.mono hS1306.size)), ?_⟩
     have hS1314 := (Below.trans hS1306 (hb1312.mono hS1306.size))
     simp only [lay]
     have b1315 := bt hb13 hb16
     have b1316 := bt b1315 hb889
     have b1317 := bt b1316 hb1292
     have b1318 := bt b1317 hb1304
     have b1319 := bt b1318 hb1312
     have has1320 := hg3.to b1319
     refine t1 8 rfl (ow_call (fun v w' => OwnB w' W1308.heap.size v (from18 d) ∧ Below W1308.heap.size W1308 w') (by exact xk Try.func81) (concat2 hg1309 (has1320.byIn 3 16 d.src hR.ok.srcL ((show (_ : List Value) = u8s (l16 d.src) from by kernel_rfl).trans (u8s_16 hR.ok.srcL)) hR.ok.src (by decide)) (has1320.byIn 19 16 d.dst hR.ok.dstL ((show (_ : List Value) = u8s (l16 d.dst) from by kernel_rfl).trans (u8s_16 hR.ok.dstL)) hR.ok.dst (by decide)) (by simp; try omega)) ?_)
     rintro v1323 W1321 ⟨hO1324, hb1322⟩
     have z1325 := hb1322.size
     obtain ⟨A1326, c1327, rfl, y1328⟩ := hO1324.by_
     refine ⟨(Below.trans hS1314 (hb1322.mono hS1314.size)), ?_⟩
     have hS1329 := (Below.trans hS1314 (hb1322.mono hS1314.size))
     simp only [lay]
     have b1330 := bt hb1304 hb1312
     have b1331 := bt b1330 hb1322
     have has1332 := hg1289.to b1331
     have b1333 := bt hb16 hb889
     have b1334 := bt b1333 hb1292
     have b1335 := bt b1334 hb1304
     have b1336 := bt b1335 hb1312
     have b1337 := bt b1336 hb1322
     have has1338 := hg10.to b1337
     have b1339 := bt hb1292 hb1304
     have b1340 := bt b1339 hb1312
     have b1341 := bt b1340 hb1322
     have own1342 := hO886.to b1341
     refine t1 15 rfl (ow_call (fun v w' => OwnB w' W1321.heap.size v (to18 s t) ∧ Below W1321.heap.size W1321 w') (by exact xk Try.func81) (concat3 has1332 (has1338.byIn 0 4 s hE.sL ((show (_ : List Value) = u8s (l4 s) from by kernel_rfl).trans (u8s_4 hE.sL)) hE.s (by decide)) (has1338.byIn 4 4 t hE.tL ((show (_ : List Value) = u8s (l4 t) from by kernel_rfl).trans (u8s_4 hE.tL)) hE.t (by decide)) (own_byS own1342) (by simp; try omega)) ?_)
     rintro v1345 W1343 ⟨hO1346, hb1344⟩
     have z1347 := hb1344.size
     obtain ⟨A1348, c1349, rfl, y1350⟩ := hO1346.by_
     refine ⟨(Below.trans hS1329 (hb1344.mono hS1329.size)), ?_⟩
     have hS1351 := (Below.trans hS1329 (hb1344.mono hS1329.size))
     simp only [lay]
     have own1352 := hO1324.to hb1344
     refine t1 16 rfl (ow_call (fun v w' => (∃ q, v = .tuple #[.int .u16 q, .int .i64 0] ∧ q = (updateS (two17 l k) (from18 d) (to18 s t)).1 ∧ 0 ≤ q ∧ q < 65536) ∧ Below W1343.heap.size W1343 w') (by exact xk Try.func83) (update_one (two17_rng y1302.rng k) (own_byS own1352) (own_byS hO1346) he) ?_)
     rintro _ W1353 ⟨⟨q1355, rfl, hq1356, q01357, q11358⟩, hb1354⟩
     have z1359 := hb1354.size
     refine ⟨(Below.trans hS1351 (hb1354.mono hS1351.size)), ?_⟩
     have hS1360 := (Below.trans hS1351 (hb1354.mono hS1351.size))
     simp only [lay]
     refine te 17 (.tuple #[.int .u16 q1355, .int .i64 0]) hS1360 rfl (by intro _ _; exact xm) ?_
     simp only [lay]
     refine te 18 (.int .u16 q1355) hS1360 rfl (by intro _ _; exact xe) ?_
     simp only [lay]
     refine te 19 (.int .i64 0) hS1360 rfl (by intro _ _; exact xe) ?_
     simp only [lay]
     refine te 20 (.int .u16 q1355) hS1360 rfl (by intro _ _; exact xa) ?_
     simp only [lay]
     refine te 21 (.int .i64 0) hS1360 rfl (by intro _ _; exact xa) ?_
     simp only [lay]
     refine wpAnyH_done (by kernel_rfl) ?_ _
     have b1361 := bt b1337 hb1344
     have b1362 := bt b1361 hb1354
     exact hk100 _ _ ⟨q1355, g1307, A1326, c1327, g884, g1287, A1348, c1349, rfl, b1362, hq1356, q01357, q11358⟩
    case L1296 =>
     refine rs (i := 7) rfl (by kernel_rfl) (ow_build [.slice (some ⟨g1, 3, none⟩) 16 16, .slice (some ⟨g1, 19, none⟩) 16 16] rfl Try.underlying100 (by kernel_rfl) (by kernel_rfl) rfl (by decide) (by decide) (by first | rfl | (simp only [List.map_toArray, List.map_cons, List.map_nil] <;> rfl)) (by simp [Value.cells]) ?_)
     intro g1363 W1364 hg1365 ge1366 sz1367 hb1368
     have z1369 := hb1368.size
     refine ⟨(Below.trans hS1294 (hb1368.mono hS1294.size)), ?_⟩
     have hS1370 := (Below.trans hS1294 (hb1368.mono hS1294.size))
     simp only [lay]
     have b1371 := bt hb6 hb13
     have b1372 := bt b1371 hb16
     have b1373 := bt b1372 hb889
     have b1374 := bt b1373 hb1292
     have b1375 := bt b1374 hb1368
     have own1376 := hO.to b1375
     have y1377 := (own_byS own1376)
     refine t1 2 rfl (ow_call (fun v w' => v = .int .u16 (two17 l k) ∧ Below W1364.heap.size W1364 w') (by exact xk Try.func50) ((two18_any _ _ _ _ k W1364 y1377 (by omega) (by omega)).mono fun e w' h => ⟨_, h.1, rfl, h.2⟩) ?_)
     rintro _ W1378 ⟨rfl, hb1379⟩
     have z1380 := hb1379.size
     refine ⟨(Below.trans hS1370 (hb1379.mono hS1370.size)), ?_⟩
     have hS1381 := (Below.trans hS1370 (hb1379.mono hS1370.size))
     simp only [lay]
     have has1382 := hg1365.to hb1379
     have b1383 := bt hb13 hb16
     have b1384 := bt b1383 hb889
     have b1385 := bt b1384 hb1292
     have b1386 := bt b1385 hb1368
     have b1387 := bt b1386 hb1379
     have has1388 := hg3.to b1387
     refine t1 8 rfl (ow_call (fun v w' => OwnB w' W1378.heap.size v (from18 d) ∧ Below W1378.heap.size W1378 w') (by exact xk Try.func81) (concat2 has1382 (has1388.byIn 3 16 d.src hR.ok.srcL ((show (_ : List Value) = u8s (l16 d.src) from by kernel_rfl).trans (u8s_16 hR.ok.srcL)) hR.ok.src (by decide)) (has1388.byIn 19 16 d.dst hR.ok.dstL ((show (_ : List Value) = u8s (l16 d.dst) from by kernel_rfl).trans (u8s_16 hR.ok.dstL)) hR.ok.dst (by decide)) (by simp; try omega)) ?_)
     rintro v1391 W1389 ⟨hO1392, hb1390⟩
     have z1393 := hb1390.size
     obtain ⟨A1394, c1395, rfl, y1396⟩ := hO1392.by_
     refine ⟨(Below.trans hS1381 (hb1390.mono hS1381.size)), ?_⟩
     have hS1397 := (Below.trans hS1381 (hb1390.mono hS1381.size))
     simp only [lay]
     have b1398 := bt hb1368 hb1379
     have b1399 := bt b1398 hb1390
     have has1400 := hg1289.to b1399
     have b1401 := bt hb16 hb889
     have b1402 := bt b1401 hb1292
     have b1403 := bt b1402 hb1368
     have b1404 := bt b1403 hb1379
     have b1405 := bt b1404 hb1390
     have has1406 := hg10.to b1405
     have b1407 := bt hb1292 hb1368
     have b1408 := bt b1407 hb1379
     have b1409 := bt b1408 hb1390
     have own1410 := hO886.to b1409
     refine t1 15 rfl (ow_call (fun v w' => OwnB w' W1389.heap.size v (to18 s t) ∧ Below W1389.heap.size W1389 w') (by exact xk Try.func81) (concat3 has1400 (has1406.byIn 0 4 s hE.sL ((show (_ : List Value) = u8s (l4 s) from by kernel_rfl).trans (u8s_4 hE.sL)) hE.s (by decide)) (has1406.byIn 4 4 t hE.tL ((show (_ : List Value) = u8s (l4 t) from by kernel_rfl).trans (u8s_4 hE.tL)) hE.t (by decide)) (own_byS own1410) (by simp; try omega)) ?_)
     rintro v1413 W1411 ⟨hO1414, hb1412⟩
     have z1415 := hb1412.size
     obtain ⟨A1416, c1417, rfl, y1418⟩ := hO1414.by_
     refine ⟨(Below.trans hS1397 (hb1412.mono hS1397.size)), ?_⟩
     have hS1419 := (Below.trans hS1397 (hb1412.mono hS1397.size))
     simp only [lay]
     have own1420 := hO1392.to hb1412
     refine t1 16 rfl (ow_call (fun v w' => (∃ q, v = .tuple #[.int .u16 q, .int .i64 0] ∧ q = (updateS (two17 l k) (from18 d) (to18 s t)).1 ∧ 0 ≤ q ∧ q < 65536) ∧ Below W1411.heap.size W1411 w') (by exact xk Try.func83) (update_one (two17_rng y1377.rng k) (own_byS own1420) (own_byS hO1414) he) ?_)
     rintro _ W1421 ⟨⟨q1423, rfl, hq1424, q01425, q11426⟩, hb1422⟩
     have z1427 := hb1422.size
     refine ⟨(Below.trans hS1419 (hb1422.mono hS1419.size)), ?_⟩
     have hS1428 := (Below.trans hS1419 (hb1422.mono hS1419.size))
     simp only [lay]
     refine te 17 (.tuple #[.int .u16 q1423, .int .i64 0]) hS1428 rfl (by intro _ _; exact xm) ?_
     simp only [lay]
     refine te 18 (.int .u16 q1423) hS1428 rfl (by intro _ _; exact xe) ?_
     simp only [lay]
     refine te 19 (.int .i64 0) hS1428 rfl (by intro _ _; exact xe) ?_
     simp only [lay]
     refine te 20 (.int .u16 q1423) hS1428 rfl (by intro _ _; exact xa) ?_
     simp only [lay]
     refine te 21 (.int .i64 0) hS1428 rfl (by intro _ _; exact xa) ?_
     simp only [lay]
     refine wpAnyH_done (by kernel_rfl) ?_ _
     have b1429 := bt b1405 hb1412
     have b1430 := bt b1429 hb1422
     exact hk100 _ _ ⟨q1423, g1363, A1394, c1395, g884, g1287, A1416, c1417, rfl, b1430, hq1424, q01425, q11426⟩
 rintro _ W99 ⟨q93, g33, A52, c53, g56, g64, A84, c85, rfl, hb1431, hx1432, hx1433, hx1434⟩
 have z1435 := hb1431.size
 change Code.wp _ _ _ _ _
 refine wp_seq ?_
 refine wp_sr ?_
 refine lv (.int .u16 q93) (by exact xm) ?_
 simp only [lay]
 by_cases q1436 : q93 = 0
 case pos =>
  refine lv (.bool true) (by exact yq) ?_
  simp only [lay]
  refine lv (.bool true) (by exact xm) ?_
  simp only [lay]
  refine lv (.pointer (some ⟨g1, 40, none⟩)) (by exact xf 40 0 Try.underlying28) ?_
  simp only [lay]
  have b1437 := bt hb13 hb1431
  have has1438 := hg3.to b1437
  refine lv (.int .u8 d.pro) (by exact xc Try.underlying5 (has1438.cell 40 rfl)) ?_
  simp only [lay]
  by_cases q1439 : d.pro = 17
  case pos =>
   refine lv (.bool true) (by exact yq) ?_
   simp only [lay]
   refine lv (.bool true) (by exact xp (b := true)) ?_
   simp only [lay]
   refine wn ?_
   refine cT9 ?_
   refine wp_region_lit ?_
   refine lv (.int .u16 65535) (by exact xa) ?_
   simp only [lay]
   refine wn ?_
   refine wp_region_lit ?_
   refine lv (.slice (some ⟨g, 0, none⟩) n c) (by exact xm) ?_
   simp only [lay]
   refine lv (.int .i64 (k : Int)) (by exact xm) ?_
   simp only [lay]
   refine lv (.int .u16 65535) (by exact xm) ?_
   simp only [lay]
   have b1444 := bt hb6 hb13
   have b1445 := bt b1444 hb1431
   have own1446 := hO.to b1445
   refine lz (ow_call (fun v w' => v = .tuple #[] ∧ OwnB w' w0.heap.size (.slice (some ⟨g, 0, none⟩) n c) (put17 l k 65535) ∧ But6 g W99 w' ∧ Below g W99 w') (by exact xk Try.func52) ((set18_any g n c w0.heap.size k 65535 (by omega) _ W99 own1446 (by omega) (by omega)).mono fun e w' h => ⟨_, h.1, rfl, h.2⟩) ?_)
   rintro _ W1442 ⟨rfl, hO1441, bs1440, hb1443⟩
   have has1447 := hg10.to hb1431
   have z1448 := hb1443.size
   have has1449 := has1438.but6 bs1440 (by omega)
   have has1450 := has1447.but6 bs1440 (by omega)
   simp only [lay]
   refine wpList_nil ?_
   have hf : fix17 (d.pro == 17) q93 = 65535 := by
    unfold fix17
    rw [if_pos ⟨by assumption, by rw [show d.pro = 17 from by assumption]; rfl⟩]
   have e : carry17 (d.pro == 17) (from18 d) (to18 s t) l k = put17 l k 65535 := by
    rw [carry17, ← hx1432, hf]
   exact bodyPost_nrm (res_nil Try.results71) rfl ⟨rfl, by rw [e]; exact hO1441, ((((ButG.ofB hb6).trans (ButG.ofB hb13)).trans (ButG.ofB hb1431)).trans (ButG.of6 bs1440)), (((hb6.mono (by omega)).trans (hb13.mono (by omega))).trans (hb1431.mono (by omega))).trans (hb1443)⟩
  refine lv (.bool false) (by exact yqn) ?_
  simp only [lay]
  refine lv (.bool false) (by exact xp (b := true)) ?_
  simp only [lay]
  refine wn ?_
  refine cF9 ?_
  refine wp_skip ?_
  change Code.wp _ _ _ _ _
  refine wp_region_lit ?_
  refine lv (.slice (some ⟨g, 0, none⟩) n c) (by exact xm) ?_
  simp only [lay]
  refine lv (.int .i64 (k : Int)) (by exact xm) ?_
  simp only [lay]
  refine lv (.int .u16 q93) (by exact xm) ?_
  simp only [lay]
  have b1455 := bt hb6 hb13
  have b1456 := bt b1455 hb1431
  have own1457 := hO.to b1456
  refine lz (ow_call (fun v w' => v = .tuple #[] ∧ OwnB w' w0.heap.size (.slice (some ⟨g, 0, none⟩) n c) (put17 l k q93) ∧ But6 g W99 w' ∧ Below g W99 w') (by exact xk Try.func52) ((set18_any g n c w0.heap.size k q93 (by omega) _ W99 own1457 (by omega) (by omega)).mono fun e w' h => ⟨_, h.1, rfl, h.2⟩) ?_)
  rintro _ W1453 ⟨rfl, hO1452, bs1451, hb1454⟩
  have has1458 := hg10.to hb1431
  have z1459 := hb1454.size
  have has1460 := has1438.but6 bs1451 (by omega)
  have has1461 := has1458.but6 bs1451 (by omega)
  simp only [lay]
  refine wpList_nil ?_
  have hf : fix17 (d.pro == 17) q93 = q93 := by
   unfold fix17
   rw [if_neg (fun h => absurd (by simpa using h.2) (show ¬ d.pro = 17 from by assumption))]
  have e : carry17 (d.pro == 17) (from18 d) (to18 s t) l k = put17 l k q93 := by
   rw [carry17, ← hx1432, hf]
  exact bodyPost_nrm (res_nil Try.results71) rfl ⟨rfl, by rw [e]; exact hO1452, ((((ButG.ofB hb6).trans (ButG.ofB hb13)).trans (ButG.ofB hb1431)).trans (ButG.of6 bs1451)), (((hb6.mono (by omega)).trans (hb13.mono (by omega))).trans (hb1431.mono (by omega))).trans (hb1454)⟩
 refine lv (.bool false) (by exact yqn) ?_
 simp only [lay]
 refine lv (.bool false) (by exact xm) ?_
 simp only [lay]
 refine lzn ?_
 simp only [lay]
 refine lzn ?_
 simp only [lay]
 refine lzn ?_
 simp only [lay]
 refine lv (.bool false) (by exact xp (b := false)) ?_
 simp only [lay]
 refine wn ?_
 refine cF9 ?_
 refine wp_skip ?_
 change Code.wp _ _ _ _ _
 refine wp_region_lit ?_
 refine lv (.slice (some ⟨g, 0, none⟩) n c) (by exact xm) ?_
 simp only [lay]
 refine lv (.int .i64 (k : Int)) (by exact xm) ?_
 simp only [lay]
 refine lv (.int .u16 q93) (by exact xm) ?_
 simp only [lay]
 have b1466 := bt hb6 hb13
 have b1467 := bt b1466 hb1431
 have own1468 := hO.to b1467
 refine lz (ow_call (fun v w' => v = .tuple #[] ∧ OwnB w' w0.heap.size (.slice (some ⟨g, 0, none⟩) n c) (put17 l k q93) ∧ But6 g W99 w' ∧ Below g W99 w') (by exact xk Try.func52) ((set18_any g n c w0.heap.size k q93 (by omega) _ W99 own1468 (by omega) (by omega)).mono fun e w' h => ⟨_, h.1, rfl, h.2⟩) ?_)
 rintro _ W1464 ⟨rfl, hO1463, bs1462, hb1465⟩
 have b1469 := bt hb13 hb1431
 have has1470 := hg3.to b1469
 have has1471 := hg10.to hb1431
 have z1472 := hb1465.size
 have has1473 := has1470.but6 bs1462 (by omega)
 have has1474 := has1471.but6 bs1462 (by omega)
 simp only [lay]
 refine wpList_nil ?_
 have hf : fix17 (d.pro == 17) q93 = q93 := by
  unfold fix17
  rw [if_neg (fun h => absurd h.1 (by assumption))]
 have e : carry17 (d.pro == 17) (from18 d) (to18 s t) l k = put17 l k q93 := by
  rw [carry17, ← hx1432, hf]
 exact bodyPost_nrm (res_nil Try.results71) rfl ⟨rfl, by rw [e]; exact hO1463, ((((ButG.ofB hb6).trans (ButG.ofB hb13)).trans (ButG.ofB hb1431)).trans (ButG.of6 bs1462)), (((hb6.mono (by omega)).trans (hb13.mono (by omega))).trans (hb1431.mono (by omega))).trans (hb1465)⟩
end Go.Proofs.Ytjnphelfloiadaa
