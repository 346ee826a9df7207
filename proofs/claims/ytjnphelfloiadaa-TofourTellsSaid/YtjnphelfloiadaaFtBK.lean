/-
  Lemmas and walks for the row of TofourTells (part 37 of 37).
-/
import Derived.Test.YtjnphelfloiadaaFtAI
import Derived.Test.YtjnphelfloiadaaFtBJ
set_option linter.unusedVariables false
set_option linter.unusedSimpArgs false
namespace Go.Proofs.Ytjnphelfloiadaa
open Go.RowKit Go.Shelf
attribute [local irreducible] wpList Code.wp Oper.wp wpOp wpAnyH

set_option maxRecDepth 100000 in
set_option maxHeartbeats 4000000 in
theorem tells18_walk (d : D6) (p : W6) (n m : Int) (w : World) (hR : Rd6 w.heap.size w d p) (hn0 : 0 ≤ n) (hn1 : n < 4294967296) (hm0 : 0 ≤ m) (hm1 : m < 4294967296) :
  Calls Try.prog 8 #[.agg (d.cells p), .int .u32 n, .int .u32 m] w fun e w' => e = .returned (.bool true) ∧ Below w.heap.size w w' := by
 have yb6 := hR.body
 have hlb := yb6.len
 go_enter Try.func8, Try.ntmps8
 refine wp_sr ?_
 refine lz (ow_box 28 (.tmp 0) _ rfl rfl ?_)
 intro g1 W2 hg3 ge4 sz5 hb6
 have z7 := hb6.size
 simp only [lay]
 refine lv (.bool false) (by exact xa) ?_
 simp only [lay]
 refine wn ?_
 refine wp_sr ?_
 refine lv (.agg (d.cells p)) (by exact xo (hg3.load (P := Try.prog) 28 Try.underlying28 rfl (by kernel_rfl))) ?_
 simp only [lay]
 have rd8 := hR.to hb6
 refine lz (ow_call (fun v w' => v = .tuple #[.agg (ends6 (tells18 d).1.1 (tells18 d).1.2), .bool (tells18 d).2.1, .int .i64 (tells18 d).2.2] ∧ Below W2.heap.size W2 w') (by exact xk Try.func21) ((tells18_any d p W2 rd8).mono fun e w' h => ⟨_, h.1, rfl, h.2⟩) ?_)
 rintro _ W9 ⟨rfl, hb10⟩
 have z11 := hb10.size
 simp only [lay]
 refine lv (.tuple #[.agg (ends6 (tells18 d).1.1 (tells18 d).1.2), .bool ((tells18 d).2.1), .int .i64 ((tells18 d).2.2)]) (by exact xm) ?_
 simp only [lay]
 refine lv (.agg (ends6 (tells18 d).1.1 (tells18 d).1.2)) (by exact xe) ?_
 simp only [lay]
 refine lv (.bool ((tells18 d).2.1)) (by exact xe) ?_
 simp only [lay]
 refine lv (.int .i64 ((tells18 d).2.2)) (by exact xe) ?_
 simp only [lay]
 refine lz (oa #[.int .u8 0, .int .u8 0, .int .u8 0, .int .u8 0, .int .u8 0, .int .u8 0, .int .u8 0, .int .u8 0, .int .u8 0, .int .u8 0, .int .u8 0, .int .u8 0, .int .u8 0, .int .u8 0, .int .u8 0, .int .u8 0, .int .u8 0, .int .u8 0, .int .u8 0, .int .u8 0, .int .u8 0, .int .u8 0, .int .u8 0, .int .u8 0, .int .u8 0, .int .u8 0, .int .u8 0, .int .u8 0, .int .u8 0, .int .u8 0, .int .u8 0, .int .u8 0] ?_)
 intro g12 W13 hg14 ge15 sz16 hb17
 have z18 := hb17.size
 simp only [lay]
 refine lz (ow_st 56 (.tmp 7) (.tmp 20) g12 (ends6 (tells18 d).1.1 (tells18 d).1.2) _ _ rfl (by exact rfl) (by exact rfl) hg14 (by kernel_rfl) rfl (by kernel_rfl) ?_)
 intro W19 hg20 bs21 hb22
 have z23 := hb22.size
 simp only [lay]
 refine lv (.bool ((tells18 d).2.1)) (by exact xa) ?_
 simp only [lay]
 refine lv (.int .i64 ((tells18 d).2.2)) (by exact xa) ?_
 simp only [lay]
 refine wn ?_
 refine wp_sr ?_
 have b24 := bt hb10 hb17
 have l25 := lq hb10 ge15
 have b26 := b24.trans (hb22.mono l25)
 have has27 := hg3.to b26
 refine lv (.agg (d.cells p)) (by exact xo (has27.load (P := Try.prog) 28 Try.underlying28 rfl (by kernel_rfl))) ?_
 simp only [lay]
 have b28 := bt hb6 hb10
 have b29 := bt b28 hb17
 have l30 := lq b28 ge15
 have b31 := b29.trans (hb22.mono l30)
 have rd32 := hR.to b31
 refine lz (ow_call (fun v w' => v = .tuple #[.agg (ends6 (tells18 d).1.1 (tells18 d).1.2), .bool (tells18 d).2.1, .int .i64 (tells18 d).2.2] ∧ Below W19.heap.size W19 w') (by exact xk Try.func22) ((rtells18_any d p W19 rd32).mono fun e w' h => ⟨_, h.1, rfl, h.2⟩) ?_)
 rintro _ W33 ⟨rfl, hb34⟩
 have z35 := hb34.size
 simp only [lay]
 refine lv (.tuple #[.agg (ends6 (tells18 d).1.1 (tells18 d).1.2), .bool ((tells18 d).2.1), .int .i64 ((tells18 d).2.2)]) (by exact xm) ?_
 simp only [lay]
 refine lv (.agg (ends6 (tells18 d).1.1 (tells18 d).1.2)) (by exact xe) ?_
 simp only [lay]
 refine lv (.bool ((tells18 d).2.1)) (by exact xe) ?_
 simp only [lay]
 refine lv (.int .i64 ((tells18 d).2.2)) (by exact xe) ?_
 simp only [lay]
 refine lz (oa #[.int .u8 0, .int .u8 0, .int .u8 0, .int .u8 0, .int .u8 0, .int .u8 0, .int .u8 0, .int .u8 0, .int .u8 0, .int .u8 0, .int .u8 0, .int .u8 0, .int .u8 0, .int .u8 0, .int .u8 0, .int .u8 0, .int .u8 0, .int .u8 0, .int .u8 0, .int .u8 0, .int .u8 0, .int .u8 0, .int .u8 0, .int .u8 0, .int .u8 0, .int .u8 0, .int .u8 0, .int .u8 0, .int .u8 0, .int .u8 0, .int .u8 0, .int .u8 0] ?_)
 intro g36 W37 hg38 ge39 sz40 hb41
 have z42 := hb41.size
 simp only [lay]
 refine lz (ow_st 56 (.tmp 10) (.tmp 26) g36 (ends6 (tells18 d).1.1 (tells18 d).1.2) _ _ rfl (by exact rfl) (by exact rfl) hg38 (by kernel_rfl) rfl (by kernel_rfl) ?_)
 intro W43 hg44 bs45 hb46
 have z47 := hb46.size
 simp only [lay]
 refine lv (.bool ((tells18 d).2.1)) (by exact xa) ?_
 simp only [lay]
 refine lv (.int .i64 ((tells18 d).2.2)) (by exact xa) ?_
 simp only [lay]
 refine wn ?_
 refine wp_sr ?_
 refine lv (.int .u32 n) (by exact xm) ?_
 simp only [lay]
 refine lz (ow_same (.tuple #[.int .u8 ((ptr18 n).1), .bool ((ptr18 n).2)]) (by exact xk Try.func23) (ptr18_any n (by omega) W43) ?_)
 simp only [lay]
 refine lv (.tuple #[.int .u8 ((ptr18 n).1), .bool ((ptr18 n).2)]) (by exact xm) ?_
 simp only [lay]
 refine lv (.int .u8 ((ptr18 n).1)) (by exact xe) ?_
 simp only [lay]
 refine lv (.bool ((ptr18 n).2)) (by exact xe) ?_
 simp only [lay]
 refine lv (.int .u8 ((ptr18 n).1)) (by exact xa) ?_
 simp only [lay]
 refine lv (.bool ((ptr18 n).2)) (by exact xa) ?_
 simp only [lay]
 refine wn ?_
 refine wp_sr ?_
 refine lv (.int .u32 n) (by exact xm) ?_
 simp only [lay]
 refine lz (ow_same (.tuple #[.int .u8 ((ptr18 n).1), .bool ((ptr18 n).2)]) (by exact xk Try.func24) (rptr18_any n (by omega) W43) ?_)
 simp only [lay]
 refine lv (.tuple #[.int .u8 ((ptr18 n).1), .bool ((ptr18 n).2)]) (by exact xm) ?_
 simp only [lay]
 refine lv (.int .u8 ((ptr18 n).1)) (by exact xe) ?_
 simp only [lay]
 refine lv (.bool ((ptr18 n).2)) (by exact xe) ?_
 simp only [lay]
 refine lv (.int .u8 ((ptr18 n).1)) (by exact xa) ?_
 simp only [lay]
 refine lv (.bool ((ptr18 n).2)) (by exact xa) ?_
 simp only [lay]
 refine wn ?_
 refine wp_sr ?_
 have b48 := bt hb34 hb41
 have l49 := lq hb34 ge39
 have b50 := b48.trans (hb46.mono l49)
 have has51 := hg20.to b50
 refine lv (.agg (ends6 (tells18 d).1.1 (tells18 d).1.2)) (by exact xo (has51.load (P := Try.prog) 56 Try.underlying56 rfl (by kernel_rfl))) ?_
 simp only [lay]
 refine lv (.agg (ends6 (tells18 d).1.1 (tells18 d).1.2)) (by exact xo (hg44.load (P := Try.prog) 56 Try.underlying56 rfl (by kernel_rfl))) ?_
 simp only [lay]
 refine lv (.bool true) (by exact ex_eq_ends6 _ _ (by exact rfl) (by exact rfl) (by exact rfl)) ?_
 simp only [lay]
 refine lv (.bool true) (by exact xm) ?_
 simp only [lay]
 refine lv (.bool ((tells18 d).2.1)) (by exact xm) ?_
 simp only [lay]
 refine lv (.bool ((tells18 d).2.1)) (by exact xm) ?_
 simp only [lay]
 refine lv (.bool true) (by exact eq_bool_eq (by exact rfl) Try.underlying4 (by exact rfl) (by exact rfl) rfl) ?_
 simp only [lay]
 refine lv (.bool true) (by exact xp (b := true)) ?_
 simp only [lay]
 refine lv (.bool true) (by exact xm) ?_
 simp only [lay]
 refine lv (.int .i64 ((tells18 d).2.2)) (by exact xm) ?_
 simp only [lay]
 refine lv (.int .i64 ((tells18 d).2.2)) (by exact xm) ?_
 simp only [lay]
 refine lv (.bool true) (by exact yq (h := rfl)) ?_
 simp only [lay]
 refine lv (.bool true) (by exact xp (b := true)) ?_
 simp only [lay]
 refine lv (.bool true) (by exact xm) ?_
 simp only [lay]
 refine lv (.int .u8 ((ptr18 n).1)) (by exact xm) ?_
 simp only [lay]
 refine lv (.int .u8 ((ptr18 n).1)) (by exact xm) ?_
 simp only [lay]
 refine lv (.bool true) (by exact yq (h := rfl)) ?_
 simp only [lay]
 refine lv (.bool true) (by exact xp (b := true)) ?_
 simp only [lay]
 refine lv (.bool true) (by exact xm) ?_
 simp only [lay]
 refine lv (.bool ((ptr18 n).2)) (by exact xm) ?_
 simp only [lay]
 refine lv (.bool ((ptr18 n).2)) (by exact xm) ?_
 simp only [lay]
 refine lv (.bool true) (by exact eq_bool_eq (by exact rfl) Try.underlying4 (by exact rfl) (by exact rfl) rfl) ?_
 simp only [lay]
 refine lv (.bool true) (by exact xp (b := true)) ?_
 simp only [lay]
 refine lv (.bool true) (by exact xm) ?_
 simp only [lay]
 refine lv (.int .u32 m) (by exact xm) ?_
 simp only [lay]
 refine lz (ow_same (.int .u16 (mtu18 m)) (by exact xk Try.func25) (mtu18_any m (by omega) W43) ?_)
 simp only [lay]
 refine lv (.int .u32 m) (by exact xm) ?_
 simp only [lay]
 refine lz (ow_same (.int .u16 (mtu18 m)) (by exact xk Try.func26) (rmtu18_any m (by omega) W43) ?_)
 simp only [lay]
 refine lv (.bool true) (by exact yq (h := rfl)) ?_
 simp only [lay]
 refine lv (.bool true) (by exact xp (b := true)) ?_
 simp only [lay]
 refine lv (.bool true) (by exact xm) ?_
 simp only [lay]
 refine lz (ow_call (fun v w' => v = .bool true ∧ Below W43.heap.size W43 w') (by exact xk Try.func12) ((awake18_any W43).mono fun e w' h => ⟨_, h.1, rfl, h.2⟩) ?_)
 rintro _ W52 ⟨rfl, hb53⟩
 have z54 := hb53.size
 simp only [lay]
 refine lv (.bool true) (by exact xp (b := true)) ?_
 simp only [lay]
 refine lv (.bool true) (by exact xa) ?_
 simp only [lay]
 refine wn ?_
 refine wp_ret ?_
 try simp only [Exit.then]
 have b55 := bt b31 hb34
 have b56 := bt b55 hb41
 have l57 := lq b55 ge39
 have b58 := b56.trans (hb46.mono l57)
 have b59 := bt b58 hb53
 exact bodyPost_ret (res_one Try.results8 rfl) rfl ⟨rfl, b59⟩
end Go.Proofs.Ytjnphelfloiadaa
