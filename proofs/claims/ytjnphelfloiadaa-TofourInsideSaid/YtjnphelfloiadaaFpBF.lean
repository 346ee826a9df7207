/-
  Lemmas and walks for the row of TofourPackets,TofourMessages,TofourInside (part 32 of 42).
-/
import Derived.Test.YtjnphelfloiadaaFpAG
import Derived.Test.YtjnphelfloiadaaFpAV
import Derived.Test.YtjnphelfloiadaaFpAW
import Derived.Test.YtjnphelfloiadaaFpBE
set_option linter.unusedVariables false
set_option linter.unusedSimpArgs false
namespace Go.Proofs.Ytjnphelfloiadaa
open Go.RowKit Go.Shelf
attribute [local irreducible] wpList Code.wp Oper.wp wpOp wpAnyH

def Kind18 (r : (Int × Int × Int) × Bool) (e : Ending) : Prop := (r.2 = true → e = .returned (.agg ((⟨r.1.1, r.1.2.1, r.1.2.2, []⟩ : D7).cells none 0))) ∧ (r.2 = false → e = Fault18 175)
theorem Kind18.ok {r : (Int × Int × Int) × Bool} {a b c : Int} (h : r = ((a, b, c), true)) : Kind18 r (.returned (.agg #[.int .u8 a, .int .u8 b, .int .u32 c, .slice none 0 0])) := by
 subst h
 exact ⟨fun _ => rfl, fun h => by cases h⟩
theorem Kind18.bad {r : (Int × Int × Int) × Bool} (h : r.2 = false) : Kind18 r (Fault18 175) := ⟨fun h' => (by rw [h] at h'; cases h'), fun _ => rfl⟩

set_option maxRecDepth 100000 in
set_option maxHeartbeats 8000000 in
theorem kind18_any (m : D7) (hm : m.ok) (A : Option Addr) (c : Nat) (w : World) :
  Calls Try.prog 45 #[.agg (m.cells A c)] w fun e w' => Kind18 (kind18 m) e ∧ Below w.heap.size w w' := by
 have r1 := hm.rest
 have r2 := hm.ty
 have r3 := hm.code
 have rm := mtu18_rng m.rest
 go_enter Try.func45, Try.ntmps45
 refine wp_sr ?_
 refine lz (ow_box 43 (.tmp 0) _ rfl rfl ?_)
 intro g1 W2 hg3 ge4 sz5 hb6
 have z7 := hb6.size
 simp only [lay]
 refine lz (oa #[.int .u8 0, .int .u8 0, .int .u32 0, .slice none 0 0] ?_)
 intro g8 W9 hg10 ge11 sz12 hb13
 have z14 := hb13.size
 simp only [lay]
 refine wn ?_
 refine wp_seq ?_
 refine wp_sr ?_
 refine lv (pq9 g1 0) (by exact xf 0 0 Try.underlying43) ?_
 simp only [lay]
 have has15 := hg3.to hb13
 refine lv (.int .u8 m.ty) (by exact xc Try.underlying5 (has15.cell 0 rfl)) ?_
 simp only [lay]
 refine wn ?_
 refine wp_block ?_
 refine wp_sr ?_
 by_cases q16 : m.ty = 128
 case pos =>
  refine lv (.bool true) (by exact yq) ?_
  refine lv (.bool true) (by exact xa) ?_
  simp only [lay]
  refine wn ?_
  refine cT9 ?_
  refine wp_sr ?_
  refine lv (pq9 g1 1) (by exact xf 1 0 Try.underlying43) ?_
  refine lv (.int .u8 m.code) (by exact xc Try.underlying5 (has15.cell 1 rfl)) ?_
  refine lv (pq9 g1 2) (by exact xf 2 0 Try.underlying43) ?_
  refine lv (.int .u32 m.rest) (by exact xc Try.underlying22 (has15.cell 2 rfl)) ?_
  simp only [lay]
  refine lv (.agg #[.int .u8 8, .int .u8 m.code, .int .u32 m.rest, .slice none 0 0]) (by kernel_rfl) ?_
  simp only [lay]
  refine lz (ow_st 43 (.tmp 2) (.tmp 13) g8 #[.int .u8 8, .int .u8 m.code, .int .u32 m.rest, .slice none 0 0] _ _ rfl (by rfl) (by rfl) hg10 (by kernel_rfl) rfl (by kernel_rfl) ?_)
  intro W17 hg18 bs19 hb20
  have z21 := hb20.size
  simp only [lay]
  refine wn ?_
  refine wp_ret ?_
  simp only [Exit.inBlock, Exit.then]
  have e : kind18 m = ((8, m.code, m.rest), true) := by
   unfold kind18
   repeat (first|rw [if_pos (by first|assumption|omega)]|rw [if_neg (by first|assumption|omega|exact ne_true_of_eq_false (by assumption))])
   try simp [*]
  exact bodyPost_ret (res_cell Try.results45 rfl (hg18.load (P := Try.prog) 43 Try.underlying43 rfl (by kernel_rfl))) rfl ⟨Kind18.ok e, ((bt hb6 hb13).trans (hb20.mono (lq hb6 ge11)))⟩
 refine lv (.bool false) (by exact yqn) ?_
 refine lv (.bool false) (by exact xa) ?_
 simp only [lay]
 refine wn ?_
 refine cF9 ?_
 refine wp_sr ?_
 by_cases q25 : m.ty = 129
 case pos =>
  refine lv (.bool true) (by exact yq) ?_
  refine lv (.bool true) (by exact xa) ?_
  simp only [lay]
  refine wn ?_
  refine cT9 ?_
  refine wp_sr ?_
  refine lv (pq9 g1 1) (by exact xf 1 0 Try.underlying43) ?_
  refine lv (.int .u8 m.code) (by exact xc Try.underlying5 (has15.cell 1 rfl)) ?_
  refine lv (pq9 g1 2) (by exact xf 2 0 Try.underlying43) ?_
  refine lv (.int .u32 m.rest) (by exact xc Try.underlying22 (has15.cell 2 rfl)) ?_
  simp only [lay]
  refine lv (.agg #[.int .u8 0, .int .u8 m.code, .int .u32 m.rest, .slice none 0 0]) (by kernel_rfl) ?_
  simp only [lay]
  refine lz (ow_st 43 (.tmp 2) (.tmp 20) g8 #[.int .u8 0, .int .u8 m.code, .int .u32 m.rest, .slice none 0 0] _ _ rfl (by rfl) (by rfl) hg10 (by kernel_rfl) rfl (by kernel_rfl) ?_)
  intro W26 hg27 bs28 hb29
  have z30 := hb29.size
  simp only [lay]
  refine wn ?_
  refine wp_ret ?_
  simp only [Exit.inBlock, Exit.then]
  have e : kind18 m = ((0, m.code, m.rest), true) := by
   unfold kind18
   repeat (first|rw [if_pos (by first|assumption|omega)]|rw [if_neg (by first|assumption|omega|exact ne_true_of_eq_false (by assumption))])
   try simp [*]
  exact bodyPost_ret (res_cell Try.results45 rfl (hg27.load (P := Try.prog) 43 Try.underlying43 rfl (by kernel_rfl))) rfl ⟨Kind18.ok e, ((bt hb6 hb13).trans (hb29.mono (lq hb6 ge11)))⟩
 refine lv (.bool false) (by exact yqn) ?_
 refine lv (.bool false) (by exact xa) ?_
 simp only [lay]
 refine wn ?_
 refine cF9 ?_
 refine wp_sr ?_
 by_cases q34 : m.ty = 1
 case pos =>
  refine lv (.bool true) (by exact yq) ?_
  refine lv (.bool true) (by exact xa) ?_
  simp only [lay]
  refine wn ?_
  refine cT9 ?_
  refine wp_sr ?_
  refine lv (pq9 g1 1) (by exact xf 1 0 Try.underlying43) ?_
  refine lv (.int .u8 m.code) (by exact xc Try.underlying5 (has15.cell 1 rfl)) ?_
  simp only [lay]
  refine wn ?_
  refine wp_block ?_
  refine wp_seq ?_
  refine wp_sr ?_
  by_cases q35 : m.code = 0
  case pos =>
   refine lv (.bool true) (by exact yq) ?_
   refine lv (.bool true) (by exact xa) ?_
   simp only [lay]
   refine wn ?_
   refine cT9 ?_
   refine wp_skip ?_
   change Code.wp _ _ _ _ _
   refine cT9 ?_
   refine wp_sr ?_
   refine lv (.agg #[.int .u8 3, .int .u8 1, .int .u32 0, .slice none 0 0]) (by kernel_rfl) ?_
   simp only [lay]
   refine lz (ow_st 43 (.tmp 2) (.tmp 29) g8 #[.int .u8 3, .int .u8 1, .int .u32 0, .slice none 0 0] _ _ rfl (by rfl) (by rfl) hg10 (by kernel_rfl) rfl (by kernel_rfl) ?_)
   intro W36 hg37 bs38 hb39
   have z40 := hb39.size
   simp only [lay]
   refine wn ?_
   refine wp_ret ?_
   simp only [Exit.inBlock, Exit.then]
   have e : kind18 m = ((3, 1, 0), true) := by
    unfold kind18
    repeat (first|rw [if_pos (by first|assumption|omega)]|rw [if_neg (by first|assumption|omega|exact ne_true_of_eq_false (by assumption))])
    try simp [*]
   exact bodyPost_ret (res_cell Try.results45 rfl (hg37.load (P := Try.prog) 43 Try.underlying43 rfl (by kernel_rfl))) rfl ⟨Kind18.ok e, ((bt hb6 hb13).trans (hb39.mono (lq hb6 ge11)))⟩
  refine lv (.bool false) (by exact yqn) ?_
  refine lv (.bool false) (by exact xa) ?_
  simp only [lay]
  refine wn ?_
  refine cF9 ?_
  refine wp_sr ?_
  by_cases q44 : m.code = 2
  case pos =>
   refine lv (.bool true) (by exact yq) ?_
   refine lv (.bool true) (by exact xa) ?_
   simp only [lay]
   refine wn ?_
   refine cT9 ?_
   refine wp_skip ?_
   change Code.wp _ _ _ _ _
   refine cT9 ?_
   refine wp_sr ?_
   refine lv (.agg #[.int .u8 3, .int .u8 1, .int .u32 0, .slice none 0 0]) (by kernel_rfl) ?_
   simp only [lay]
   refine lz (ow_st 43 (.tmp 2) (.tmp 29) g8 #[.int .u8 3, .int .u8 1, .int .u32 0, .slice none 0 0] _ _ rfl (by rfl) (by rfl) hg10 (by kernel_rfl) rfl (by kernel_rfl) ?_)
   intro W45 hg46 bs47 hb48
   have z49 := hb48.size
   simp only [lay]
   refine wn ?_
   refine wp_ret ?_
   simp only [Exit.inBlock, Exit.then]
   have e : kind18 m = ((3, 1, 0), true) := by
    unfold kind18
    repeat (first|rw [if_pos (by first|assumption|omega)]|rw [if_neg (by first|assumption|omega|exact ne_true_of_eq_false (by assumption))])
    try simp [*]
   exact bodyPost_ret (res_cell Try.results45 rfl (hg46.load (P := Try.prog) 43 Try.underlying43 rfl (by kernel_rfl))) rfl ⟨Kind18.ok e, ((bt hb6 hb13).trans (hb48.mono (lq hb6 ge11)))⟩
  refine lv (.bool false) (by exact yqn) ?_
  refine lv (.bool false) (by exact xa) ?_
  simp only [lay]
  refine wn ?_
  refine cF9 ?_
  refine wp_region_lit ?_
  by_cases q53 : m.code = 3
  case pos =>
   refine lv (.bool true) (by exact yq) ?_
   refine lv (.bool true) (by exact xa) ?_
   simp only [lay]
   refine wn ?_
   refine cT9 ?_
   refine wp_sr ?_
   refine lv (.agg #[.int .u8 3, .int .u8 1, .int .u32 0, .slice none 0 0]) (by kernel_rfl) ?_
   simp only [lay]
   refine lz (ow_st 43 (.tmp 2) (.tmp 29) g8 #[.int .u8 3, .int .u8 1, .int .u32 0, .slice none 0 0] _ _ rfl (by rfl) (by rfl) hg10 (by kernel_rfl) rfl (by kernel_rfl) ?_)
   intro W54 hg55 bs56 hb57
   have z58 := hb57.size
   simp only [lay]
   refine wn ?_
   refine wp_ret ?_
   simp only [Exit.inBlock, Exit.then]
   have e : kind18 m = ((3, 1, 0), true) := by
    unfold kind18
    repeat (first|rw [if_pos (by first|assumption|omega)]|rw [if_neg (by first|assumption|omega|exact ne_true_of_eq_false (by assumption))])
    try simp [*]
   exact bodyPost_ret (res_cell Try.results45 rfl (hg55.load (P := Try.prog) 43 Try.underlying43 rfl (by kernel_rfl))) rfl ⟨Kind18.ok e, ((bt hb6 hb13).trans (hb57.mono (lq hb6 ge11)))⟩
  refine lv (.bool false) (by exact yqn) ?_
  refine lv (.bool false) (by exact xa) ?_
  simp only [lay]
  refine wn ?_
  refine cF9 ?_
  refine wp_sr ?_
  by_cases q62 : m.code = 1
  case pos =>
   refine lv (.bool true) (by exact yq) ?_
   refine lv (.bool true) (by exact xa) ?_
   simp only [lay]
   refine wn ?_
   refine cT9 ?_
   refine wp_sr ?_
   refine lv (.agg #[.int .u8 3, .int .u8 10, .int .u32 0, .slice none 0 0]) (by kernel_rfl) ?_
   simp only [lay]
   refine lz (ow_st 43 (.tmp 2) (.tmp 32) g8 #[.int .u8 3, .int .u8 10, .int .u32 0, .slice none 0 0] _ _ rfl (by rfl) (by rfl) hg10 (by kernel_rfl) rfl (by kernel_rfl) ?_)
   intro W63 hg64 bs65 hb66
   have z67 := hb66.size
   simp only [lay]
   refine wn ?_
   refine wp_ret ?_
   simp only [Exit.inBlock, Exit.then]
   have e : kind18 m = ((3, 10, 0), true) := by
    unfold kind18
    repeat (first|rw [if_pos (by first|assumption|omega)]|rw [if_neg (by first|assumption|omega|exact ne_true_of_eq_false (by assumption))])
    try simp [*]
   exact bodyPost_ret (res_cell Try.results45 rfl (hg64.load (P := Try.prog) 43 Try.underlying43 rfl (by kernel_rfl))) rfl ⟨Kind18.ok e, ((bt hb6 hb13).trans (hb66.mono (lq hb6 ge11)))⟩
  refine lv (.bool false) (by exact yqn) ?_
  refine lv (.bool false) (by exact xa) ?_
  simp only [lay]
  refine wn ?_
  refine cF9 ?_
  refine wp_sr ?_
  by_cases q71 : m.code = 4
  case pos =>
   refine lv (.bool true) (by exact yq) ?_
   refine lv (.bool true) (by exact xa) ?_
   simp only [lay]
   refine wn ?_
   refine cT9 ?_
   refine wp_sr ?_
   refine lv (.agg #[.int .u8 3, .int .u8 3, .int .u32 0, .slice none 0 0]) (by kernel_rfl) ?_
   simp only [lay]
   refine lz (ow_st 43 (.tmp 2) (.tmp 35) g8 #[.int .u8 3, .int .u8 3, .int .u32 0, .slice none 0 0] _ _ rfl (by rfl) (by rfl) hg10 (by kernel_rfl) rfl (by kernel_rfl) ?_)
   intro W72 hg73 bs74 hb75
   have z76 := hb75.size
   simp only [lay]
   refine wn ?_
   refine wp_ret ?_
   simp only [Exit.inBlock, Exit.then]
   have e : kind18 m = ((3, 3, 0), true) := by
    unfold kind18
    repeat (first|rw [if_pos (by first|assumption|omega)]|rw [if_neg (by first|assumption|omega|exact ne_true_of_eq_false (by assumption))])
    try simp [*]
   exact bodyPost_ret (res_cell Try.results45 rfl (hg73.load (P := Try.prog) 43 Try.underlying43 rfl (by kernel_rfl))) rfl ⟨Kind18.ok e, ((bt hb6 hb13).trans (hb75.mono (lq hb6 ge11)))⟩
  refine lv (.bool false) (by exact yqn) ?_
  refine lv (.bool false) (by exact xa) ?_
  simp only [lay]
  refine wn ?_
  refine cF9 ?_
  refine wp_skip ?_
  change Code.wp _ _ _ _ _
  refine wp_region_lit ?_
  refine lv (.iface 36 (.int .i64 175)) (by kernel_rfl) ?_
  simp only [lay]
  refine lz (ow_raise _ _ rfl (by rfl) ?_)
  have e : (kind18 m).2 = false := by
   unfold kind18
   repeat (first|rw [if_pos (by first|assumption|omega)]|rw [if_neg (by first|assumption|omega|exact ne_true_of_eq_false (by assumption))])
   try simp [*]
  exact ⟨rfl, Kind18.bad e, (bt hb6 hb13)⟩
 refine lv (.bool false) (by exact yqn) ?_
 refine lv (.bool false) (by exact xa) ?_
 simp only [lay]
 refine wn ?_
 refine cF9 ?_
 refine wp_sr ?_
 by_cases q81 : m.ty = 2
 case pos =>
  refine lv (.bool true) (by exact yq) ?_
  refine lv (.bool true) (by exact xa) ?_
  simp only [lay]
  refine wn ?_
  refine cT9 ?_
  refine wp_sr ?_
  refine lv (pq9 g1 1) (by exact xf 1 0 Try.underlying43) ?_
  refine lv (.int .u8 m.code) (by exact xc Try.underlying5 (has15.cell 1 rfl)) ?_
  simp only [lay]
  by_cases q82 : m.code = 0
  case pos =>
   refine lv (.bool true) (by exact yq) ?_
   simp only [lay]
   refine wn ?_
   refine cT9 ?_
   refine wp_sr ?_
   refine lv (pq9 g1 2) (by exact xf 2 0 Try.underlying43) ?_
   refine lv (.int .u32 m.rest) (by exact xc Try.underlying22 (has15.cell 2 rfl)) ?_
   simp only [lay]
   refine lz (ow_same (.int .u16 (mtu18 m.rest)) (by exact xk Try.func25) (mtu18_any m.rest (by omega) W9) ?_)
   simp only [lay]
   refine lv (.int .u32 (mtu18 m.rest)) (by exact xv (conv_u32 33 22 .u16 (mtu18 m.rest) (by kernel_rfl) Try.underlying22 (by omega) (by omega) _)) ?_
   refine lv (.agg #[.int .u8 3, .int .u8 4, .int .u32 (mtu18 m.rest), .slice none 0 0]) (by kernel_rfl) ?_
   simp only [lay]
   refine lz (ow_st 43 (.tmp 2) (.tmp 45) g8 #[.int .u8 3, .int .u8 4, .int .u32 (mtu18 m.rest), .slice none 0 0] _ _ rfl (by rfl) (by rfl) hg10 (by kernel_rfl) rfl (by kernel_rfl) ?_)
   intro W83 hg84 bs85 hb86
   have z87 := hb86.size
   simp only [lay]
   refine wn ?_
   refine wp_ret ?_
   simp only [Exit.inBlock, Exit.then]
   have e : kind18 m = ((3, 4, mtu18 m.rest), true) := by
    unfold kind18
    repeat (first|rw [if_pos (by first|assumption|omega)]|rw [if_neg (by first|assumption|omega|exact ne_true_of_eq_false (by assumption))])
    try simp [*]
   exact bodyPost_ret (res_cell Try.results45 rfl (hg84.load (P := Try.prog) 43 Try.underlying43 rfl (by kernel_rfl))) rfl ⟨Kind18.ok e, ((bt hb6 hb13).trans (hb86.mono (lq hb6 ge11)))⟩
  refine lv (.bool false) (by exact yqn) ?_
  simp only [lay]
  refine wn ?_
  refine cF9 ?_
  refine wp_skip ?_
  change Code.wp _ _ _ _ _
  refine wp_region_lit ?_
  refine lv (.iface 36 (.int .i64 175)) (by kernel_rfl) ?_
  simp only [lay]
  refine lz (ow_raise _ _ rfl (by rfl) ?_)
  have e : (kind18 m).2 = false := by
   unfold kind18
   repeat (first|rw [if_pos (by first|assumption|omega)]|rw [if_neg (by first|assumption|omega|exact ne_true_of_eq_false (by assumption))])
   try simp [*]
  exact ⟨rfl, Kind18.bad e, (bt hb6 hb13)⟩
 refine lv (.bool false) (by exact yqn) ?_
 refine lv (.bool false) (by exact xa) ?_
 simp only [lay]
 refine wn ?_
 refine cF9 ?_
 refine wp_sr ?_
 by_cases q92 : m.ty = 3
 case pos =>
  refine lv (.bool true) (by exact yq) ?_
  refine lv (.bool true) (by exact xa) ?_
  simp only [lay]
  refine wn ?_
  refine cT9 ?_
  refine wp_sr ?_
  refine lv (pq9 g1 1) (by exact xf 1 0 Try.underlying43) ?_
  refine lv (.int .u8 m.code) (by exact xc Try.underlying5 (has15.cell 1 rfl)) ?_
  refine lv (.agg #[.int .u8 11, .int .u8 m.code, .int .u32 0, .slice none 0 0]) (by kernel_rfl) ?_
  simp only [lay]
  refine lz (ow_st 43 (.tmp 2) (.tmp 50) g8 #[.int .u8 11, .int .u8 m.code, .int .u32 0, .slice none 0 0] _ _ rfl (by rfl) (by rfl) hg10 (by kernel_rfl) rfl (by kernel_rfl) ?_)
  intro W93 hg94 bs95 hb96
  have z97 := hb96.size
  simp only [lay]
  refine wn ?_
  refine wp_ret ?_
  simp only [Exit.inBlock, Exit.then]
  have e : kind18 m = ((11, m.code, 0), true) := by
   unfold kind18
   repeat (first|rw [if_pos (by first|assumption|omega)]|rw [if_neg (by first|assumption|omega|exact ne_true_of_eq_false (by assumption))])
   try simp [*]
  exact bodyPost_ret (res_cell Try.results45 rfl (hg94.load (P := Try.prog) 43 Try.underlying43 rfl (by kernel_rfl))) rfl ⟨Kind18.ok e, ((bt hb6 hb13).trans (hb96.mono (lq hb6 ge11)))⟩
 refine lv (.bool false) (by exact yqn) ?_
 refine lv (.bool false) (by exact xa) ?_
 simp only [lay]
 refine wn ?_
 refine cF9 ?_
 refine wp_sr ?_
 by_cases q101 : m.ty = 4
 case pos =>
  refine lv (.bool true) (by exact yq) ?_
  refine lv (.bool true) (by exact xa) ?_
  simp only [lay]
  refine wn ?_
  refine cT9 ?_
  refine wp_seq ?_
  refine wp_sr ?_
  refine lv (pq9 g1 2) (by exact xf 2 0 Try.underlying43) ?_
  refine lv (.int .u32 m.rest) (by exact xc Try.underlying22 (has15.cell 2 rfl)) ?_
  simp only [lay]
  refine lz (ow_same (.tuple #[.int .u8 ((ptr18 m.rest).1), .bool ((ptr18 m.rest).2)]) (by exact xk Try.func23) (ptr18_any m.rest (by omega) W9) ?_)
  simp only [lay]
  refine lv (.tuple #[.int .u8 ((ptr18 m.rest).1), .bool ((ptr18 m.rest).2)]) (by exact xm) ?_
  refine lv (.int .u8 ((ptr18 m.rest).1)) (by exact xe) ?_
  refine lv (.bool ((ptr18 m.rest).2)) (by exact xe) ?_
  refine lv (.int .u8 ((ptr18 m.rest).1)) (by exact xa) ?_
  simp only [lay]
  refine lv (.bool ((ptr18 m.rest).2)) (by exact xa) ?_
  simp only [lay]
  refine wn ?_
  refine wp_sr ?_
  refine lv (.bool ((ptr18 m.rest).2)) (by exact xm) ?_
  refine lv (.bool ((ptr18 m.rest).2)) (by exact xm) ?_
  simp only [lay]
  by_cases q102 : (ptr18 m.rest).2 = true
  case pos =>
   rw [q102]
   refine lv (pq9 g1 1) (by exact xf 1 0 Try.underlying43) ?_
   refine lv (.int .u8 m.code) (by exact xc Try.underlying5 (has15.cell 1 rfl)) ?_
   simp only [lay]
   by_cases q103 : m.code = 0
   case pos =>
    refine lv (.bool true) (by exact yq) ?_
    refine lv (.bool true) (by exact xp (b := true)) ?_
    simp only [lay]
    refine wn ?_
    refine cT9 ?_
    refine wp_sr ?_
    refine lv (.int .u8 ((ptr18 m.rest).1)) (by exact xm) ?_
    refine lv (.int .u32 ((ptr18 m.rest).1)) (by exact xv (conv_u32 5 22 .u8 ((ptr18 m.rest).1) (by kernel_rfl) Try.underlying22 (in_rng (ptr18_rng hm.rest.1)).1 (in_rng (ptr18_rng hm.rest.1)).2.2 _)) ?_
    refine lv (.int .u32 (((ptr18 m.rest).1) * 16777216)) (by exact xb (w_shl32 _ 24 _ (((ptr18 m.rest).1) * 16777216) rfl (by decide) (by have := (ptr18_rng hm.rest.1); omega) _)) ?_
    refine lv (.agg #[.int .u8 12, .int .u8 0, .int .u32 (((ptr18 m.rest).1) * 16777216), .slice none 0 0]) (by kernel_rfl) ?_
    simp only [lay]
    refine lz (ow_st 43 (.tmp 2) (.tmp 68) g8 #[.int .u8 12, .int .u8 0, .int .u32 (((ptr18 m.rest).1) * 16777216), .slice none 0 0] _ _ rfl (by rfl) (by rfl) hg10 (by kernel_rfl) rfl (by kernel_rfl) ?_)
    intro W104 hg105 bs106 hb107
    have z108 := hb107.size
    simp only [lay]
    refine wn ?_
    refine wp_ret ?_
    simp only [Exit.inBlock, Exit.then]
    have e : kind18 m = ((12, 0, ((ptr18 m.rest).1) * 16777216), true) := by
     unfold kind18
     repeat (first|rw [if_pos (by first|assumption|omega)]|rw [if_neg (by first|assumption|omega|exact ne_true_of_eq_false (by assumption))])
     try simp [*]
    exact bodyPost_ret (res_cell Try.results45 rfl (hg105.load (P := Try.prog) 43 Try.underlying43 rfl (by kernel_rfl))) rfl ⟨Kind18.ok e, ((bt hb6 hb13).trans (hb107.mono (lq hb6 ge11)))⟩
   refine lv (.bool false) (by exact yqn) ?_
   refine lv (.bool false) (by exact xp (b := true)) ?_
   simp only [lay]
   refine wn ?_
   refine cF9 ?_
   refine wp_skip ?_
   change Code.wp _ _ _ _ _
   refine wp_sr ?_
   refine lv (pq9 g1 1) (by exact xf 1 0 Try.underlying43) ?_
   refine lv (.int .u8 m.code) (by exact xc Try.underlying5 (has15.cell 1 rfl)) ?_
   simp only [lay]
   by_cases q112 : m.code = 1
   case pos =>
    refine lv (.bool true) (by exact yq) ?_
    simp only [lay]
    refine wn ?_
    refine cT9 ?_
    refine wp_sr ?_
    refine lv (.agg #[.int .u8 3, .int .u8 2, .int .u32 0, .slice none 0 0]) (by kernel_rfl) ?_
    simp only [lay]
    refine lz (ow_st 43 (.tmp 2) (.tmp 72) g8 #[.int .u8 3, .int .u8 2, .int .u32 0, .slice none 0 0] _ _ rfl (by rfl) (by rfl) hg10 (by kernel_rfl) rfl (by kernel_rfl) ?_)
    intro W113 hg114 bs115 hb116
    have z117 := hb116.size
    simp only [lay]
    refine wn ?_
    refine wp_ret ?_
    simp only [Exit.inBlock, Exit.then]
    have e : kind18 m = ((3, 2, 0), true) := by
     unfold kind18
     repeat (first|rw [if_pos (by first|assumption|omega)]|rw [if_neg (by first|assumption|omega|exact ne_true_of_eq_false (by assumption))])
     try simp [*]
    exact bodyPost_ret (res_cell Try.results45 rfl (hg114.load (P := Try.prog) 43 Try.underlying43 rfl (by kernel_rfl))) rfl ⟨Kind18.ok e, ((bt hb6 hb13).trans (hb116.mono (lq hb6 ge11)))⟩
   refine lv (.bool false) (by exact yqn) ?_
   simp only [lay]
   refine wn ?_
   refine cF9 ?_
   refine wp_skip ?_
   change Code.wp _ _ _ _ _
   refine wp_region_lit ?_
   refine lv (.iface 36 (.int .i64 175)) (by kernel_rfl) ?_
   simp only [lay]
   refine lz (ow_raise _ _ rfl (by rfl) ?_)
   have e : (kind18 m).2 = false := by
    unfold kind18
    repeat (first|rw [if_pos (by first|assumption|omega)]|rw [if_neg (by first|assumption|omega|exact ne_true_of_eq_false (by assumption))])
    try simp [*]
   exact ⟨rfl, Kind18.bad e, (bt hb6 hb13)⟩
  replace q102 := eq_false_of_ne_true q102
  rw [q102]
  refine lzn ?_
  refine lzn ?_
  refine lzn ?_
  refine lv (.bool false) (by exact xp (b := false)) ?_
  simp only [lay]
  refine wn ?_
  refine cF9 ?_
  refine wp_skip ?_
  change Code.wp _ _ _ _ _
  refine wp_sr ?_
  refine lv (pq9 g1 1) (by exact xf 1 0 Try.underlying43) ?_
  refine lv (.int .u8 m.code) (by exact xc Try.underlying5 (has15.cell 1 rfl)) ?_
  simp only [lay]
  by_cases q122 : m.code = 1
  case pos =>
   refine lv (.bool true) (by exact yq) ?_
   simp only [lay]
   refine wn ?_
   refine cT9 ?_
   refine wp_sr ?_
   refine lv (.agg #[.int .u8 3, .int .u8 2, .int .u32 0, .slice none 0 0]) (by kernel_rfl) ?_
   simp only [lay]
   refine lz (ow_st 43 (.tmp 2) (.tmp 72) g8 #[.int .u8 3, .int .u8 2, .int .u32 0, .slice none 0 0] _ _ rfl (by rfl) (by rfl) hg10 (by kernel_rfl) rfl (by kernel_rfl) ?_)
   intro W123 hg124 bs125 hb126
   have z127 := hb126.size
   simp only [lay]
   refine wn ?_
   refine wp_ret ?_
   simp only [Exit.inBlock, Exit.then]
   have e : kind18 m = ((3, 2, 0), true) := by
    unfold kind18
    repeat (first|rw [if_pos (by first|assumption|omega)]|rw [if_neg (by first|assumption|omega|exact ne_true_of_eq_false (by assumption))])
    try simp [*]
   exact bodyPost_ret (res_cell Try.results45 rfl (hg124.load (P := Try.prog) 43 Try.underlying43 rfl (by kernel_rfl))) rfl ⟨Kind18.ok e, ((bt hb6 hb13).trans (hb126.mono (lq hb6 ge11)))⟩
  refine lv (.bool false) (by exact yqn) ?_
  simp only [lay]
  refine wn ?_
  refine cF9 ?_
  refine wp_skip ?_
  change Code.wp _ _ _ _ _
  refine wp_region_lit ?_
  refine lv (.iface 36 (.int .i64 175)) (by kernel_rfl) ?_
  simp only [lay]
  refine lz (ow_raise _ _ rfl (by rfl) ?_)
  have e : (kind18 m).2 = false := by
   unfold kind18
   repeat (first|rw [if_pos (by first|assumption|omega)]|rw [if_neg (by first|assumption|omega|exact ne_true_of_eq_false (by assumption))])
   try simp [*]
  exact ⟨rfl, Kind18.bad e, (bt hb6 hb13)⟩
 refine lv (.bool false) (by exact yqn) ?_
 refine lv (.bool false) (by exact xa) ?_
 simp only [lay]
 refine wn ?_
 refine cF9 ?_
 refine wp_skip ?_
 change Code.wp _ _ _ _ _
 refine wp_region_lit ?_
 refine lv (.iface 36 (.int .i64 175)) (by kernel_rfl) ?_
 simp only [lay]
 refine lz (ow_raise _ _ rfl (by rfl) ?_)
 have e : (kind18 m).2 = false := by
  unfold kind18
  repeat (first|rw [if_pos (by first|assumption|omega)]|rw [if_neg (by first|assumption|omega|exact ne_true_of_eq_false (by assumption))])
  try simp [*]
 exact ⟨rfl, Kind18.bad e, (bt hb6 hb13)⟩
set_option maxRecDepth 100000 in
set_option maxHeartbeats 8000000 in
theorem rkind18_any (m : D7) (hm : m.ok) (A : Option Addr) (c : Nat) (w : World) :
  Calls Try.prog 47 #[.agg (m.cells A c)] w fun e w' => KindR (kind18 m) e ∧ Below w.heap.size w w' := by
 have r1 := hm.rest
 have r2 := hm.ty
 have r3 := hm.code
 have rm := mtu18_rng m.rest
 go_enter Try.func47, Try.ntmps47
 refine wp_sr ?_
 refine lz (ow_box 43 (.tmp 0) _ rfl rfl ?_)
 intro g1 W2 hg3 ge4 sz5 hb6
 have z7 := hb6.size
 simp only [lay]
 refine lz (oa #[.int .u8 0, .int .u8 0, .int .u32 0, .slice none 0 0] ?_)
 intro g8 W9 hg10 ge11 sz12 hb13
 have z14 := hb13.size
 simp only [lay]
 refine lv (.bool false) (by exact xa) ?_
 simp only [lay]
 refine wn ?_
 refine wp_seq ?_
 refine wp_sr ?_
 refine lv (pq9 g1 0) (by exact xf 0 0 Try.underlying43) ?_
 simp only [lay]
 have has15 := hg3.to hb13
 refine lv (.int .u8 m.ty) (by exact xc Try.underlying5 (has15.cell 0 rfl)) ?_
 simp only [lay]
 refine wn ?_
 refine wp_block ?_
 refine wp_sr ?_
 by_cases q16 : m.ty = 128
 case pos =>
  refine lv (.bool true) (by exact yq) ?_
  refine lv (.bool true) (by exact xa) ?_
  simp only [lay]
  refine wn ?_
  refine cT9 ?_
  refine wp_sr ?_
  refine lv (pq9 g1 1) (by exact xf 1 0 Try.underlying43) ?_
  refine lv (.int .u8 m.code) (by exact xc Try.underlying5 (has15.cell 1 rfl)) ?_
  refine lv (pq9 g1 2) (by exact xf 2 0 Try.underlying43) ?_
  refine lv (.int .u32 m.rest) (by exact xc Try.underlying22 (has15.cell 2 rfl)) ?_
  simp only [lay]
  refine lv (.agg #[.int .u8 8, .int .u8 m.code, .int .u32 m.rest, .slice none 0 0]) (by kernel_rfl) ?_
  simp only [lay]
  refine lz (ow_st 43 (.tmp 2) (.tmp 14) g8 #[.int .u8 8, .int .u8 m.code, .int .u32 m.rest, .slice none 0 0] _ _ rfl (by rfl) (by rfl) hg10 (by kernel_rfl) rfl (by kernel_rfl) ?_)
  intro W17 hg18 bs19 hb20
  have z21 := hb20.size
  simp only [lay]
  refine lv (.bool true) (by exact xa) ?_
  simp only [lay]
  refine wn ?_
  refine wp_ret ?_
  simp only [Exit.inBlock, Exit.then]
  have e : kind18 m = ((8, m.code, m.rest), true) := by
   unfold kind18
   repeat (first|rw [if_pos (by first|assumption|omega)]|rw [if_neg (by first|assumption|omega|exact ne_true_of_eq_false (by assumption))])
   try simp [*]
  exact bodyPost_ret (res_cell2 Try.results47 rfl (hg18.load (P := Try.prog) 43 Try.underlying43 rfl (by kernel_rfl)) rfl) rfl ⟨⟨8, m.code, m.rest, by rw [e]; rfl, fun _ => by rw [e]⟩, ((bt hb6 hb13).trans (hb20.mono (lq hb6 ge11)))⟩
 refine lv (.bool false) (by exact yqn) ?_
 refine lv (.bool false) (by exact xa) ?_
 simp only [lay]
 refine wn ?_
 refine cF9 ?_
 refine wp_sr ?_
 by_cases q25 : m.ty = 129
 case pos =>
  refine lv (.bool true) (by exact yq) ?_
  refine lv (.bool true) (by exact xa) ?_
  simp only [lay]
  refine wn ?_
  refine cT9 ?_
  refine wp_sr ?_
  refine lv (pq9 g1 1) (by exact xf 1 0 Try.underlying43) ?_
  refine lv (.int .u8 m.code) (by exact xc Try.underlying5 (has15.cell 1 rfl)) ?_
  refine lv (pq9 g1 2) (by exact xf 2 0 Try.underlying43) ?_
  refine lv (.int .u32 m.rest) (by exact xc Try.underlying22 (has15.cell 2 rfl)) ?_
  simp only [lay]
  refine lv (.agg #[.int .u8 0, .int .u8 m.code, .int .u32 m.rest, .slice none 0 0]) (by kernel_rfl) ?_
  simp only [lay]
  refine lz (ow_st 43 (.tmp 2) (.tmp 21) g8 #[.int .u8 0, .int .u8 m.code, .int .u32 m.rest, .slice none 0 0] _ _ rfl (by rfl) (by rfl) hg10 (by kernel_rfl) rfl (by kernel_rfl) ?_)
  intro W26 hg27 bs28 hb29
  have z30 := hb29.size
  simp only [lay]
  refine lv (.bool true) (by exact xa) ?_
  simp only [lay]
  refine wn ?_
  refine wp_ret ?_
  simp only [Exit.inBlock, Exit.then]
  have e : kind18 m = ((0, m.code, m.rest), true) := by
   unfold kind18
   repeat (first|rw [if_pos (by first|assumption|omega)]|rw [if_neg (by first|assumption|omega|exact ne_true_of_eq_false (by assumption))])
   try simp [*]
  exact bodyPost_ret (res_cell2 Try.results47 rfl (hg27.load (P := Try.prog) 43 Try.underlying43 rfl (by kernel_rfl)) rfl) rfl ⟨⟨0, m.code, m.rest, by rw [e]; rfl, fun _ => by rw [e]⟩, ((bt hb6 hb13).trans (hb29.mono (lq hb6 ge11)))⟩
 refine lv (.bool false) (by exact yqn) ?_
 refine lv (.bool false) (by exact xa) ?_
 simp only [lay]
 refine wn ?_
 refine cF9 ?_
 refine wp_sr ?_
 by_cases q34 : m.ty = 1
 case pos =>
  refine lv (.bool true) (by exact yq) ?_
  refine lv (.bool true) (by exact xa) ?_
  simp only [lay]
  refine wn ?_
  refine cT9 ?_
  refine wp_sr ?_
  refine lv (pq9 g1 1) (by exact xf 1 0 Try.underlying43) ?_
  refine lv (.int .u8 m.code) (by exact xc Try.underlying5 (has15.cell 1 rfl)) ?_
  simp only [lay]
  refine wn ?_
  refine wp_block ?_
  refine wp_seq ?_
  refine wp_sr ?_
  by_cases q35 : m.code = 0
  case pos =>
   refine lv (.bool true) (by exact yq) ?_
   refine lv (.bool true) (by exact xa) ?_
   simp only [lay]
   refine wn ?_
   refine cT9 ?_
   refine wp_skip ?_
   change Code.wp _ _ _ _ _
   refine cT9 ?_
   refine wp_sr ?_
   refine lv (.agg #[.int .u8 3, .int .u8 1, .int .u32 0, .slice none 0 0]) (by kernel_rfl) ?_
   simp only [lay]
   refine lz (ow_st 43 (.tmp 2) (.tmp 30) g8 #[.int .u8 3, .int .u8 1, .int .u32 0, .slice none 0 0] _ _ rfl (by rfl) (by rfl) hg10 (by kernel_rfl) rfl (by kernel_rfl) ?_)
   intro W36 hg37 bs38 hb39
   have z40 := hb39.size
   simp only [lay]
   refine lv (.bool true) (by exact xa) ?_
   simp only [lay]
   refine wn ?_
   refine wp_ret ?_
   simp only [Exit.inBlock, Exit.then]
   have e : kind18 m = ((3, 1, 0), true) := by
    unfold kind18
    repeat (first|rw [if_pos (by first|assumption|omega)]|rw [if_neg (by first|assumption|omega|exact ne_true_of_eq_false (by assumption))])
    try simp [*]
   exact bodyPost_ret (res_cell2 Try.results47 rfl (hg37.load (P := Try.prog) 43 Try.underlying43 rfl (by kernel_rfl)) rfl) rfl ⟨⟨3, 1, 0, by rw [e]; rfl, fun _ => by rw [e]⟩, ((bt hb6 hb13).trans (hb39.mono (lq hb6 ge11)))⟩
  refine lv (.bool false) (by exact yqn) ?_
  refine lv (.bool false) (by exact xa) ?_
  simp only [lay]
  refine wn ?_
  refine cF9 ?_
  refine wp_sr ?_
  by_cases q44 : m.code = 2
  case pos =>
   refine lv (.bool true) (by exact yq) ?_
   refine lv (.bool true) (by exact xa) ?_
   simp only [lay]
   refine wn ?_
   refine cT9 ?_
   refine wp_skip ?_
   change Code.wp _ _ _ _ _
   refine cT9 ?_
   refine wp_sr ?_
   refine lv (.agg #[.int .u8 3, .int .u8 1, .int .u32 0, .slice none 0 0]) (by kernel_rfl) ?_
   simp only [lay]
   refine lz (ow_st 43 (.tmp 2) (.tmp 30) g8 #[.int .u8 3, .int .u8 1, .int .u32 0, .slice none 0 0] _ _ rfl (by rfl) (by rfl) hg10 (by kernel_rfl) rfl (by kernel_rfl) ?_)
   intro W45 hg46 bs47 hb48
   have z49 := hb48.size
   simp only [lay]
   refine lv (.bool true) (by exact xa) ?_
   simp only [lay]
   refine wn ?_
   refine wp_ret ?_
   simp only [Exit.inBlock, Exit.then]
   have e : kind18 m = ((3, 1, 0), true) := by
    unfold kind18
    repeat (first|rw [if_pos (by first|assumption|omega)]|rw [if_neg (by first|assumption|omega|exact ne_true_of_eq_false (by assumption))])
    try simp [*]
   exact bodyPost_ret (res_cell2 Try.results47 rfl (hg46.load (P := Try.prog) 43 Try.underlying43 rfl (by kernel_rfl)) rfl) rfl ⟨⟨3, 1, 0, by rw [e]; rfl, fun _ => by rw [e]⟩, ((bt hb6 hb13).trans (hb48.mono (lq hb6 ge11)))⟩
  refine lv (.bool false) (by exact yqn) ?_
  refine lv (.bool false) (by exact xa) ?_
  simp only [lay]
  refine wn ?_
  refine cF9 ?_
  refine wp_region_lit ?_
  by_cases q53 : m.code = 3
  case pos =>
   refine lv (.bool true) (by exact yq) ?_
   refine lv (.bool true) (by exact xa) ?_
   simp only [lay]
   refine wn ?_
   refine cT9 ?_
   refine wp_sr ?_
   refine lv (.agg #[.int .u8 3, .int .u8 1, .int .u32 0, .slice none 0 0]) (by kernel_rfl) ?_
   simp only [lay]
   refine lz (ow_st 43 (.tmp 2) (.tmp 30) g8 #[.int .u8 3, .int .u8 1, .int .u32 0, .slice none 0 0] _ _ rfl (by rfl) (by rfl) hg10 (by kernel_rfl) rfl (by kernel_rfl) ?_)
   intro W54 hg55 bs56 hb57
   have z58 := hb57.size
   simp only [lay]
   refine lv (.bool true) (by exact xa) ?_
   simp only [lay]
   refine wn ?_
   refine wp_ret ?_
   simp only [Exit.inBlock, Exit.then]
   have e : kind18 m = ((3, 1, 0), true) := by
    unfold kind18
    repeat (first|rw [if_pos (by first|assumption|omega)]|rw [if_neg (by first|assumption|omega|exact ne_true_of_eq_false (by assumption))])
    try simp [*]
   exact bodyPost_ret (res_cell2 Try.results47 rfl (hg55.load (P := Try.prog) 43 Try.underlying43 rfl (by kernel_rfl)) rfl) rfl ⟨⟨3, 1, 0, by rw [e]; rfl, fun _ => by rw [e]⟩, ((bt hb6 hb13).trans (hb57.mono (lq hb6 ge11)))⟩
  refine lv (.bool false) (by exact yqn) ?_
  refine lv (.bool false) (by exact xa) ?_
  simp only [lay]
  refine wn ?_
  refine cF9 ?_
  refine wp_sr ?_
  by_cases q62 : m.code = 1
  case pos =>
   refine lv (.bool true) (by exact yq) ?_
   refine lv (.bool true) (by exact xa) ?_
   simp only [lay]
   refine wn ?_
   refine cT9 ?_
   refine wp_sr ?_
   refine lv (.agg #[.int .u8 3, .int .u8 10, .int .u32 0, .slice none 0 0]) (by kernel_rfl) ?_
   simp only [lay]
   refine lz (ow_st 43 (.tmp 2) (.tmp 33) g8 #[.int .u8 3, .int .u8 10, .int .u32 0, .slice none 0 0] _ _ rfl (by rfl) (by rfl) hg10 (by kernel_rfl) rfl (by kernel_rfl) ?_)
   intro W63 hg64 bs65 hb66
   have z67 := hb66.size
   simp only [lay]
   refine lv (.bool true) (by exact xa) ?_
   simp only [lay]
   refine wn ?_
   refine wp_ret ?_
   simp only [Exit.inBlock, Exit.then]
   have e : kind18 m = ((3, 10, 0), true) := by
    unfold kind18
    repeat (first|rw [if_pos (by first|assumption|omega)]|rw [if_neg (by first|assumption|omega|exact ne_true_of_eq_false (by assumption))])
    try simp [*]
   exact bodyPost_ret (res_cell2 Try.results47 rfl (hg64.load (P := Try.prog) 43 Try.underlying43 rfl (by kernel_rfl)) rfl) rfl ⟨⟨3, 10, 0, by rw [e]; rfl, fun _ => by rw [e]⟩, ((bt hb6 hb13).trans (hb66.mono (lq hb6 ge11)))⟩
  refine lv (.bool false) (by exact yqn) ?_
  refine lv (.bool false) (by exact xa) ?_
  simp only [lay]
  refine wn ?_
  refine cF9 ?_
  refine wp_sr ?_
  by_cases q71 : m.code = 4
  case pos =>
   refine lv (.bool true) (by exact yq) ?_
   refine lv (.bool true) (by exact xa) ?_
   simp only [lay]
   refine wn ?_
   refine cT9 ?_
   refine wp_sr ?_
   refine lv (.agg #[.int .u8 3, .int .u8 3, .int .u32 0, .slice none 0 0]) (by kernel_rfl) ?_
   simp only [lay]
   refine lz (ow_st 43 (.tmp 2) (.tmp 36) g8 #[.int .u8 3, .int .u8 3, .int .u32 0, .slice none 0 0] _ _ rfl (by rfl) (by rfl) hg10 (by kernel_rfl) rfl (by kernel_rfl) ?_)
   intro W72 hg73 bs74 hb75
   have z76 := hb75.size
   simp only [lay]
   refine lv (.bool true) (by exact xa) ?_
   simp only [lay]
   refine wn ?_
   refine wp_ret ?_
   simp only [Exit.inBlock, Exit.then]
   have e : kind18 m = ((3, 3, 0), true) := by
    unfold kind18
    repeat (first|rw [if_pos (by first|assumption|omega)]|rw [if_neg (by first|assumption|omega|exact ne_true_of_eq_false (by assumption))])
    try simp [*]
   exact bodyPost_ret (res_cell2 Try.results47 rfl (hg73.load (P := Try.prog) 43 Try.underlying43 rfl (by kernel_rfl)) rfl) rfl ⟨⟨3, 3, 0, by rw [e]; rfl, fun _ => by rw [e]⟩, ((bt hb6 hb13).trans (hb75.mono (lq hb6 ge11)))⟩
  refine lv (.bool false) (by exact yqn) ?_
  refine lv (.bool false) (by exact xa) ?_
  simp only [lay]
  refine wn ?_
  refine cF9 ?_
  refine wp_skip ?_
  change Code.wp _ _ _ _ _
  refine wp_sr ?_
  refine lv (.agg #[.int .u8 0, .int .u8 0, .int .u32 0, .slice none 0 0]) (by kernel_rfl) ?_
  simp only [lay]
  refine lz (ow_st 43 (.tmp 2) (.tmp 72) g8 #[.int .u8 0, .int .u8 0, .int .u32 0, .slice none 0 0] _ _ rfl (by rfl) (by rfl) hg10 (by kernel_rfl) rfl (by kernel_rfl) ?_)
  intro W80 hg81 bs82 hb83
  have z84 := hb83.size
  simp only [lay]
  refine lv (.bool false) (by exact xa) ?_
  simp only [lay]
  refine wn ?_
  refine wp_ret ?_
  try simp only [Exit.then]
  have e : (kind18 m).2 = false := by
   unfold kind18
   repeat (first|rw [if_pos (by first|assumption|omega)]|rw [if_neg (by first|assumption|omega|exact ne_true_of_eq_false (by assumption))])
   try simp [*]
  exact bodyPost_ret (res_cell2 Try.results47 rfl (hg81.load (P := Try.prog) 43 Try.underlying43 rfl (by kernel_rfl)) rfl) rfl ⟨⟨0, 0, 0, by rw [e]; rfl, fun h => by rw [e] at h; cases h⟩, ((bt hb6 hb13).trans (hb83.mono (lq hb6 ge11)))⟩
 refine lv (.bool false) (by exact yqn) ?_
 refine lv (.bool false) (by exact xa) ?_
 simp only [lay]
 refine wn ?_
 refine cF9 ?_
 refine wp_sr ?_
 by_cases q88 : m.ty = 2
 case pos =>
  refine lv (.bool true) (by exact yq) ?_
  refine lv (.bool true) (by exact xa) ?_
  simp only [lay]
  refine wn ?_
  refine cT9 ?_
  refine wp_seq ?_
  refine rg_drawn g8 (by kernel_rfl) (by omega) ?_
  intro W89 hb90 hs91 hS92
  have z93 := hb90.size
  refine te 0 (pq9 g1 2) hS92 rfl (by intro _ _; exact xf 2 0 Try.underlying43) ?_
  simp only [lay]
  have l94 : W2.heap.size ≤ g8 := Nat.le_of_eq ge11.symm
  refine te 1 (.int .u32 m.rest) hS92 rfl (by intro _ h; exact xc Try.underlying22 ((hg3.to (hb13.trans (Below.mono h l94))).cell 2 rfl)) ?_
  refine te 5 (pq9 g1 1) hS92 rfl (by intro _ _; exact xf 1 0 Try.underlying43) ?_
  refine te 6 (.int .u8 m.code) hS92 rfl (by intro _ h; exact xc Try.underlying5 ((hg3.to (hb13.trans (Below.mono h l94))).cell 1 rfl)) ?_
  simp only [lay]
  by_cases q95 : m.code = 0
  case pos =>
   refine te 7 (.bool true) hS92 rfl (by intro _ _; exact yq) ?_
   simp only [lay]
   refine t1 2 rfl (ow_same (.int .u16 (mtu18 m.rest)) (by exact xk Try.func26) (rmtu18_any m.rest (by omega) W89) ?_)
   refine ⟨hS92, ?_⟩
   simp only [lay]
   refine te 3 (.int .u32 (mtu18 m.rest)) hS92 rfl (by intro _ _; exact xv (conv_u32 33 22 .u16 (mtu18 m.rest) (by kernel_rfl) Try.underlying22 (by omega) (by omega) _)) ?_
   refine te 4 (.agg #[.int .u8 3, .int .u8 4, .int .u32 (mtu18 m.rest), .slice none 0 0]) hS92 rfl (by intro _ _; kernel_rfl) ?_
   simp only [lay]
   refine t1 8 rfl (ow_st 43 (.tmp 2) (.tmp 43) g8 #[.int .u8 3, .int .u8 4, .int .u32 (mtu18 m.rest), .slice none 0 0] _ _ rfl (by rfl) (by rfl) (hg10.to hb90) (by kernel_rfl) rfl (by kernel_rfl) ?_)
   intro W96 hg97 bs98 hb99
   have z101 := hb99.size
   refine ⟨(Below.trans hS92 hb99), ?_⟩
   have hS102 := (Below.trans hS92 hb99)
   simp only [lay]
   refine te 9 (.bool true) hS102 rfl (by intro _ _; exact xa) ?_
   simp only [lay]
   refine wpAnyH_done (by kernel_rfl) ?_ _
   change Code.wp _ _ _ _ _
   refine wp_ret ?_
   simp only [Exit.inBlock, Exit.then]
   have e : kind18 m = ((3, 4, mtu18 m.rest), true) := by
    unfold kind18
    repeat (first|rw [if_pos (by first|assumption|omega)]|rw [if_neg (by first|assumption|omega|exact ne_true_of_eq_false (by assumption))])
    try simp [*]
   exact bodyPost_ret (res_cell2 Try.results47 rfl (hg97.load (P := Try.prog) 43 Try.underlying43 rfl (by kernel_rfl)) rfl) rfl ⟨⟨3, 4, (mtu18 m.rest), by rw [e]; rfl, fun _ => by rw [e]⟩, ((bt (bt hb6 hb13) hb90).trans (hb99.mono (lq hb6 ge11)))⟩
  refine te 7 (.bool false) hS92 rfl (by intro _ _; exact yqn) ?_
  simp only [lay]
  refine t1 2 rfl (ow_same (.int .u16 (mtu18 m.rest)) (by exact xk Try.func26) (rmtu18_any m.rest (by omega) W89) ?_)
  refine ⟨hS92, ?_⟩
  simp only [lay]
  refine te 3 (.int .u32 (mtu18 m.rest)) hS92 rfl (by intro _ _; exact xv (conv_u32 33 22 .u16 (mtu18 m.rest) (by kernel_rfl) Try.underlying22 (by omega) (by omega) _)) ?_
  refine te 4 (.agg #[.int .u8 3, .int .u8 4, .int .u32 (mtu18 m.rest), .slice none 0 0]) hS92 rfl (by intro _ _; kernel_rfl) ?_
  simp only [lay]
  refine t1 8 rfl (ow_st 43 (.tmp 2) (.tmp 43) g8 #[.int .u8 3, .int .u8 4, .int .u32 (mtu18 m.rest), .slice none 0 0] _ _ rfl (by rfl) (by rfl) (hg10.to hb90) (by kernel_rfl) rfl (by kernel_rfl) ?_)
  intro W107 hg108 bs109 hb110
  have z112 := hb110.size
  refine ⟨(Below.trans hS92 hb110), ?_⟩
  have hS113 := (Below.trans hS92 hb110)
  simp only [lay]
  refine te 9 (.bool false) hS113 rfl (by intro _ _; exact xa) ?_
  simp only [lay]
  refine wpAnyH_done (by kernel_rfl) ?_ _
  change Code.wp _ _ _ _ _
  refine wp_ret ?_
  simp only [Exit.inBlock, Exit.then]
  have e : (kind18 m).2 = false := by
   unfold kind18
   repeat (first|rw [if_pos (by first|assumption|omega)]|rw [if_neg (by first|assumption|omega|exact ne_true_of_eq_false (by assumption))])
   try simp [*]
  exact bodyPost_ret (res_cell2 Try.results47 rfl (hg108.load (P := Try.prog) 43 Try.underlying43 rfl (by kernel_rfl)) rfl) rfl ⟨⟨3, 4, (mtu18 m.rest), by rw [e]; rfl, fun h => by rw [e] at h; cases h⟩, ((bt (bt hb6 hb13) hb90).trans (hb110.mono (lq hb6 ge11)))⟩
 refine lv (.bool false) (by exact yqn) ?_
 refine lv (.bool false) (by exact xa) ?_
 simp only [lay]
 refine wn ?_
 refine cF9 ?_
 refine wp_sr ?_
 by_cases q118 : m.ty = 3
 case pos =>
  refine lv (.bool true) (by exact yq) ?_
  refine lv (.bool true) (by exact xa) ?_
  simp only [lay]
  refine wn ?_
  refine cT9 ?_
  refine wp_sr ?_
  refine lv (pq9 g1 1) (by exact xf 1 0 Try.underlying43) ?_
  refine lv (.int .u8 m.code) (by exact xc Try.underlying5 (has15.cell 1 rfl)) ?_
  refine lv (.agg #[.int .u8 11, .int .u8 m.code, .int .u32 0, .slice none 0 0]) (by kernel_rfl) ?_
  simp only [lay]
  refine lz (ow_st 43 (.tmp 2) (.tmp 51) g8 #[.int .u8 11, .int .u8 m.code, .int .u32 0, .slice none 0 0] _ _ rfl (by rfl) (by rfl) hg10 (by kernel_rfl) rfl (by kernel_rfl) ?_)
  intro W119 hg120 bs121 hb122
  have z123 := hb122.size
  simp only [lay]
  refine lv (.bool true) (by exact xa) ?_
  simp only [lay]
  refine wn ?_
  refine wp_ret ?_
  simp only [Exit.inBlock, Exit.then]
  have e : kind18 m = ((11, m.code, 0), true) := by
   unfold kind18
   repeat (first|rw [if_pos (by first|assumption|omega)]|rw [if_neg (by first|assumption|omega|exact ne_true_of_eq_false (by assumption))])
   try simp [*]
  exact bodyPost_ret (res_cell2 Try.results47 rfl (hg120.load (P := Try.prog) 43 Try.underlying43 rfl (by kernel_rfl)) rfl) rfl ⟨⟨11, m.code, 0, by rw [e]; rfl, fun _ => by rw [e]⟩, ((bt hb6 hb13).trans (hb122.mono (lq hb6 ge11)))⟩
 refine lv (.bool false) (by exact yqn) ?_
 refine lv (.bool false) (by exact xa) ?_
 simp only [lay]
 refine wn ?_
 refine cF9 ?_
 refine wp_sr ?_
 by_cases q127 : m.ty = 4
 case pos =>
  refine lv (.bool true) (by exact yq) ?_
  refine lv (.bool true) (by exact xa) ?_
  simp only [lay]
  refine wn ?_
  refine cT9 ?_
  refine wp_sr ?_
  refine lv (pq9 g1 2) (by exact xf 2 0 Try.underlying43) ?_
  refine lv (.int .u32 m.rest) (by exact xc Try.underlying22 (has15.cell 2 rfl)) ?_
  simp only [lay]
  refine lz (ow_same (.tuple #[.int .u8 ((ptr18 m.rest).1), .bool ((ptr18 m.rest).2)]) (by exact xk Try.func24) (rptr18_any m.rest (by omega) W9) ?_)
  simp only [lay]
  refine lv (.tuple #[.int .u8 ((ptr18 m.rest).1), .bool ((ptr18 m.rest).2)]) (by exact xm) ?_
  refine lv (.int .u8 ((ptr18 m.rest).1)) (by exact xe) ?_
  refine lv (.bool ((ptr18 m.rest).2)) (by exact xe) ?_
  refine lv (.int .u8 ((ptr18 m.rest).1)) (by exact xa) ?_
  simp only [lay]
  refine lv (.bool ((ptr18 m.rest).2)) (by exact xa) ?_
  simp only [lay]
  refine wn ?_
  refine wp_seq ?_
  refine wp_sr ?_
  refine lv (pq9 g1 1) (by exact xf 1 0 Try.underlying43) ?_
  refine lv (.int .u8 m.code) (by exact xc Try.underlying5 (has15.cell 1 rfl)) ?_
  simp only [lay]
  by_cases q128 : m.code = 0
  case pos =>
   refine lv (.bool true) (by exact yq) ?_
   simp only [lay]
   refine wn ?_
   refine cT9 ?_
   refine wp_sr ?_
   refine lv (.int .u8 ((ptr18 m.rest).1)) (by exact xm) ?_
   refine lv (.int .u32 ((ptr18 m.rest).1)) (by exact xv (conv_u32 5 22 .u8 ((ptr18 m.rest).1) (by kernel_rfl) Try.underlying22 (in_rng (ptr18_rng hm.rest.1)).1 (in_rng (ptr18_rng hm.rest.1)).2.2 _)) ?_
   refine lv (.int .u32 (((ptr18 m.rest).1) * 16777216)) (by exact xb (w_shl32 _ 24 _ (((ptr18 m.rest).1) * 16777216) rfl (by decide) (by have := (ptr18_rng hm.rest.1); omega) _)) ?_
   refine lv (.agg #[.int .u8 12, .int .u8 0, .int .u32 (((ptr18 m.rest).1) * 16777216), .slice none 0 0]) (by kernel_rfl) ?_
   simp only [lay]
   refine lv (.bool ((ptr18 m.rest).2)) (by exact xm) ?_
   simp only [lay]
   refine lz (ow_st 43 (.tmp 2) (.tmp 66) g8 #[.int .u8 12, .int .u8 0, .int .u32 (((ptr18 m.rest).1) * 16777216), .slice none 0 0] _ _ rfl (by rfl) (by rfl) hg10 (by kernel_rfl) rfl (by kernel_rfl) ?_)
   intro W129 hg130 bs131 hb132
   have z133 := hb132.size
   simp only [lay]
   refine lv (.bool ((ptr18 m.rest).2)) (by exact xa) ?_
   simp only [lay]
   refine wn ?_
   refine wp_ret ?_
   simp only [Exit.inBlock, Exit.then]
   by_cases q134 : (ptr18 m.rest).2 = true
   case pos =>
    rw [q134]
    have e : kind18 m = ((12, 0, ((ptr18 m.rest).1) * 16777216), true) := by
     unfold kind18
     repeat (first|rw [if_pos (by first|assumption|omega)]|rw [if_neg (by first|assumption|omega|exact ne_true_of_eq_false (by assumption))])
     try simp [*]
    exact bodyPost_ret (res_cell2 Try.results47 rfl (hg130.load (P := Try.prog) 43 Try.underlying43 rfl (by kernel_rfl)) rfl) rfl ⟨⟨12, 0, (((ptr18 m.rest).1) * 16777216), by rw [e]; rfl, fun _ => by rw [e]⟩, ((bt hb6 hb13).trans (hb132.mono (lq hb6 ge11)))⟩
   replace q134 := eq_false_of_ne_true q134
   rw [q134]
   have e : (kind18 m).2 = false := by
    unfold kind18
    repeat (first|rw [if_pos (by first|assumption|omega)]|rw [if_neg (by first|assumption|omega|exact ne_true_of_eq_false (by assumption))])
    try simp [*]
   exact bodyPost_ret (res_cell2 Try.results47 rfl (hg130.load (P := Try.prog) 43 Try.underlying43 rfl (by kernel_rfl)) rfl) rfl ⟨⟨12, 0, (((ptr18 m.rest).1) * 16777216), by rw [e]; rfl, fun h => by rw [e] at h; cases h⟩, ((bt hb6 hb13).trans (hb132.mono (lq hb6 ge11)))⟩
  refine lv (.bool false) (by exact yqn) ?_
  simp only [lay]
  refine wn ?_
  refine cF9 ?_
  refine wp_skip ?_
  change Code.wp _ _ _ _ _
  refine wp_seq ?_
  refine rg_drawn g8 (by kernel_rfl) (by omega) ?_
  intro W141 hb142 hs143 hS144
  have z145 := hb142.size
  refine te 0 (.agg #[.int .u8 3, .int .u8 2, .int .u32 0, .slice none 0 0]) hS144 rfl (by intro _ _; kernel_rfl) ?_
  refine te 1 (pq9 g1 1) hS144 rfl (by intro _ _; exact xf 1 0 Try.underlying43) ?_
  simp only [lay]
  have l146 : W2.heap.size ≤ g8 := Nat.le_of_eq ge11.symm
  refine te 2 (.int .u8 m.code) hS144 rfl (by intro _ h; exact xc Try.underlying5 ((hg3.to (hb13.trans (Below.mono h l146))).cell 1 rfl)) ?_
  simp only [lay]
  by_cases q147 : m.code = 1
  case pos =>
   refine te 3 (.bool true) hS144 rfl (by intro _ _; exact yq) ?_
   simp only [lay]
   refine t1 4 rfl (ow_st 43 (.tmp 2) (.tmp 68) g8 #[.int .u8 3, .int .u8 2, .int .u32 0, .slice none 0 0] _ _ rfl (by rfl) (by rfl) (hg10.to hb142) (by kernel_rfl) rfl (by kernel_rfl) ?_)
   intro W148 hg149 bs150 hb151
   have z153 := hb151.size
   refine ⟨(Below.trans hS144 hb151), ?_⟩
   have hS154 := (Below.trans hS144 hb151)
   simp only [lay]
   refine te 5 (.bool true) hS154 rfl (by intro _ _; exact xa) ?_
   simp only [lay]
   refine wpAnyH_done (by kernel_rfl) ?_ _
   change Code.wp _ _ _ _ _
   refine wp_ret ?_
   simp only [Exit.inBlock, Exit.then]
   have e : kind18 m = ((3, 2, 0), true) := by
    unfold kind18
    repeat (first|rw [if_pos (by first|assumption|omega)]|rw [if_neg (by first|assumption|omega|exact ne_true_of_eq_false (by assumption))])
    try simp [*]
   exact bodyPost_ret (res_cell2 Try.results47 rfl (hg149.load (P := Try.prog) 43 Try.underlying43 rfl (by kernel_rfl)) rfl) rfl ⟨⟨3, 2, 0, by rw [e]; rfl, fun _ => by rw [e]⟩, ((bt (bt hb6 hb13) hb142).trans (hb151.mono (lq hb6 ge11)))⟩
  refine te 3 (.bool false) hS144 rfl (by intro _ _; exact yqn) ?_
  simp only [lay]
  refine t1 4 rfl (ow_st 43 (.tmp 2) (.tmp 68) g8 #[.int .u8 3, .int .u8 2, .int .u32 0, .slice none 0 0] _ _ rfl (by rfl) (by rfl) (hg10.to hb142) (by kernel_rfl) rfl (by kernel_rfl) ?_)
  intro W159 hg160 bs161 hb162
  have z164 := hb162.size
  refine ⟨(Below.trans hS144 hb162), ?_⟩
  have hS165 := (Below.trans hS144 hb162)
  simp only [lay]
  refine te 5 (.bool false) hS165 rfl (by intro _ _; exact xa) ?_
  simp only [lay]
  refine wpAnyH_done (by kernel_rfl) ?_ _
  change Code.wp _ _ _ _ _
  refine wp_ret ?_
  simp only [Exit.inBlock, Exit.then]
  have e : (kind18 m).2 = false := by
   unfold kind18
   repeat (first|rw [if_pos (by first|assumption|omega)]|rw [if_neg (by first|assumption|omega|exact ne_true_of_eq_false (by assumption))])
   try simp [*]
  exact bodyPost_ret (res_cell2 Try.results47 rfl (hg160.load (P := Try.prog) 43 Try.underlying43 rfl (by kernel_rfl)) rfl) rfl ⟨⟨3, 2, 0, by rw [e]; rfl, fun h => by rw [e] at h; cases h⟩, ((bt (bt hb6 hb13) hb142).trans (hb162.mono (lq hb6 ge11)))⟩
 refine lv (.bool false) (by exact yqn) ?_
 refine lv (.bool false) (by exact xa) ?_
 simp only [lay]
 refine wn ?_
 refine cF9 ?_
 refine wp_skip ?_
 change Code.wp _ _ _ _ _
 refine wp_sr ?_
 refine lv (.agg #[.int .u8 0, .int .u8 0, .int .u32 0, .slice none 0 0]) (by kernel_rfl) ?_
 simp only [lay]
 refine lz (ow_st 43 (.tmp 2) (.tmp 72) g8 #[.int .u8 0, .int .u8 0, .int .u32 0, .slice none 0 0] _ _ rfl (by rfl) (by rfl) hg10 (by kernel_rfl) rfl (by kernel_rfl) ?_)
 intro W170 hg171 bs172 hb173
 have z174 := hb173.size
 simp only [lay]
 refine lv (.bool false) (by exact xa) ?_
 simp only [lay]
 refine wn ?_
 refine wp_ret ?_
 try simp only [Exit.then]
 have e : (kind18 m).2 = false := by
  unfold kind18
  repeat (first|rw [if_pos (by first|assumption|omega)]|rw [if_neg (by first|assumption|omega|exact ne_true_of_eq_false (by assumption))])
  try simp [*]
 exact bodyPost_ret (res_cell2 Try.results47 rfl (hg171.load (P := Try.prog) 43 Try.underlying43 rfl (by kernel_rfl)) rfl) rfl ⟨⟨0, 0, 0, by rw [e]; rfl, fun h => by rw [e] at h; cases h⟩, ((bt hb6 hb13).trans (hb173.mono (lq hb6 ge11)))⟩
end Go.Proofs.Ytjnphelfloiadaa
