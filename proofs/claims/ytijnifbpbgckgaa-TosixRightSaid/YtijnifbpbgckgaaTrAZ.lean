/-
  Lemmas and walks for the row of TosixRight (part 26 of 33).
-/
import Derived.Test.YtijnifbpbgckgaaTrAF
import Derived.Test.YtijnifbpbgckgaaTrAY
set_option linter.unusedVariables false
set_option linter.unusedSimpArgs false
namespace Go.Proofs.Ytijnifbpbgckgaa
open Go.RowKit Go.Shelf
attribute [local irreducible] wpList Code.wp Oper.wp wpOp wpAnyH

theorem conv_u16m {P : Program} (src dst : TypeId) (k : IntKind) (n : Int) (hs : (P.underlying src).isSome = true) (hd : P.underlying dst = some (.int .u16)) (w : World) : (convert src dst (.int k n)).run P w = .ok (.int .u16 (n % 65536)) w := by
 have hk : P.intKind dst = .u16 := by simp [Program.intKind, hd]
 have := run_convert_int (P := P) w src dst k n hs (by rw [hk]; exact hd)
 rw [hk, IntKind.wrap_u16] at this
 exact this
/-- a message without a body, or a fault of tosix -/
def Kind17 (r : (Int × Int × Int) × Bool) (e : Ending) : Prop := (r.2 = true → e = .returned (.agg ((⟨r.1.1, r.1.2.1, r.1.2.2, []⟩ : D7).cells none 0))) ∧ (r.2 = false → e = Fault17 175)
theorem Kind17.ok {r : (Int × Int × Int) × Bool} {a b c : Int} (h : r = ((a, b, c), true)) : Kind17 r (.returned (.agg #[.int .u8 a, .int .u8 b, .int .u32 c, .slice none 0 0])) := by
 subst h
 exact ⟨fun _ => rfl, fun h => by cases h⟩
theorem Kind17.bad {r : (Int × Int × Int) × Bool} (h : r.2 = false) : Kind17 r (Fault17 175) := ⟨fun h' => (by rw [h] at h'; cases h'), fun _ => rfl⟩

set_option maxRecDepth 100000 in
set_option maxHeartbeats 8000000 in
theorem kind17_any (m : D7) (hm : m.ok) (A : Option Addr) (c : Nat) (w : World) :
  Calls Try.prog 50 #[.agg (m.cells A c)] w fun e w' => Kind17 (kind17 m) e ∧ Below w.heap.size w w' := by
 have r1 := hm.rest
 have r2 := hm.ty
 have r3 := hm.code
 go_enter Try.func50, Try.ntmps50
 refine wp_sr ?_
 refine lz (ow_box 46 (.tmp 0) _ rfl rfl ?_)
 intro g1 W2 hg3 ge4 sz5 hb6
 have z7 := hb6.size
 simp only [lay]
 refine lz (oa #[.int .u8 0, .int .u8 0, .int .u32 0, .slice none 0 0] ?_)
 intro g8 W9 hg10 ge11 sz12 hb13
 have z14 := hb13.size
 simp only [lay]
 refine wn ?_
 refine wp_seq ?_
 refine wp_block ?_
 refine wp_sr ?_
 refine lv (.pointer (some ⟨g1, 0, none⟩)) (by exact xf 0 0 Try.underlying46) ?_
 simp only [lay]
 have has15 := hg3.to hb13
 refine lv (.int .u8 m.ty) (by exact xc Try.underlying5 (has15.cell 0 rfl)) ?_
 simp only [lay]
 by_cases q16 : m.ty = 8
 case pos =>
  refine lv (.bool true) (by exact yq) ?_
  simp only [lay]
  refine lv (.bool true) (by exact xa) ?_
  simp only [lay]
  refine wn ?_
  refine wp_cond_true (by exact rfl) ?_
  refine wp_sr ?_
  refine lv (.pointer (some ⟨g1, 1, none⟩)) (by exact xf 1 0 Try.underlying46) ?_
  simp only [lay]
  refine lv (.int .u8 m.code) (by exact xc Try.underlying5 (has15.cell 1 rfl)) ?_
  simp only [lay]
  refine lv (.pointer (some ⟨g1, 2, none⟩)) (by exact xf 2 0 Try.underlying46) ?_
  simp only [lay]
  refine lv (.int .u32 m.rest) (by exact xc Try.underlying33 (has15.cell 2 rfl)) ?_
  simp only [lay]
  refine lv (.agg #[.int .u8 128, .int .u8 m.code, .int .u32 m.rest, .slice none 0 0]) (by kernel_rfl) ?_
  simp only [lay]
  refine lz (ow_st 46 (.tmp 2) (.tmp 15) g8 #[.int .u8 128, .int .u8 m.code, .int .u32 m.rest, .slice none 0 0] _ _ rfl (by exact rfl) (by exact rfl) hg10 (by kernel_rfl) rfl (by kernel_rfl) ?_)
  intro W17 hg18 bs19 hb20
  have z21 := hb20.size
  simp only [lay]
  refine wn ?_
  refine wp_ret ?_
  simp only [Exit.inBlock, Exit.then]
  have e : kind17 m = ((128, m.code, m.rest), true) := by
   unfold kind17
   repeat (first | rw [if_pos (by first | assumption | omega)] | rw [if_neg (by first | assumption | omega)])
   try simp only [*, Bool.true_and, decide_eq_true_eq, true_or, or_true, decide_true]
  have b22 := bt hb6 hb13
  have l23 := lq hb6 ge11
  have b24 := b22.trans (hb20.mono l23)
  exact bodyPost_ret (res_cell Try.results50 rfl (hg18.load (P := Try.prog) 46 Try.underlying46 rfl (by kernel_rfl))) rfl ⟨Kind17.ok e, b24⟩
 refine lv (.bool false) (by exact yqn) ?_
 simp only [lay]
 refine lv (.bool false) (by exact xa) ?_
 simp only [lay]
 refine wn ?_
 refine wp_cond_false (by exact rfl) ?_
 refine wp_sr ?_
 refine lv (.pointer (some ⟨g1, 0, none⟩)) (by exact xf 0 0 Try.underlying46) ?_
 simp only [lay]
 refine lv (.int .u8 m.ty) (by exact xc Try.underlying5 (has15.cell 0 rfl)) ?_
 simp only [lay]
 by_cases q25 : m.ty = 0
 case pos =>
  refine lv (.bool true) (by exact yq) ?_
  simp only [lay]
  refine lv (.bool true) (by exact xa) ?_
  simp only [lay]
  refine wn ?_
  refine wp_cond_true (by exact rfl) ?_
  refine wp_sr ?_
  refine lv (.pointer (some ⟨g1, 1, none⟩)) (by exact xf 1 0 Try.underlying46) ?_
  simp only [lay]
  refine lv (.int .u8 m.code) (by exact xc Try.underlying5 (has15.cell 1 rfl)) ?_
  simp only [lay]
  refine lv (.pointer (some ⟨g1, 2, none⟩)) (by exact xf 2 0 Try.underlying46) ?_
  simp only [lay]
  refine lv (.int .u32 m.rest) (by exact xc Try.underlying33 (has15.cell 2 rfl)) ?_
  simp only [lay]
  refine lv (.agg #[.int .u8 129, .int .u8 m.code, .int .u32 m.rest, .slice none 0 0]) (by kernel_rfl) ?_
  simp only [lay]
  refine lz (ow_st 46 (.tmp 2) (.tmp 24) g8 #[.int .u8 129, .int .u8 m.code, .int .u32 m.rest, .slice none 0 0] _ _ rfl (by exact rfl) (by exact rfl) hg10 (by kernel_rfl) rfl (by kernel_rfl) ?_)
  intro W26 hg27 bs28 hb29
  have z30 := hb29.size
  simp only [lay]
  refine wn ?_
  refine wp_ret ?_
  simp only [Exit.inBlock, Exit.then]
  have e : kind17 m = ((129, m.code, m.rest), true) := by
   unfold kind17
   repeat (first | rw [if_pos (by first | assumption | omega)] | rw [if_neg (by first | assumption | omega)])
   try simp only [*, Bool.true_and, decide_eq_true_eq, true_or, or_true, decide_true]
  have b31 := bt hb6 hb13
  have l32 := lq hb6 ge11
  have b33 := b31.trans (hb29.mono l32)
  exact bodyPost_ret (res_cell Try.results50 rfl (hg27.load (P := Try.prog) 46 Try.underlying46 rfl (by kernel_rfl))) rfl ⟨Kind17.ok e, b33⟩
 refine lv (.bool false) (by exact yqn) ?_
 simp only [lay]
 refine lv (.bool false) (by exact xa) ?_
 simp only [lay]
 refine wn ?_
 refine wp_cond_false (by exact rfl) ?_
 refine wp_sr ?_
 refine lv (.pointer (some ⟨g1, 0, none⟩)) (by exact xf 0 0 Try.underlying46) ?_
 simp only [lay]
 refine lv (.int .u8 m.ty) (by exact xc Try.underlying5 (has15.cell 0 rfl)) ?_
 simp only [lay]
 by_cases q34 : m.ty = 3
 case pos =>
  refine lv (.bool true) (by exact yq) ?_
  simp only [lay]
  refine lv (.bool true) (by exact xm) ?_
  simp only [lay]
  refine lv (.pointer (some ⟨g1, 1, none⟩)) (by exact xf 1 0 Try.underlying46) ?_
  simp only [lay]
  refine lv (.int .u8 m.code) (by exact xc Try.underlying5 (has15.cell 1 rfl)) ?_
  simp only [lay]
  by_cases q35 : m.code = 2
  case pos =>
   refine lv (.bool true) (by exact yq) ?_
   simp only [lay]
   refine lv (.bool true) (by exact xp (b := true)) ?_
   simp only [lay]
   refine lv (.bool true) (by exact xa) ?_
   simp only [lay]
   refine wn ?_
   refine wp_cond_true (by exact rfl) ?_
   refine wp_sr ?_
   refine lv (.agg #[.int .u8 4, .int .u8 1, .int .u32 6, .slice none 0 0]) (by kernel_rfl) ?_
   simp only [lay]
   refine lz (ow_st 46 (.tmp 2) (.tmp 34) g8 #[.int .u8 4, .int .u8 1, .int .u32 6, .slice none 0 0] _ _ rfl (by exact rfl) (by exact rfl) hg10 (by kernel_rfl) rfl (by kernel_rfl) ?_)
   intro W36 hg37 bs38 hb39
   have z40 := hb39.size
   simp only [lay]
   refine wn ?_
   refine wp_ret ?_
   simp only [Exit.inBlock, Exit.then]
   have e : kind17 m = ((4, 1, 6), true) := by
    unfold kind17
    repeat (first | rw [if_pos (by first | assumption | omega)] | rw [if_neg (by first | assumption | omega)])
    try simp only [*, Bool.true_and, decide_eq_true_eq, true_or, or_true, decide_true]
   have b41 := bt hb6 hb13
   have l42 := lq hb6 ge11
   have b43 := b41.trans (hb39.mono l42)
   exact bodyPost_ret (res_cell Try.results50 rfl (hg37.load (P := Try.prog) 46 Try.underlying46 rfl (by kernel_rfl))) rfl ⟨Kind17.ok e, b43⟩
  refine lv (.bool false) (by exact yqn) ?_
  simp only [lay]
  refine lv (.bool false) (by exact xp (b := true)) ?_
  simp only [lay]
  refine lv (.bool false) (by exact xa) ?_
  simp only [lay]
  refine wn ?_
  refine wp_cond_false (by exact rfl) ?_
  refine wp_sr ?_
  refine lv (.pointer (some ⟨g1, 0, none⟩)) (by exact xf 0 0 Try.underlying46) ?_
  simp only [lay]
  refine lv (.int .u8 m.ty) (by exact xc Try.underlying5 (has15.cell 0 rfl)) ?_
  simp only [lay]
  refine lv (.bool true) (by exact yq) ?_
  simp only [lay]
  refine lv (.bool true) (by exact xm) ?_
  simp only [lay]
  refine lv (.pointer (some ⟨g1, 1, none⟩)) (by exact xf 1 0 Try.underlying46) ?_
  simp only [lay]
  refine lv (.int .u8 m.code) (by exact xc Try.underlying5 (has15.cell 1 rfl)) ?_
  simp only [lay]
  by_cases q45 : m.code = 4
  case pos =>
   refine lv (.bool true) (by exact yq) ?_
   simp only [lay]
   refine lv (.bool true) (by exact xp (b := true)) ?_
   simp only [lay]
   refine lv (.bool true) (by exact xa) ?_
   simp only [lay]
   refine wn ?_
   refine wp_cond_true (by exact rfl) ?_
   refine wp_sr ?_
   refine lv (.pointer (some ⟨g1, 2, none⟩)) (by exact xf 2 0 Try.underlying46) ?_
   simp only [lay]
   refine lv (.int .u32 m.rest) (by exact xc Try.underlying33 (has15.cell 2 rfl)) ?_
   simp only [lay]
   refine lv (.int .u16 (m.rest % 65536)) (by exact xv (conv_u16m _ _ _ _ (by kernel_rfl) Try.underlying22 _)) ?_
   simp only [lay]
   refine lz (ow_same (.int .u32 (mtu17 (m.rest % 65536))) (by exact xk Try.func30) (mtu17_any (m.rest % 65536) (by omega) W9) ?_)
   simp only [lay]
   refine lv (.agg #[.int .u8 2, .int .u8 0, .int .u32 (mtu17 (m.rest % 65536)), .slice none 0 0]) (by kernel_rfl) ?_
   simp only [lay]
   refine lz (ow_st 46 (.tmp 2) (.tmp 48) g8 #[.int .u8 2, .int .u8 0, .int .u32 (mtu17 (m.rest % 65536)), .slice none 0 0] _ _ rfl (by exact rfl) (by exact rfl) hg10 (by kernel_rfl) rfl (by kernel_rfl) ?_)
   intro W46 hg47 bs48 hb49
   have z50 := hb49.size
   simp only [lay]
   refine wn ?_
   refine wp_ret ?_
   simp only [Exit.inBlock, Exit.then]
   have e : kind17 m = ((2, 0, mtu17 (m.rest % 65536)), true) := by
    unfold kind17
    repeat (first | rw [if_pos (by first | assumption | omega)] | rw [if_neg (by first | assumption | omega)])
    try simp only [*, Bool.true_and, decide_eq_true_eq, true_or, or_true, decide_true]
   have b51 := bt hb6 hb13
   have l52 := lq hb6 ge11
   have b53 := b51.trans (hb49.mono l52)
   exact bodyPost_ret (res_cell Try.results50 rfl (hg47.load (P := Try.prog) 46 Try.underlying46 rfl (by kernel_rfl))) rfl ⟨Kind17.ok e, b53⟩
  refine lv (.bool false) (by exact yqn) ?_
  simp only [lay]
  refine lv (.bool false) (by exact xp (b := true)) ?_
  simp only [lay]
  refine lv (.bool false) (by exact xa) ?_
  simp only [lay]
  refine wn ?_
  refine wp_cond_false (by exact rfl) ?_
  refine wp_sr ?_
  refine lv (.pointer (some ⟨g1, 0, none⟩)) (by exact xf 0 0 Try.underlying46) ?_
  simp only [lay]
  refine lv (.int .u8 m.ty) (by exact xc Try.underlying5 (has15.cell 0 rfl)) ?_
  simp only [lay]
  refine lv (.bool true) (by exact yq) ?_
  simp only [lay]
  refine lv (.bool true) (by exact xa) ?_
  simp only [lay]
  refine wn ?_
  refine wp_cond_true (by exact rfl) ?_
  refine wp_sr ?_
  refine lv (.pointer (some ⟨g1, 1, none⟩)) (by exact xf 1 0 Try.underlying46) ?_
  simp only [lay]
  refine lv (.int .u8 m.code) (by exact xc Try.underlying5 (has15.cell 1 rfl)) ?_
  simp only [lay]
  refine lz (ow_same (.tuple #[.int .u8 ((unr17 m.code).1), .bool ((unr17 m.code).2)]) (by exact xk Try.func83) (unr17_any m.code W9) ?_)
  simp only [lay]
  refine lv (.tuple #[.int .u8 ((unr17 m.code).1), .bool ((unr17 m.code).2)]) (by exact xm) ?_
  simp only [lay]
  refine lv (.int .u8 ((unr17 m.code).1)) (by exact xe) ?_
  simp only [lay]
  refine lv (.bool ((unr17 m.code).2)) (by exact xe) ?_
  simp only [lay]
  refine lv (.int .u8 ((unr17 m.code).1)) (by exact xa) ?_
  simp only [lay]
  refine lv (.bool ((unr17 m.code).2)) (by exact xa) ?_
  simp only [lay]
  refine wn ?_
  refine wp_sr ?_
  refine lv (.bool ((unr17 m.code).2)) (by exact xm) ?_
  simp only [lay]
  by_cases q55 : (unr17 m.code).2 = true
  case pos =>
   rw [q55]
   refine lv (.bool false) (by exact ex_not (b := true) (by exact rfl) (by exact rfl)) ?_
   simp only [lay]
   refine lz (ow_same (.tuple #[]) (by exact xk Try.func35) (when17_no 175 W9) ?_)
   simp only [lay]
   refine wn ?_
   refine wp_sr ?_
   refine lv (.int .u8 ((unr17 m.code).1)) (by exact xm) ?_
   simp only [lay]
   refine lv (.agg #[.int .u8 1, .int .u8 ((unr17 m.code).1), .int .u32 0, .slice none 0 0]) (by kernel_rfl) ?_
   simp only [lay]
   refine lz (ow_st 46 (.tmp 2) (.tmp 63) g8 #[.int .u8 1, .int .u8 ((unr17 m.code).1), .int .u32 0, .slice none 0 0] _ _ rfl (by exact rfl) (by exact rfl) hg10 (by kernel_rfl) rfl (by kernel_rfl) ?_)
   intro W56 hg57 bs58 hb59
   have z60 := hb59.size
   simp only [lay]
   refine wn ?_
   refine wp_ret ?_
   simp only [Exit.inBlock, Exit.then]
   have e : kind17 m = ((1, (unr17 m.code).1, 0), true) := by
    unfold kind17
    repeat (first | rw [if_pos (by first | assumption | omega)] | rw [if_neg (by first | assumption | omega)])
    try rw [show (unr17 m.code).2 = true from by assumption]
    try simp only [*, Bool.true_and, decide_eq_true_eq, true_or, or_true, decide_true]
   have b61 := bt hb6 hb13
   have l62 := lq hb6 ge11
   have b63 := b61.trans (hb59.mono l62)
   exact bodyPost_ret (res_cell Try.results50 rfl (hg57.load (P := Try.prog) 46 Try.underlying46 rfl (by kernel_rfl))) rfl ⟨Kind17.ok e, b63⟩
  replace q55 := eq_false_of_ne_true q55
  rw [q55]
  refine lv (.bool true) (by exact ex_not (b := false) (by exact rfl) (by exact rfl)) ?_
  simp only [lay]
  refine lz (ow_panic [{ v := .iface 111 (.agg #[.int .i64 175]), recovered := false }] (fun w' => W9 = w') (by exact xk Try.func35) (when17_yes 175 W9) ?_)
  rintro _ rfl
  have e : (kind17 m).2 = false := by
   unfold kind17
   repeat (first | rw [if_pos (by first | assumption | omega)] | rw [if_neg (by first | assumption | omega)])
   try simp [*]
  have b64 := bt hb6 hb13
  exact ⟨rfl, Kind17.bad e, b64⟩
 refine lv (.bool false) (by exact yqn) ?_
 simp only [lay]
 refine lv (.bool false) (by exact xm) ?_
 simp only [lay]
 refine lzn ?_
 simp only [lay]
 refine lzn ?_
 simp only [lay]
 refine lzn ?_
 simp only [lay]
 refine lv (.bool false) (by exact xp (b := false)) ?_
 simp only [lay]
 refine lv (.bool false) (by exact xa) ?_
 simp only [lay]
 refine wn ?_
 refine wp_cond_false (by exact rfl) ?_
 refine wp_sr ?_
 refine lv (.pointer (some ⟨g1, 0, none⟩)) (by exact xf 0 0 Try.underlying46) ?_
 simp only [lay]
 refine lv (.int .u8 m.ty) (by exact xc Try.underlying5 (has15.cell 0 rfl)) ?_
 simp only [lay]
 refine lv (.bool false) (by exact yqn) ?_
 simp only [lay]
 refine lv (.bool false) (by exact xm) ?_
 simp only [lay]
 refine lzn ?_
 simp only [lay]
 refine lzn ?_
 simp only [lay]
 refine lzn ?_
 simp only [lay]
 refine lv (.bool false) (by exact xp (b := false)) ?_
 simp only [lay]
 refine lv (.bool false) (by exact xa) ?_
 simp only [lay]
 refine wn ?_
 refine wp_cond_false (by exact rfl) ?_
 refine wp_sr ?_
 refine lv (.pointer (some ⟨g1, 0, none⟩)) (by exact xf 0 0 Try.underlying46) ?_
 simp only [lay]
 refine lv (.int .u8 m.ty) (by exact xc Try.underlying5 (has15.cell 0 rfl)) ?_
 simp only [lay]
 refine lv (.bool false) (by exact yqn) ?_
 simp only [lay]
 refine lv (.bool false) (by exact xa) ?_
 simp only [lay]
 refine wn ?_
 refine wp_cond_false (by exact rfl) ?_
 refine wp_sr ?_
 refine lv (.pointer (some ⟨g1, 0, none⟩)) (by exact xf 0 0 Try.underlying46) ?_
 simp only [lay]
 refine lv (.int .u8 m.ty) (by exact xc Try.underlying5 (has15.cell 0 rfl)) ?_
 simp only [lay]
 by_cases q67 : m.ty = 11
 case pos =>
  refine lv (.bool true) (by exact yq) ?_
  simp only [lay]
  refine lv (.bool true) (by exact xa) ?_
  simp only [lay]
  refine wn ?_
  refine wp_cond_true (by exact rfl) ?_
  refine wp_sr ?_
  refine lv (.pointer (some ⟨g1, 1, none⟩)) (by exact xf 1 0 Try.underlying46) ?_
  simp only [lay]
  refine lv (.int .u8 m.code) (by exact xc Try.underlying5 (has15.cell 1 rfl)) ?_
  simp only [lay]
  refine lv (.agg #[.int .u8 3, .int .u8 m.code, .int .u32 0, .slice none 0 0]) (by kernel_rfl) ?_
  simp only [lay]
  refine lz (ow_st 46 (.tmp 2) (.tmp 70) g8 #[.int .u8 3, .int .u8 m.code, .int .u32 0, .slice none 0 0] _ _ rfl (by exact rfl) (by exact rfl) hg10 (by kernel_rfl) rfl (by kernel_rfl) ?_)
  intro W68 hg69 bs70 hb71
  have z72 := hb71.size
  simp only [lay]
  refine wn ?_
  refine wp_ret ?_
  simp only [Exit.inBlock, Exit.then]
  have e : kind17 m = ((3, m.code, 0), true) := by
   unfold kind17
   repeat (first | rw [if_pos (by first | assumption | omega)] | rw [if_neg (by first | assumption | omega)])
   try simp only [*, Bool.true_and, decide_eq_true_eq, true_or, or_true, decide_true]
  have b73 := bt hb6 hb13
  have l74 := lq hb6 ge11
  have b75 := b73.trans (hb71.mono l74)
  exact bodyPost_ret (res_cell Try.results50 rfl (hg69.load (P := Try.prog) 46 Try.underlying46 rfl (by kernel_rfl))) rfl ⟨Kind17.ok e, b75⟩
 refine lv (.bool false) (by exact yqn) ?_
 simp only [lay]
 refine lv (.bool false) (by exact xa) ?_
 simp only [lay]
 refine wn ?_
 refine wp_cond_false (by exact rfl) ?_
 refine wp_sr ?_
 refine lv (.pointer (some ⟨g1, 0, none⟩)) (by exact xf 0 0 Try.underlying46) ?_
 simp only [lay]
 refine lv (.int .u8 m.ty) (by exact xc Try.underlying5 (has15.cell 0 rfl)) ?_
 simp only [lay]
 by_cases q76 : m.ty = 12
 case pos =>
  refine lv (.bool true) (by exact yq) ?_
  simp only [lay]
  refine lv (.bool true) (by exact xm) ?_
  simp only [lay]
  refine lv (.pointer (some ⟨g1, 1, none⟩)) (by exact xf 1 0 Try.underlying46) ?_
  simp only [lay]
  refine lv (.int .u8 m.code) (by exact xc Try.underlying5 (has15.cell 1 rfl)) ?_
  simp only [lay]
  by_cases q77 : m.code = 0
  case pos =>
   refine lv (.bool true) (by exact yq) ?_
   simp only [lay]
   refine lv (.bool true) (by exact xm) ?_
   simp only [lay]
   refine lzn ?_
   simp only [lay]
   refine lzn ?_
   simp only [lay]
   refine lzn ?_
   simp only [lay]
   refine lv (.bool true) (by exact xp (b := true)) ?_
   simp only [lay]
   refine lv (.bool true) (by exact xp (b := true)) ?_
   simp only [lay]
   refine lv (.bool true) (by exact xa) ?_
   simp only [lay]
   refine wn ?_
   refine wp_cond_true (by exact rfl) ?_
   refine wp_sr ?_
   refine lv (.pointer (some ⟨g1, 2, none⟩)) (by exact xf 2 0 Try.underlying46) ?_
   simp only [lay]
   refine lv (.int .u32 m.rest) (by exact xc Try.underlying33 (has15.cell 2 rfl)) ?_
   simp only [lay]
   refine lv (.int .u32 (m.rest / 16777216)) (by exact xb (b_shr .u32 _ 24 _ rfl (by decide) _)) ?_
   simp only [lay]
   refine lv (.int .u8 (m.rest / 16777216)) (by exact xv (conv_u8' _ _ _ _ (by kernel_rfl) Try.underlying5 (by omega) _)) ?_
   simp only [lay]
   refine lz (ow_same (.tuple #[.int .u32 ((ptr17 (m.rest / 16777216)).1), .bool ((ptr17 (m.rest / 16777216)).2)]) (by exact xk Try.func28) (ptr17_any (m.rest / 16777216) (by omega) W9) ?_)
   simp only [lay]
   refine lv (.tuple #[.int .u32 ((ptr17 (m.rest / 16777216)).1), .bool ((ptr17 (m.rest / 16777216)).2)]) (by exact xm) ?_
   simp only [lay]
   refine lv (.int .u32 ((ptr17 (m.rest / 16777216)).1)) (by exact xe) ?_
   simp only [lay]
   refine lv (.bool ((ptr17 (m.rest / 16777216)).2)) (by exact xe) ?_
   simp only [lay]
   refine lv (.int .u32 ((ptr17 (m.rest / 16777216)).1)) (by exact xa) ?_
   simp only [lay]
   refine lv (.bool ((ptr17 (m.rest / 16777216)).2)) (by exact xa) ?_
   simp only [lay]
   refine wn ?_
   refine wp_sr ?_
   refine lv (.bool ((ptr17 (m.rest / 16777216)).2)) (by exact xm) ?_
   simp only [lay]
   by_cases q78 : (ptr17 (m.rest / 16777216)).2 = true
   case pos =>
    rw [q78]
    refine lv (.bool false) (by exact ex_not (b := true) (by exact rfl) (by exact rfl)) ?_
    simp only [lay]
    refine lz (ow_same (.tuple #[]) (by exact xk Try.func35) (when17_no 175 W9) ?_)
    simp only [lay]
    refine wn ?_
    refine wp_sr ?_
    refine lv (.int .u32 ((ptr17 (m.rest / 16777216)).1)) (by exact xm) ?_
    simp only [lay]
    refine lv (.agg #[.int .u8 4, .int .u8 0, .int .u32 ((ptr17 (m.rest / 16777216)).1), .slice none 0 0]) (by kernel_rfl) ?_
    simp only [lay]
    refine lz (ow_st 46 (.tmp 2) (.tmp 97) g8 #[.int .u8 4, .int .u8 0, .int .u32 ((ptr17 (m.rest / 16777216)).1), .slice none 0 0] _ _ rfl (by exact rfl) (by exact rfl) hg10 (by kernel_rfl) rfl (by kernel_rfl) ?_)
    intro W79 hg80 bs81 hb82
    have z83 := hb82.size
    simp only [lay]
    refine wn ?_
    refine wp_ret ?_
    simp only [Exit.inBlock, Exit.then]
    have e : kind17 m = ((4, 0, (ptr17 (m.rest / 16777216)).1), true) := by
     unfold kind17
     repeat (first | rw [if_pos (by first | assumption | omega)] | rw [if_neg (by first | assumption | omega)])
     try rw [show (ptr17 (m.rest / 16777216)).2 = true from by assumption]
     try simp only [*, Bool.true_and, decide_eq_true_eq, true_or, or_true, decide_true]
    have b84 := bt hb6 hb13
    have l85 := lq hb6 ge11
    have b86 := b84.trans (hb82.mono l85)
    exact bodyPost_ret (res_cell Try.results50 rfl (hg80.load (P := Try.prog) 46 Try.underlying46 rfl (by kernel_rfl))) rfl ⟨Kind17.ok e, b86⟩
   replace q78 := eq_false_of_ne_true q78
   rw [q78]
   refine lv (.bool true) (by exact ex_not (b := false) (by exact rfl) (by exact rfl)) ?_
   simp only [lay]
   refine lz (ow_panic [{ v := .iface 111 (.agg #[.int .i64 175]), recovered := false }] (fun w' => W9 = w') (by exact xk Try.func35) (when17_yes 175 W9) ?_)
   rintro _ rfl
   have e : (kind17 m).2 = false := by
    unfold kind17
    repeat (first | rw [if_pos (by first | assumption | omega)] | rw [if_neg (by first | assumption | omega)])
    try simp [*]
   have b87 := bt hb6 hb13
   exact ⟨rfl, Kind17.bad e, b87⟩
  refine lv (.bool false) (by exact yqn) ?_
  simp only [lay]
  refine lv (.bool false) (by exact xm) ?_
  simp only [lay]
  refine lv (.pointer (some ⟨g1, 1, none⟩)) (by exact xf 1 0 Try.underlying46) ?_
  simp only [lay]
  refine lv (.int .u8 m.code) (by exact xc Try.underlying5 (has15.cell 1 rfl)) ?_
  simp only [lay]
  by_cases q88 : m.code = 2
  case pos =>
   refine lv (.bool true) (by exact yq) ?_
   simp only [lay]
   refine lv (.bool true) (by exact xp (b := false)) ?_
   simp only [lay]
   refine lv (.bool true) (by exact xp (b := true)) ?_
   simp only [lay]
   refine lv (.bool true) (by exact xa) ?_
   simp only [lay]
   refine wn ?_
   refine wp_cond_true (by exact rfl) ?_
   refine wp_sr ?_
   refine lv (.pointer (some ⟨g1, 2, none⟩)) (by exact xf 2 0 Try.underlying46) ?_
   simp only [lay]
   refine lv (.int .u32 m.rest) (by exact xc Try.underlying33 (has15.cell 2 rfl)) ?_
   simp only [lay]
   refine lv (.int .u32 (m.rest / 16777216)) (by exact xb (b_shr .u32 _ 24 _ rfl (by decide) _)) ?_
   simp only [lay]
   refine lv (.int .u8 (m.rest / 16777216)) (by exact xv (conv_u8' _ _ _ _ (by kernel_rfl) Try.underlying5 (by omega) _)) ?_
   simp only [lay]
   refine lz (ow_same (.tuple #[.int .u32 ((ptr17 (m.rest / 16777216)).1), .bool ((ptr17 (m.rest / 16777216)).2)]) (by exact xk Try.func28) (ptr17_any (m.rest / 16777216) (by omega) W9) ?_)
   simp only [lay]
   refine lv (.tuple #[.int .u32 ((ptr17 (m.rest / 16777216)).1), .bool ((ptr17 (m.rest / 16777216)).2)]) (by exact xm) ?_
   simp only [lay]
   refine lv (.int .u32 ((ptr17 (m.rest / 16777216)).1)) (by exact xe) ?_
   simp only [lay]
   refine lv (.bool ((ptr17 (m.rest / 16777216)).2)) (by exact xe) ?_
   simp only [lay]
   refine lv (.int .u32 ((ptr17 (m.rest / 16777216)).1)) (by exact xa) ?_
   simp only [lay]
   refine lv (.bool ((ptr17 (m.rest / 16777216)).2)) (by exact xa) ?_
   simp only [lay]
   refine wn ?_
   refine wp_sr ?_
   refine lv (.bool ((ptr17 (m.rest / 16777216)).2)) (by exact xm) ?_
   simp only [lay]
   by_cases q89 : (ptr17 (m.rest / 16777216)).2 = true
   case pos =>
    rw [q89]
    refine lv (.bool false) (by exact ex_not (b := true) (by exact rfl) (by exact rfl)) ?_
    simp only [lay]
    refine lz (ow_same (.tuple #[]) (by exact xk Try.func35) (when17_no 175 W9) ?_)
    simp only [lay]
    refine wn ?_
    refine wp_sr ?_
    refine lv (.int .u32 ((ptr17 (m.rest / 16777216)).1)) (by exact xm) ?_
    simp only [lay]
    refine lv (.agg #[.int .u8 4, .int .u8 0, .int .u32 ((ptr17 (m.rest / 16777216)).1), .slice none 0 0]) (by kernel_rfl) ?_
    simp only [lay]
    refine lz (ow_st 46 (.tmp 2) (.tmp 97) g8 #[.int .u8 4, .int .u8 0, .int .u32 ((ptr17 (m.rest / 16777216)).1), .slice none 0 0] _ _ rfl (by exact rfl) (by exact rfl) hg10 (by kernel_rfl) rfl (by kernel_rfl) ?_)
    intro W90 hg91 bs92 hb93
    have z94 := hb93.size
    simp only [lay]
    refine wn ?_
    refine wp_ret ?_
    simp only [Exit.inBlock, Exit.then]
    have e : kind17 m = ((4, 0, (ptr17 (m.rest / 16777216)).1), true) := by
     unfold kind17
     repeat (first | rw [if_pos (by first | assumption | omega)] | rw [if_neg (by first | assumption | omega)])
     try rw [show (ptr17 (m.rest / 16777216)).2 = true from by assumption]
     try simp only [*, Bool.true_and, decide_eq_true_eq, true_or, or_true, decide_true]
    have b95 := bt hb6 hb13
    have l96 := lq hb6 ge11
    have b97 := b95.trans (hb93.mono l96)
    exact bodyPost_ret (res_cell Try.results50 rfl (hg91.load (P := Try.prog) 46 Try.underlying46 rfl (by kernel_rfl))) rfl ⟨Kind17.ok e, b97⟩
   replace q89 := eq_false_of_ne_true q89
   rw [q89]
   refine lv (.bool true) (by exact ex_not (b := false) (by exact rfl) (by exact rfl)) ?_
   simp only [lay]
   refine lz (ow_panic [{ v := .iface 111 (.agg #[.int .i64 175]), recovered := false }] (fun w' => W9 = w') (by exact xk Try.func35) (when17_yes 175 W9) ?_)
   rintro _ rfl
   have e : (kind17 m).2 = false := by
    unfold kind17
    repeat (first | rw [if_pos (by first | assumption | omega)] | rw [if_neg (by first | assumption | omega)])
    try simp [*]
   have b98 := bt hb6 hb13
   exact ⟨rfl, Kind17.bad e, b98⟩
  refine lv (.bool false) (by exact yqn) ?_
  simp only [lay]
  refine lv (.bool false) (by exact xp (b := false)) ?_
  simp only [lay]
  refine lv (.bool false) (by exact xp (b := true)) ?_
  simp only [lay]
  refine lv (.bool false) (by exact xa) ?_
  simp only [lay]
  refine wn ?_
  refine wp_cond_false (by exact rfl) ?_
  refine wp_skip ?_
  change Code.wp _ _ _ _ _
  refine wp_region_lit ?_
  refine lv (.agg #[.int .i64 175]) (by kernel_rfl) ?_
  simp only [lay]
  refine lv (.iface 111 (.agg #[.int .i64 175])) (by kernel_rfl) ?_
  simp only [lay]
  refine lz (ow_raise _ _ rfl (by exact rfl) ?_)
  have e : (kind17 m).2 = false := by
   unfold kind17
   repeat (first | rw [if_pos (by first | assumption | omega)] | rw [if_neg (by first | assumption | omega)])
   try simp [*]
  have b99 := bt hb6 hb13
  exact ⟨rfl, Kind17.bad e, b99⟩
 refine lv (.bool false) (by exact yqn) ?_
 simp only [lay]
 refine lv (.bool false) (by exact xm) ?_
 simp only [lay]
 refine lzn ?_
 simp only [lay]
 refine lzn ?_
 simp only [lay]
 refine lzn ?_
 simp only [lay]
 refine lzn ?_
 simp only [lay]
 refine lzn ?_
 simp only [lay]
 refine lzn ?_
 simp only [lay]
 refine lzn ?_
 simp only [lay]
 refine lzn ?_
 simp only [lay]
 refine lv (.bool false) (by exact xp (b := false)) ?_
 simp only [lay]
 refine lv (.bool false) (by exact xa) ?_
 simp only [lay]
 refine wn ?_
 refine wp_cond_false (by exact rfl) ?_
 refine wp_skip ?_
 change Code.wp _ _ _ _ _
 refine wp_region_lit ?_
 refine lv (.agg #[.int .i64 175]) (by kernel_rfl) ?_
 simp only [lay]
 refine lv (.iface 111 (.agg #[.int .i64 175])) (by kernel_rfl) ?_
 simp only [lay]
 refine lz (ow_raise _ _ rfl (by exact rfl) ?_)
 have e : (kind17 m).2 = false := by
  unfold kind17
  repeat (first | rw [if_pos (by first | assumption | omega)] | rw [if_neg (by first | assumption | omega)])
  try simp [*]
 have b100 := bt hb6 hb13
 exact ⟨rfl, Kind17.bad e, b100⟩
end Go.Proofs.Ytijnifbpbgckgaa
namespace Go.Proofs.Ytijnifbpbgckgaa
open Go.RowKit Go.Shelf

theorem OwnB.take {w : World} {base n c : Nat} {A : Option Addr} {l : List Int} (h : OwnB w base (.slice A n c) l) {k : Nat} (hk : k ≤ n) : OwnB w base (.slice A k c) (l.take k) := by
  have hn := own_len h
  have hl : (l.take k).length = k := by rw [List.length_take]; omega
  refine ⟨?_, h.rng.take k⟩
  obtain ⟨h0, h1⟩ := h.own
  refine ⟨by rw [u8s_length, hl, Nat.mul_one], ?_⟩
  rw [hl]
  rcases h1 with ⟨hv, hz⟩ | ⟨g, cap, cur, hv, hb, hh, h2, h3, h4, h5⟩
  · injection hv with e1 e2 e3
    subst e1 e2 e3
    obtain rfl : k = 0 := by omega
    exact .inl ⟨rfl, rfl⟩
  · injection hv with e1 e2 e3
    subst e1 e2 e3
    refine .inr ⟨g, c, cur, rfl, hb, hh, by omega, h3, h4, ?_⟩
    rw [u8s, List.map_take, ← u8s, ← h5, List.take_take, Nat.mul_one, Nat.mul_one, Nat.min_eq_left (by omega)]
theorem own_norm {w : World} {base n c : Nat} {A : Option Addr} {l : List Int} (h : OwnB w base (.slice A n c) l) : OwnB w base (.slice A l.length c) l := by
  have hn := own_len h
  subst hn
  exact h
theorem head17_ok {d : D4} (hd : d.ok) {s t bl : List Int} (hE : E6ok s t) : (head17 d s t bl).ok := by
  have h1 := hd.id
  have h2 := hd.off
  refine ⟨hd.tos, by simp [head17], hd.ttl, hE.sL, hE.s, hE.tL, hE.t, ?_, ?_, ?_⟩
  · simp only [head17]
    split <;> omega
  · simp only [head17]
    split <;> omega
  · have := hd.proto
    simp only [head17, pro17]
    split <;> omega
def pB6 (A : Option Addr) (c : Nat) : W6 := ⟨none, 0, [], A, c⟩
theorem head17_rd {B : Nat} {w : World} {d : D4} (hd : d.ok) {s t bl : List Int} (hE : E6ok s t) {A : Option Addr} {c : Nat} (y : By B w A bl.length c bl) : Rd6 B w (head17 d s t bl) (pB6 A c) :=
  ⟨head17_ok hd hE, rfl, Kds.nil _ _, y⟩
theorem head17_rd0 {w : World} {d : D4} (hd : d.ok) {s t : List Int} (hE : E6ok s t) : Rd6 w.heap.size w (head17 d s t []) pZ6 :=
  ⟨head17_ok hd hE, rfl, Kds.nil _ _, By.nil _ _ none (by decide)⟩
theorem head17_own {w : World} {base : Nat} {d : D4} (hd : d.ok) {s t bl : List Int} (hE : E6ok s t) {A : Option Addr} {c : Nat} (y : OwnB w base (.slice A bl.length c) bl) : Own6 w base (head17 d s t bl) (pB6 A c) :=
  ⟨head17_ok hd hE, OwnK.nil _ _ _, rfl, y⟩
theorem head17_ahead (d : D4) (s t bl : List Int) : (head17 d s t bl).ahead = 40 + (if d.part then 8 else 0) := by
  show 40 + hsz [] + (if d.part = true then 8 else 0) = _
  cases d.part <;> rfl
theorem part_false {d : D4} (h : d.part = false) : d.mf = false ∧ d.off ≤ 0 := by
  unfold D4.part at h
  simp only [Bool.or_eq_false_iff, decide_eq_false_iff_not] at h
  exact ⟨h.1, by omega⟩
theorem head17_right {d : D4} (ho : 0 ≤ d.off ∧ d.off ≤ 8191) (hw : wrong17 d.proto = false) (s t bl : List Int) : (head17 d s t bl).right = true := by
  have hp : extra6 (pro17 d.proto) = false ∧ pro17 d.proto ≠ 44 := by
    rw [wrong17, decide_eq_false_iff_not] at hw
    unfold extra6 pro17
    constructor
    · rw [decide_eq_false_iff_not]
      split <;> omega
    · split <;> omega
  simp only [D6.right, Bool.and_eq_true, decide_eq_true_eq]
  refine ⟨by simp [head17], by simp [head17], by simp [head17, okH], ?_⟩
  simp only [D6.tail, head17]
  by_cases hq : d.part = true
  · simp only [hq, if_true]
    simp [ho.1, ho.2]
  · have hq := eq_false_of_ne_true hq
    simp only [hq, Bool.false_eq_true, if_false]
    simp [hp.1, hp.2, (part_false hq).1]
theorem head17_check {d : D4} (ho : 0 ≤ d.off ∧ d.off ≤ 8191) (hw : wrong17 d.proto = false) (s t bl : List Int) : (head17 d s t bl).check = if 65535 < bl.length + (if d.part then 8 else 0) then 2 else 0 := by
  unfold D6.check
  rw [if_neg (by rw [head17_right ho hw]; decide), head17_ahead]
  have : (head17 d s t bl).bl = bl := rfl
  rw [this, show 40 + (if d.part = true then 8 else 0) - 40 = (if d.part = true then 8 else 0) from by omega]
theorem said17_rng {l : List Int} (hl : InB l) (h : pe4 true l = 0) : 0 ≤ said17 l ∧ said17 l < 65536 ∧ (of4 l).bl.length ≤ 65535 ∧ (0 ≤ (of4 l).off ∧ (of4 l).off ≤ 8191) ∧ (of4 l).ol.length ≤ 40 := by
  obtain ⟨h1, h2, h3, h4, _, h6, _⟩ := pe4_zero h
  have h6 := h6 rfl
  have t0 := getD_byte hl 0
  have t2 := getD_byte hl 2
  have t3 := getD_byte hl 3
  have t6 := getD_byte hl 6
  have t7 := getD_byte hl 7
  have ho : (of4 l).ol.length = (hl4 l).toNat - 20 := by simp only [of4, List.length_take, List.length_drop]; omega
  have hb : (of4 l).bl.length = l.length - (hl4 l).toNat := by simp only [of4, List.length_drop]
  unfold said17
  rw [ho]
  refine ⟨?_, ?_, ?_, ?_, ?_⟩
  · omega
  · unfold tot4; omega
  · rw [hb]; unfold tot4 at h6; omega
  · simp only [of4]; omega
  · unfold hl4 at *; omega
end Go.Proofs.Ytijnifbpbgckgaa
