/-
  Lemmas and walks for the row of TosixTells (part 36 of 39).
-/
import Derived.Test.YtijnifbpbgckgaaTtAD
import Derived.Test.YtijnifbpbgckgaaTtAF
import Derived.Test.YtijnifbpbgckgaaTtAG
import Derived.Test.YtijnifbpbgckgaaTtAL
import Derived.Test.YtijnifbpbgckgaaTtAW
import Derived.Test.YtijnifbpbgckgaaTtAX
import Derived.Test.YtijnifbpbgckgaaTtBB
import Derived.Test.YtijnifbpbgckgaaTtBD
import Derived.Test.YtijnifbpbgckgaaTtBG
import Derived.Test.YtijnifbpbgckgaaTtBH
import Derived.Test.YtijnifbpbgckgaaTtBI
import Derived.Lib.AppendZeros
set_option linter.unusedVariables false
set_option linter.unusedSimpArgs false
namespace Go.Proofs.Ytijnifbpbgckgaa
open Go.RowKit Go.Shelf

section
variable {P : Program}
theorem w_shl32 (t : TypeId) (n : Nat) (x z : Int) (hz : x * 2 ^ n = z) (hn : n ≤ 32) (h : 0 ≤ z ∧ z < 4294967296) (w : World) : (binOp .shl t (.int .u32 x) (.int .u64 (n : Int))).run P w = .ok (.int .u32 z) w := by
  have hh := shift_shl .u32 .u64 x (n : Int) (Int.natCast_nonneg n) (by exact_mod_cast hn)
  rw [binOp_shl, hh, Int.toNat_natCast, hz, IntKind.wrap_u32]
  rw [Int.emod_eq_of_lt h.1 h.2]
  rfl
end
theorem rfold2 {g n1 n2 c1 c2 : Nat} {A1 A2 : Option Addr} {l1 l2 : List Int} {w : World} (h : Has w g (.cells #[.slice A1 n1 c1, .slice A2 n2 c2] 25 (0, 0))) (y1 : By w.heap.size w A1 n1 c1 l1) (y2 : By w.heap.size w A2 n2 c2 l2) (hb : n1 + n2 ≤ 8796093022208) :
    Calls Try.prog 60 #[.slice (some ⟨g, 0, none⟩) 2 2] w fun e w' => ∃ v, e = .returned v ∧ v = .int .u16 (sumw (l1 ++ l2)) ∧ Below w.heap.size w w' := by
  obtain rfl := y1.len
  obtain rfl := y2.len
  refine (rfold_any (some ⟨g, 0, none⟩) 2 [(A1, c1, l1), (A2, c2, l2)] w (Parts.blk h (Nat.le_refl _) rfl (all2 y1 y2) (by simp)) (by rw [flat2, List.length_append]; exact hb)).mono fun e w' h => ?_
  rw [flat2] at h
  exact ⟨_, h.1, rfl, h.2⟩
theorem rcheck_x {d : D4} {p : W4} {w : World} (hR : Rd4 w.heap.size w d p) : Calls Try.prog 25 #[.agg (d.cells p)] w fun e w' => ∃ v, e = .returned v ∧ v = .int .i64 d.check ∧ Below w.heap.size w w' := by
  refine (rcheck_any d p w (Nat.le_trans hR.opt.cap hR.opt.big) (Nat.le_trans hR.body.cap hR.body.big)).mono fun e w' h => ?_
  obtain ⟨⟨q, rfl, hq⟩, hb⟩ := h
  exact ⟨_, rfl, by rw [hq.out], hb⟩
theorem rpart_x {A : Option Addr} {n c : Nat} {l : List Int} {w : World} (y : By w.heap.size w A n c l) :
    Calls Try.prog 56 #[.slice A n c] w fun e w' => ∃ v, e = .returned v ∧ (∃ p, v = .tuple #[.agg ((got4 true l).cells p), .int .i64 (pat4 (pe4 true l)), .int .i64 (pe4 true l)] ∧ Own4 w' w.heap.size (got4 true l) p) ∧ Below w.heap.size w w' := by
  obtain rfl := y.len
  refine (rpart4_any A c l w y).mono fun e w' h => ?_
  obtain ⟨⟨p, a', s', rfl, ha, hs, ho⟩, hb⟩ := h
  exact ⟨_, rfl, ⟨p, by rw [ha.out, hs.out], ho⟩, hb⟩
end Go.Proofs.Ytijnifbpbgckgaa
namespace Go.Proofs.Ytijnifbpbgckgaa
open Go.RowKit Go.Shelf
attribute [local irreducible] wpList Code.wp Oper.wp wpOp wpAnyH

/-- a row of its own and a number -/
def TwoR (r : List Int × Int) (base : Nat) (w' : World) (e : Ending) : Prop := ∃ v, e = .returned (.tuple #[v, .int .i64 r.2]) ∧ OwnB w' base v r.1
theorem TwoR.ok {r : List Int × Int} {base : Nat} {w' : World} {v : Value} {l : List Int} {k : Int} (h : r = (l, k)) (hO : OwnB w' base v l) : TwoR r base w' (.returned (.tuple #[v, .int .i64 k])) := by
 subst h
 exact ⟨v, rfl, hO⟩
end Go.Proofs.Ytijnifbpbgckgaa
namespace Go.Proofs.Ytijnifbpbgckgaa
open Go.RowKit Go.Shelf
attribute [local irreducible] wpList Code.wp Oper.wp wpOp wpAnyH

/-- a message without a body, and whether it has a meaning -/
def KindR (r : (Int × Int × Int) × Bool) (e : Ending) : Prop := ∃ a b c, e = .returned (.tuple #[.agg #[.int .u8 a, .int .u8 b, .int .u32 c, .slice none 0 0], .bool r.2]) ∧ (r.2 = true → r.1 = (a, b, c))
theorem KindR.mk {r : (Int × Int × Int) × Bool} {a b c : Int} {q : Bool} (h : r.2 = q) (h' : q = true → r.1 = (a, b, c)) : KindR r (.returned (.tuple #[.agg #[.int .u8 a, .int .u8 b, .int .u32 c, .slice none 0 0], .bool q])) := by
 subst h
 exact ⟨a, b, c, rfl, h'⟩

end Go.Proofs.Ytijnifbpbgckgaa
namespace Go.Proofs.Ytijnifbpbgckgaa
open Go.RowKit Go.Shelf
attribute [local irreducible] wpList Code.wp Oper.wp wpOp wpAnyH

set_option maxRecDepth 100000 in
theorem rsize7_any (A : Option Addr) (n c : Nat) (w : World) (hn : n ≤ 9223372036854775807) :
  Calls Try.prog 62 #[.slice A n c] w fun e w' => e = .returned (.int .i64 (szerr n)) ∧ w = w' := by
 go_enter Try.func62, Try.ntmps62
 refine wp_sr ?_
 refine lv (.int .i64 0) (by exact xa) ?_
 simp only [lay]
 refine wn ?_
 refine wp_seq ?_
 refine wp_sr ?_
 refine lv (.slice A n c) (by exact xm) ?_
 simp only [lay]
 refine lv (.int .i64 (n : Int)) (by exact xz Try.underlying25) ?_
 simp only [lay]
 by_cases q1 : (n : Int) < 8
 case pos =>
  refine lv (.bool true) (by exact ex_lss (by exact rfl) (by exact rfl) (by exact rfl) (decide_eq_true (by first | assumption | omega | decide))) ?_
  simp only [lay]
  refine wn ?_
  refine wp_cond_true (by exact rfl) ?_
  refine wp_sr ?_
  refine lv (.int .i64 70) (by exact xa) ?_
  simp only [lay]
  refine wn ?_
  refine wp_ret ?_
  try simp only [Exit.then]
  have e : szerr n = 70 := by unfold szerr; repeat (first | rw [if_pos (by first | assumption | omega)] | rw [if_neg (by first | assumption | omega)])
  exact bodyPost_ret (res_one Try.results62 rfl) rfl ⟨by rw [e]; rfl, rfl⟩
 refine lv (.bool false) (by exact ex_lss (by exact rfl) (by exact rfl) (by exact rfl) (decide_eq_false (by first | assumption | omega | decide))) ?_
 simp only [lay]
 refine wn ?_
 refine wp_cond_false (by exact rfl) ?_
 refine wp_skip ?_
 change Code.wp _ _ _ _ _
 refine wp_seq ?_
 refine wp_sr ?_
 refine lv (.slice A n c) (by exact xm) ?_
 simp only [lay]
 refine lv (.int .i64 (n : Int)) (by exact xz Try.underlying25) ?_
 simp only [lay]
 by_cases q2 : (n : Int) > 65535
 case pos =>
  refine lv (.bool true) (by exact ex_gtr (by exact rfl) (by exact rfl) (by exact rfl) (decide_eq_true (by first | assumption | omega | decide))) ?_
  simp only [lay]
  refine wn ?_
  refine wp_cond_true (by exact rfl) ?_
  refine wp_sr ?_
  refine lv (.int .i64 2) (by exact xa) ?_
  simp only [lay]
  refine wn ?_
  refine wp_ret ?_
  try simp only [Exit.then]
  have e : szerr n = 2 := by unfold szerr; repeat (first | rw [if_pos (by first | assumption | omega)] | rw [if_neg (by first | assumption | omega)])
  exact bodyPost_ret (res_one Try.results62 rfl) rfl ⟨by rw [e]; rfl, rfl⟩
 refine lv (.bool false) (by exact ex_gtr (by exact rfl) (by exact rfl) (by exact rfl) (decide_eq_false (by first | assumption | omega | decide))) ?_
 simp only [lay]
 refine wn ?_
 refine wp_cond_false (by exact rfl) ?_
 refine wp_skip ?_
 change Code.wp _ _ _ _ _
 refine wp_sr ?_
 refine lv (.int .i64 0) (by exact xa) ?_
 simp only [lay]
 refine wn ?_
 refine wp_ret ?_
 try simp only [Exit.then]
 have e : szerr n = 0 := by unfold szerr; repeat (first | rw [if_pos (by first | assumption | omega)] | rw [if_neg (by first | assumption | omega)])
 exact bodyPost_ret (res_one Try.results62 rfl) rfl ⟨by rw [e]; rfl, rfl⟩
theorem szerr_zero {n : Nat} (h : szerr n = 0) : 8 ≤ n ∧ n ≤ 65535 := by
 unfold szerr at h
 split at h
 ·cases h
 ·split at h
  ·cases h
  ·omega
theorem szerr_bad {n : Nat} {l : List Int} (hl : l.length = n) (h : ¬ szerr n = 0) : parse7 l [] = zero7 ∧ perr7 l [] = szerr n := by
 unfold parse7 perr7
 unfold szerr at h ⊢
 rw [hl]
 by_cases h1 : n < 8
 ·rw [if_pos (.inl h1), if_pos h1, if_pos h1]
  exact ⟨rfl, rfl⟩
 ·rw [if_neg h1] at h
  by_cases h2 : 65535 < n
  ·rw [if_pos (.inr (.inl h2)), if_neg h1, if_neg h1, if_pos h2, if_pos h2]
   exact ⟨rfl, rfl⟩
  ·rw [if_neg h2] at h
   exact absurd rfl h
def Par7 (base : Nat) (w' : World) (l ps : List Int) (e : Ending) : Prop := ∃ A c, e = .returned (.tuple #[.agg ((parse7 l ps).cells A c), .int .i64 (perr7 l ps)]) ∧ (parse7 l ps).ok ∧ OwnB w' base (.slice A (parse7 l ps).bl.length c) (parse7 l ps).bl

set_option maxRecDepth 100000 in
set_option maxHeartbeats 4000000 in
theorem rparse7_any (A : Option Addr) (n c : Nat) (l : List Int) (Ap : Option Addr) (np cp : Nat) (ps : List Int) (w : World) (y : By w.heap.size w A n c l) (yp : By w.heap.size w Ap np cp ps) (h8 : 8 ≤ l.length) (hm : l.length ≤ 65535) (hp : np ≤ 65536) :
  Calls Try.prog 63 #[.slice A n c, .slice Ap np cp] w fun e w' => Par7 w.heap.size w' l ps e ∧ Below w.heap.size w w' := by
 have yl := y.len
 have ypl := yp.len
 have t4 := getD_byte y.rng 4
 have t5 := getD_byte y.rng 5
 have t6 := getD_byte y.rng 6
 have t7 := getD_byte y.rng 7
 go_enter Try.func63, Try.ntmps63
 refine wp_sr ?_
 refine lz (oa #[.int .u8 0, .int .u8 0, .int .u32 0, .slice none 0 0] ?_)
 intro g1 W2 hg3 ge4 sz5 hb6
 have z7 := hb6.size
 simp only [lay]
 refine lv (.int .i64 0) (by exact xa) ?_
 simp only [lay]
 refine wn ?_
 refine wp_seq ?_
 refine wp_sr ?_
 refine lv (.slice Ap np cp) (by exact xm) ?_
 simp only [lay]
 refine lv (.slice A n c) (by exact xm) ?_
 simp only [lay]
 refine lz (ow_build [.slice Ap np cp, .slice A n c] rfl Try.underlying106 (by kernel_rfl) (by kernel_rfl) rfl (by decide) (by decide) (by first | rfl | (simp only [List.map_toArray, List.map_cons, List.map_nil] <;> rfl)) (by simp [Value.cells]) ?_)
 intro g8 W9 hg10 ge11 sz12 hb13
 have z14 := hb13.size
 simp only [lay]
 have b15 := bt hb6 hb13
 have by16 := yp.to b15
 have by17 := y.to b15
 refine lz (ow_call (fun v w' => v = .int .u16 (sumw (ps ++ l)) ∧ Below W9.heap.size W9 w') (by exact xk Try.func60) (rfold2 hg10 by16 by17 (by omega)) ?_)
 rintro _ W18 ⟨rfl, hb19⟩
 have z20 := hb19.size
 simp only [lay]
 by_cases q21 : sumw (ps ++ l) = 65535
 case pos =>
  refine lv (.bool false) (by exact neq_int_eq (by exact rfl) (by exact rfl) (by exact rfl) (by first | assumption | omega)) ?_
  simp only [lay]
  refine wn ?_
  refine wp_cond_false (by exact rfl) ?_
  refine wp_skip ?_
  change Code.wp _ _ _ _ _
  refine wp_seq ?_
  refine rg_drawn W18.heap.size (by kernel_rfl) (Nat.le_refl _) ?_
  intro W22 hb23 hs24 hS25
  have z26 := hb23.size
  refine te 0 (.slice A n c) hS25 rfl (by intro _ _; exact xm) ?_
  simp only [lay]
  obtain ⟨b27, o28, hA29⟩ := y.form (k := 4) (by omega)
  refine te 1 (.pointer (some ⟨b27, o28 + 4, none⟩)) hS25 rfl (by intro _ _; exact xi 4 Try.underlying25 hA29) ?_
  simp only [lay]
  have b30 := bt b15 hb19
  have by31 := y.to b30
  refine te 2 (.int .u8 (l.getD 4 0)) hS25 rfl (by intro _ h; exact xc Try.underlying5 ((by31.to h).atE (k := 4) hA29 (by omega))) ?_
  simp only [lay]
  refine te 3 (.int .u32 (l.getD 4 0)) hS25 rfl (by intro _ _; exact xv (conv_u32 5 33 .u8 (l.getD 4 0) (by kernel_rfl) Try.underlying33 (in_rng (getD_byte y.rng 4)).1 (in_rng (getD_byte y.rng 4)).2.2 _)) ?_
  simp only [lay]
  refine te 4 (.int .u32 ((l.getD 4 0) * 16777216)) hS25 rfl (by intro _ _; exact xb (w_shl32 _ 24 _ ((l.getD 4 0) * 16777216) rfl (by decide) (by have := (getD_byte y.rng 4); omega) _)) ?_
  simp only [lay]
  refine te 5 (.slice A n c) hS25 rfl (by intro _ _; exact xm) ?_
  simp only [lay]
  refine te 6 (.pointer (some ⟨b27, o28 + 5, none⟩)) hS25 rfl (by intro _ _; exact xi 5 Try.underlying25 hA29) ?_
  simp only [lay]
  refine te 7 (.int .u8 (l.getD 5 0)) hS25 rfl (by intro _ h; exact xc Try.underlying5 ((by31.to h).atE (k := 5) hA29 (by omega))) ?_
  simp only [lay]
  refine te 8 (.int .u32 (l.getD 5 0)) hS25 rfl (by intro _ _; exact xv (conv_u32 5 33 .u8 (l.getD 5 0) (by kernel_rfl) Try.underlying33 (in_rng (getD_byte y.rng 5)).1 (in_rng (getD_byte y.rng 5)).2.2 _)) ?_
  simp only [lay]
  refine te 9 (.int .u32 ((l.getD 5 0) * 65536)) hS25 rfl (by intro _ _; exact xb (w_shl32 _ 16 _ ((l.getD 5 0) * 65536) rfl (by decide) (by have := (getD_byte y.rng 5); omega) _)) ?_
  simp only [lay]
  refine te 10 (.int .u32 ((l.getD 4 0) * 16777216 + (l.getD 5 0) * 65536)) hS25 rfl (by intro _ _; exact xb (b_add32 _ ((l.getD 4 0) * 16777216 + (l.getD 5 0) * 65536) rfl (by omega) _)) ?_
  simp only [lay]
  refine te 11 (.slice A n c) hS25 rfl (by intro _ _; exact xm) ?_
  simp only [lay]
  refine te 12 (.pointer (some ⟨b27, o28 + 6, none⟩)) hS25 rfl (by intro _ _; exact xi 6 Try.underlying25 hA29) ?_
  simp only [lay]
  refine te 13 (.int .u8 (l.getD 6 0)) hS25 rfl (by intro _ h; exact xc Try.underlying5 ((by31.to h).atE (k := 6) hA29 (by omega))) ?_
  simp only [lay]
  refine te 14 (.int .u32 (l.getD 6 0)) hS25 rfl (by intro _ _; exact xv (conv_u32 5 33 .u8 (l.getD 6 0) (by kernel_rfl) Try.underlying33 (in_rng (getD_byte y.rng 6)).1 (in_rng (getD_byte y.rng 6)).2.2 _)) ?_
  simp only [lay]
  refine te 15 (.int .u32 ((l.getD 6 0) * 256)) hS25 rfl (by intro _ _; exact xb (w_shl32 _ 8 _ ((l.getD 6 0) * 256) rfl (by decide) (by have := (getD_byte y.rng 6); omega) _)) ?_
  simp only [lay]
  refine te 16 (.int .u32 ((l.getD 4 0) * 16777216 + (l.getD 5 0) * 65536 + (l.getD 6 0) * 256)) hS25 rfl (by intro _ _; exact xb (b_add32 _ ((l.getD 4 0) * 16777216 + (l.getD 5 0) * 65536 + (l.getD 6 0) * 256) rfl (by omega) _)) ?_
  simp only [lay]
  refine te 17 (.slice A n c) hS25 rfl (by intro _ _; exact xm) ?_
  simp only [lay]
  refine te 18 (.pointer (some ⟨b27, o28 + 7, none⟩)) hS25 rfl (by intro _ _; exact xi 7 Try.underlying25 hA29) ?_
  simp only [lay]
  refine te 19 (.int .u8 (l.getD 7 0)) hS25 rfl (by intro _ h; exact xc Try.underlying5 ((by31.to h).atE (k := 7) hA29 (by omega))) ?_
  simp only [lay]
  refine te 20 (.int .u32 (l.getD 7 0)) hS25 rfl (by intro _ _; exact xv (conv_u32 5 33 .u8 (l.getD 7 0) (by kernel_rfl) Try.underlying33 (in_rng (getD_byte y.rng 7)).1 (in_rng (getD_byte y.rng 7)).2.2 _)) ?_
  simp only [lay]
  refine te 21 (.int .u32 ((l.getD 4 0) * 16777216 + (l.getD 5 0) * 65536 + (l.getD 6 0) * 256 + l.getD 7 0)) hS25 rfl (by intro _ _; exact xb (b_add32 _ ((l.getD 4 0) * 16777216 + (l.getD 5 0) * 65536 + (l.getD 6 0) * 256 + l.getD 7 0) rfl (by omega) _)) ?_
  simp only [lay]
  refine te 22 (.int .u32 ((l.getD 4 0) * 16777216 + (l.getD 5 0) * 65536 + (l.getD 6 0) * 256 + l.getD 7 0)) hS25 rfl (by intro _ _; exact xa) ?_
  simp only [lay]
  refine wpAnyH_done (by kernel_rfl) ?_ _
  change Code.wp _ _ _ _ _
  refine wp_seq ?_
  refine rg_drawn g1 (by kernel_rfl) (by omega) ?_
  intro W32 hb33 hs34 hS35
  have z36 := hb33.size
  refine te 0 (.slice A n c) hS35 rfl (by intro _ _; exact xm) ?_
  simp only [lay]
  refine te 1 (.pointer (some ⟨b27, o28 + 0, none⟩)) hS35 rfl (by intro _ _; exact xi 0 Try.underlying25 hA29) ?_
  simp only [lay]
  have l37 : w.heap.size ≤ g1 := Nat.le_of_eq ge4.symm
  have b38 := bt b30 hb23
  refine te 2 (.int .u8 (l.getD 0 0)) hS35 rfl (by intro _ h; exact xc Try.underlying5 ((y.to (b38.trans (Below.mono h l37))).atE (k := 0) hA29 (by omega))) ?_
  simp only [lay]
  refine te 3 (.slice A n c) hS35 rfl (by intro _ _; exact xm) ?_
  simp only [lay]
  refine te 4 (.pointer (some ⟨b27, o28 + 1, none⟩)) hS35 rfl (by intro _ _; exact xi 1 Try.underlying25 hA29) ?_
  simp only [lay]
  refine te 5 (.int .u8 (l.getD 1 0)) hS35 rfl (by intro _ h; exact xc Try.underlying5 ((y.to (b38.trans (Below.mono h l37))).atE (k := 1) hA29 (by omega))) ?_
  simp only [lay]
  refine te 6 (.int .u32 ((l.getD 4 0) * 16777216 + (l.getD 5 0) * 65536 + (l.getD 6 0) * 256 + l.getD 7 0)) hS35 rfl (by intro _ _; exact xm) ?_
  simp only [lay]
  refine te 8 (.slice A n c) hS35 rfl (by intro _ _; exact xm) ?_
  simp only [lay]
  have b39 := bt b38 hb33
  have by40 := y.to b39
  obtain ⟨A41, c42, hs43, y44⟩ := by40.from_ (P := Try.prog) 25 Try.underlying25 (by kernel_rfl) (k := 8) (by omega)
  refine te 9 (.slice A41 (n - 8) c42) hS35 rfl (by intro _ _; exact ex_slice (by exact rfl) (by exact rfl) (hs43 _)) ?_
  simp only [lay]
  refine t1 7 rfl (ow_build0 rfl Try.underlying25 (by kernel_rfl) ?_)
  intro g45 W46 hg47 ge48 sz49 hb50
  have z51 := hb50.size
  have hO52 : OwnB W46 W32.heap.size (.slice (some ⟨g45, 0, none⟩) 0 0) [] := OwnB.blk (l := []) hg47 (Nat.le_of_eq ge48.symm) rfl InB.nil (by simp)
  refine ⟨(Below.trans hS35 (hb50.mono (Nat.le_trans (by omega) hS35.size))), ?_⟩
  have hS53 := (Below.trans hS35 (hb50.mono (Nat.le_trans (by omega) hS35.size)))
  simp only [lay]
  have by59 := y44.to hb50
  refine t1 10 rfl (ow_app (.tmp 42) (.tmp 44) 25 rfl Try.underlying25 info8 _ _ [] rfl hO52 _ _ _ _ (l.drop 8) rfl by59 (by simp only [List.length_nil]; omega) hb50.size ?_)
  intro v58 W54 hO55 hb56 hgr57
  have z60 := hb56.size
  have hO61 : OwnB W54 W32.heap.size v58 (l.drop 8) := hO55
  obtain ⟨A62, c63, rfl, y64⟩ := hO61.by_
  refine ⟨(Below.trans hS53 (hb56.mono (by omega))), ?_⟩
  have hS65 := (Below.trans hS53 (hb56.mono (by omega)))
  simp only [lay]
  refine te 11 (.agg #[.int .u8 (l.getD 0 0), .int .u8 (l.getD 1 0), .int .u32 ((l.getD 4 0) * 16777216 + (l.getD 5 0) * 65536 + (l.getD 6 0) * 256 + l.getD 7 0), .slice A62 ((l.drop 8).length) c63]) hS65 rfl (by intro _ _; kernel_rfl) ?_
  simp only [lay]
  have b70 := bt hb13 hb19
  have b71 := bt b70 hb23
  have b72 := bt b71 hb33
  have b73 := bt b72 hb50
  have l74 := Nat.le_trans b72.size (Nat.le_refl _)
  have b75 := b73.trans (hb56.mono l74)
  have has76 := hg3.to b75
  refine t1 12 rfl (ow_st 46 (.tmp 4) (.tmp 46) g1 #[.int .u8 (l.getD 0 0), .int .u8 (l.getD 1 0), .int .u32 ((l.getD 4 0) * 16777216 + (l.getD 5 0) * 65536 + (l.getD 6 0) * 256 + l.getD 7 0), .slice A62 ((l.drop 8).length) c63] _ _ rfl (by exact rfl) (by exact rfl) has76 (by kernel_rfl) rfl (by kernel_rfl) ?_)
  intro W66 hg67 bs68 hb69
  have b77 := bt hb19 hb23
  have b78 := bt b77 hb33
  have b79 := bt b78 hb50
  have l80 := Nat.le_trans b78.size (Nat.le_refl _)
  have b81 := b79.trans (hb56.mono l80)
  have has82 := hg10.to b81
  have z83 := hb69.size
  have has84 := has82.but6 bs68 (by omega)
  have own85 := hO61.but6 bs68 (by omega)
  refine ⟨(Below.trans hS65 hb69), ?_⟩
  have hS86 := (Below.trans hS65 hb69)
  simp only [lay]
  refine te 13 (.int .i64 0) hS86 rfl (by intro _ _; exact xa) ?_
  simp only [lay]
  refine wpAnyH_done (by kernel_rfl) ?_ _
  change Code.wp _ _ _ _ _
  refine wp_ret ?_
  try simp only [Exit.then]
  have e1 := parse7_eq h8 hm (ps := ps)
  rw [if_neg (by omega)] at e1
  have e2 := perr7_eq h8 hm (ps := ps)
  rw [if_neg (by omega)] at e2
  have h4 : Has _ _ (.cells ((of7 l).cells A62 c63) 46 (0, 0)) := hg67
  have b87 := bt b39 hb50
  have l88 := Nat.le_trans b39.size (Nat.le_refl _)
  have b89 := b87.trans (hb56.mono l88)
  have b90 := b89.trans (hb69.mono l37)
  exact bodyPost_ret (res_cell2 Try.results63 rfl (h4.load (P := Try.prog) 46 Try.underlying46 rfl (by kernel_rfl)) rfl) rfl ⟨⟨A62, c63, by rw [e1, e2]; rfl, by rw [e1]; exact of7_ok y.rng, by rw [e1]; exact (own85.more b39.size)⟩, b90⟩
 refine lv (.bool true) (by exact neq_int_ne (by exact rfl) (by exact rfl) (by exact rfl) (by first | assumption | omega)) ?_
 simp only [lay]
 refine wn ?_
 refine wp_cond_true (by exact rfl) ?_
 refine wp_sr ?_
 refine lv (.agg #[.int .u8 0, .int .u8 0, .int .u32 0, .slice none 0 0]) (by kernel_rfl) ?_
 simp only [lay]
 have b95 := bt hb13 hb19
 have has96 := hg3.to b95
 refine lz (ow_st 46 (.tmp 4) (.tmp 12) g1 #[.int .u8 0, .int .u8 0, .int .u32 0, .slice none 0 0] _ _ rfl (by exact rfl) (by exact rfl) has96 (by kernel_rfl) rfl (by kernel_rfl) ?_)
 intro W91 hg92 bs93 hb94
 have has97 := hg10.to hb19
 have z98 := hb94.size
 have has99 := has97.but6 bs93 (by omega)
 simp only [lay]
 refine lv (.int .i64 71) (by exact xa) ?_
 simp only [lay]
 refine wn ?_
 refine wp_ret ?_
 try simp only [Exit.then]
 have e1 := parse7_eq h8 hm (ps := ps)
 rw [if_pos (by omega)] at e1
 have e2 := perr7_eq h8 hm (ps := ps)
 rw [if_pos (by omega)] at e2
 have b100 := bt b15 hb19
 have l101 : w.heap.size ≤ g1 := Nat.le_of_eq ge4.symm
 have b102 := b100.trans (hb94.mono l101)
 exact bodyPost_ret (res_cell2 Try.results63 rfl (hg92.load (P := Try.prog) 46 Try.underlying46 rfl (by kernel_rfl)) rfl) rfl ⟨⟨none, 0, by rw [e1, e2]; rfl, by rw [e1]; exact zero7_ok, by rw [e1]; exact OwnB.nil _ _⟩, b102⟩
set_option maxRecDepth 100000 in
set_option maxHeartbeats 4000000 in
theorem rparse4m_any (A : Option Addr) (n c : Nat) (l : List Int) (w : World) (y : By w.heap.size w A n c l) :
  Calls Try.prog 21 #[.slice A n c] w fun e w' => Par7 w.heap.size w' l [] e ∧ Below w.heap.size w w' := by
 have yl := y.len
 go_enter Try.func21, Try.ntmps21
 refine wp_sr ?_
 refine lz (oa #[.int .u8 0, .int .u8 0, .int .u32 0, .slice none 0 0] ?_)
 intro g1 W2 hg3 ge4 sz5 hb6
 have z7 := hb6.size
 simp only [lay]
 refine lv (.int .i64 0) (by exact xa) ?_
 simp only [lay]
 refine wn ?_
 refine wp_sr ?_
 refine lv (.slice A n c) (by exact xm) ?_
 simp only [lay]
 refine lz (ow_same (.int .i64 (szerr n)) (by exact xk Try.func62) (rsize7_any _ n _ W2 (Nat.le_trans y.cap y.big)) ?_)
 simp only [lay]
 refine lv (.int .i64 (szerr n)) (by exact xa) ?_
 simp only [lay]
 refine wn ?_
 refine wp_seq ?_
 refine wp_sr ?_
 refine lv (.int .i64 (szerr n)) (by exact xm) ?_
 simp only [lay]
 by_cases q8 : szerr n = 0
 case pos =>
  have hz2 := szerr_zero q8
  refine lv (.bool false) (by exact neq_int_eq (by exact rfl) (by exact rfl) (by exact rfl) (by first | assumption | omega)) ?_
  simp only [lay]
  refine wn ?_
  refine wp_cond_false (by exact rfl) ?_
  refine wp_skip ?_
  change Code.wp _ _ _ _ _
  refine wp_sr ?_
  refine lv (.slice A n c) (by exact xm) ?_
  simp only [lay]
  have by9 := y.to hb6
  refine lz (ow_call (fun v w' => (∃ A' c', v = .tuple #[.agg ((parse7 l []).cells A' c'), .int .i64 (perr7 l [])] ∧ (parse7 l []).ok ∧ OwnB w' W2.heap.size (.slice A' (parse7 l []).bl.length c') (parse7 l []).bl) ∧ Below W2.heap.size W2 w') (by exact xk Try.func63) ((rparse7_any _ _ _ l _ _ _ [] W2 by9 (By.nil _ _ none (by decide)) (by omega) (by omega) (by decide)).mono (by rintro e w' ⟨⟨A', c', rfl, hk, ho⟩, hb⟩; exact ⟨_, rfl, ⟨A', c', rfl, hk, ho⟩, hb⟩)) ?_)
  rintro _ W10 ⟨⟨A12, c13, rfl, hk14, hO15⟩, hb11⟩
  have z16 := hb11.size
  simp only [lay]
  refine lv (.agg ((parse7 l []).cells A12 c13)) (by exact xe) ?_
  simp only [lay]
  refine lv (.int .i64 (perr7 l [])) (by exact xe) ?_
  simp only [lay]
  have has21 := hg3.to hb11
  refine lz (ow_st 46 (.tmp 2) (.tmp 13) g1 ((parse7 l []).cells A12 c13) _ _ rfl (by exact rfl) (by exact rfl) has21 (by kernel_rfl) rfl (by kernel_rfl) ?_)
  intro W17 hg18 bs19 hb20
  have z22 := hb20.size
  have own23 := hO15.but6 bs19 (by omega)
  simp only [lay]
  refine lv (.int .i64 (perr7 l [])) (by exact xa) ?_
  simp only [lay]
  refine wn ?_
  refine wp_ret ?_
  try simp only [Exit.then]
  have b24 := bt hb6 hb11
  have l25 : w.heap.size ≤ g1 := Nat.le_of_eq ge4.symm
  have b26 := b24.trans (hb20.mono l25)
  exact bodyPost_ret (res_cell2 Try.results21 rfl (hg18.load (P := Try.prog) 46 Try.underlying46 rfl (by kernel_rfl)) rfl) rfl ⟨⟨_, _, rfl, hk14, (own23.more hb6.size)⟩, b26⟩
 have hz := q8
 refine lv (.bool true) (by exact neq_int_ne (by exact rfl) (by exact rfl) (by exact rfl) (by first | assumption | omega)) ?_
 simp only [lay]
 refine wn ?_
 refine wp_cond_true (by exact rfl) ?_
 refine wp_sr ?_
 refine lv (.agg #[.int .u8 0, .int .u8 0, .int .u32 0, .slice none 0 0]) (by kernel_rfl) ?_
 simp only [lay]
 refine lv (.int .i64 (szerr n)) (by exact xm) ?_
 simp only [lay]
 refine lz (ow_st 46 (.tmp 2) (.tmp 9) g1 #[.int .u8 0, .int .u8 0, .int .u32 0, .slice none 0 0] _ _ rfl (by exact rfl) (by exact rfl) hg3 (by kernel_rfl) rfl (by kernel_rfl) ?_)
 intro W27 hg28 bs29 hb30
 have z31 := hb30.size
 simp only [lay]
 refine lv (.int .i64 (szerr n)) (by exact xa) ?_
 simp only [lay]
 refine wn ?_
 refine wp_ret ?_
 try simp only [Exit.then]
 obtain ⟨e1, e2⟩ := szerr_bad (l := l) yl hz
 have l32 : w.heap.size ≤ g1 := Nat.le_of_eq ge4.symm
 have b33 := hb6.trans (hb30.mono l32)
 exact bodyPost_ret (res_cell2 Try.results21 rfl (hg28.load (P := Try.prog) 46 Try.underlying46 rfl (by kernel_rfl)) rfl) rfl ⟨⟨none, 0, by rw [e1, e2]; rfl, by rw [e1]; exact zero7_ok, by rw [e1]; exact OwnB.nil _ _⟩, b33⟩
end Go.Proofs.Ytijnifbpbgckgaa
