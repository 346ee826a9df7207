/-
  Lemmas and walks for the row of TosixMessages (part 43 of 43).
-/
import Derived.Test.YtijnifbpbgckgaaTmAD
import Derived.Test.YtijnifbpbgckgaaTmAH
import Derived.Test.YtijnifbpbgckgaaTmAO
import Derived.Test.YtijnifbpbgckgaaTmBP
set_option linter.unusedVariables false
set_option linter.unusedSimpArgs false
namespace Go.Proofs.Ytijnifbpbgckgaa
open Go.RowKit Go.Shelf
attribute [local irreducible] wpList Code.wp Oper.wp wpOp wpAnyH

def dA17 : D4 := ⟨0, 0, false, false, 0, 7, 17, 10, 0, 0, 1, 10, 0, 0, 2, [], [0, 1, 0, 2, 0, 8, 0, 0]⟩
def sA17 : List Int := [1, 0, 0, 0, 0, 0, 0, 0, 0, 0, 0, 0, 0, 0, 0, 0]
def tA17 : List Int := [2, 0, 0, 0, 0, 0, 0, 0, 0, 0, 0, 0, 0, 0, 0, 0]
def zA17 : List Int := [0, 0, 0, 0, 0, 0, 0, 0, 0, 0, 0, 0, 0, 0, 0, 0]
def DA17 : D6 := ⟨0, 0, 7, sA17, tA17, [], false, 0, 0, false, 17, [0, 1, 0, 2, 0, 8, 252, 219]⟩
theorem alive17_pack : pack17 dA17 sA17 tA17 zA17 zA17 = (DA17, 0) := by kernel_rfl
theorem rngs_of {l : List Int} (h : l.all (fun x => decide (0 ≤ x) && decide (x ≤ 255)) = true) : InB l := by
 intro x hx
 have := List.all_eq_true.1 h x hx
 simpa using this
theorem alive17_e : E6ok sA17 tA17 := ⟨rfl, rngs_of (by decide), rfl, rngs_of (by decide)⟩
theorem alive17_z : E6ok zA17 zA17 := ⟨rfl, rngs_of (by decide), rfl, rngs_of (by decide)⟩
theorem dA17_ok : dA17.ok := ⟨by decide, by decide, by decide, by decide, by decide, rngs_of (by decide), rngs_of (by decide)⟩
theorem Own6.to {w w' : World} {base : Nat} {D : D6} {p : W6} (h : Own6 w base D p) (b : Below w.heap.size w w') : Own6 w' base D p := h.below b
theorem By.takeL {B : Nat} {w : World} {A : Option Addr} {c : Nat} {l : List Int} (h : By B w A l.length c l) (k : Nat) : By B w A (l.take k).length c (l.take k) := by
 by_cases hk : k ≤ l.length
 ·rw [show (l.take k).length = k by rw [List.length_take]; omega]
  exact h.take hk
 ·rw [List.take_of_length_le (by omega)]
  exact h
set_option maxRecDepth 100000 in
set_option maxHeartbeats 4000000 in
theorem alive17_any (w : World) :
  Calls Try.prog 13 #[] w fun e w' => e = .returned (.bool true) ∧ Below w.heap.size w w' := by
 go_enter Try.func13, Try.ntmps13
 refine wp_sr ?_
 refine lv (.bool false) (by exact xa) ?_
 simp only [lay]
 refine wn ?_
 refine wp_sr ?_
 refine lv (.agg #[.int .u8 10, .int .u8 0, .int .u8 0, .int .u8 1]) (by kernel_rfl) ?_
 simp only [lay]
 refine lv (.agg #[.int .u8 10, .int .u8 0, .int .u8 0, .int .u8 2]) (by kernel_rfl) ?_
 simp only [lay]
 refine lz (ow_build (u8s [0, 1, 0, 2, 0, 8, 0, 0]) rfl Try.underlying25 (by kernel_rfl) (by kernel_rfl) rfl (by decide) (by decide) (by first | rfl | (simp only [List.map_toArray, List.map_cons, List.map_nil] <;> rfl)) (u8s_cells _) ?_)
 intro g1 W2 hg3 ge4 sz5 hb6
 have z7 := hb6.size
 have hO8 := OwnB.blk hg3 (Nat.le_of_eq ge4.symm) rfl (by intro x hx; simp only [List.mem_cons, List.not_mem_nil, or_false] at hx; omega) (by simp)
 simp only [lay]
 refine lv (.agg #[.int .u8 0, .int .u16 0, .bool false, .bool false, .int .i64 0, .int .u8 7, .int .u8 17, .int .u8 10, .int .u8 0, .int .u8 0, .int .u8 1, .int .u8 10, .int .u8 0, .int .u8 0, .int .u8 2, .slice none 0 0, .slice (some ⟨g1, 0, none⟩) 8 8]) (by kernel_rfl) ?_
 simp only [lay]
 refine lz (oa #[.int .u8 0, .int .u16 0, .bool false, .bool false, .int .i64 0, .int .u8 0, .int .u8 0, .int .u8 0, .int .u8 0, .int .u8 0, .int .u8 0, .int .u8 0, .int .u8 0, .int .u8 0, .int .u8 0, .slice none 0 0, .slice none 0 0] ?_)
 intro g9 W10 hg11 ge12 sz13 hb14
 have z15 := hb14.size
 simp only [lay]
 refine lz (ow_st 27 (.tmp 1) (.tmp 7) g9 #[.int .u8 0, .int .u16 0, .bool false, .bool false, .int .i64 0, .int .u8 7, .int .u8 17, .int .u8 10, .int .u8 0, .int .u8 0, .int .u8 1, .int .u8 10, .int .u8 0, .int .u8 0, .int .u8 2, .slice none 0 0, .slice (some ⟨g1, 0, none⟩) 8 8] _ _ rfl (by exact rfl) (by exact rfl) hg11 (by kernel_rfl) rfl (by kernel_rfl) ?_)
 intro W16 hg17 bs18 hb19
 have z20 := hb19.size
 simp only [lay]
 refine wn ?_
 refine wp_sr ?_
 refine lv (.agg #[.int .u8 0, .int .u16 0, .bool false, .bool false, .int .i64 0, .int .u8 7, .int .u8 17, .int .u8 10, .int .u8 0, .int .u8 0, .int .u8 1, .int .u8 10, .int .u8 0, .int .u8 0, .int .u8 2, .slice none 0 0, .slice (some ⟨g1, 0, none⟩) 8 8]) (by exact xo (hg17.load (P := Try.prog) 27 Try.underlying27 rfl (by kernel_rfl))) ?_
 simp only [lay]
 refine lv (.agg #[.int .u8 1, .int .u8 0, .int .u8 0, .int .u8 0, .int .u8 0, .int .u8 0, .int .u8 0, .int .u8 0, .int .u8 0, .int .u8 0, .int .u8 0, .int .u8 0, .int .u8 0, .int .u8 0, .int .u8 0, .int .u8 0]) (by kernel_rfl) ?_
 simp only [lay]
 refine lv (.agg #[.int .u8 2, .int .u8 0, .int .u8 0, .int .u8 0, .int .u8 0, .int .u8 0, .int .u8 0, .int .u8 0, .int .u8 0, .int .u8 0, .int .u8 0, .int .u8 0, .int .u8 0, .int .u8 0, .int .u8 0, .int .u8 0]) (by kernel_rfl) ?_
 simp only [lay]
 refine lv (.agg #[.int .u8 1, .int .u8 0, .int .u8 0, .int .u8 0, .int .u8 0, .int .u8 0, .int .u8 0, .int .u8 0, .int .u8 0, .int .u8 0, .int .u8 0, .int .u8 0, .int .u8 0, .int .u8 0, .int .u8 0, .int .u8 0, .int .u8 2, .int .u8 0, .int .u8 0, .int .u8 0, .int .u8 0, .int .u8 0, .int .u8 0, .int .u8 0, .int .u8 0, .int .u8 0, .int .u8 0, .int .u8 0, .int .u8 0, .int .u8 0, .int .u8 0, .int .u8 0]) (by kernel_rfl) ?_
 simp only [lay]
 refine lv (.agg #[.int .u8 0, .int .u8 0, .int .u8 0, .int .u8 0, .int .u8 0, .int .u8 0, .int .u8 0, .int .u8 0, .int .u8 0, .int .u8 0, .int .u8 0, .int .u8 0, .int .u8 0, .int .u8 0, .int .u8 0, .int .u8 0, .int .u8 0, .int .u8 0, .int .u8 0, .int .u8 0, .int .u8 0, .int .u8 0, .int .u8 0, .int .u8 0, .int .u8 0, .int .u8 0, .int .u8 0, .int .u8 0, .int .u8 0, .int .u8 0, .int .u8 0, .int .u8 0]) (by kernel_rfl) ?_
 simp only [lay]
 have l21 : W2.heap.size ≤ g9 := Nat.le_of_eq ge12.symm
 have b22 := hb14.trans (hb19.mono l21)
 have own23 := hO8.to b22
 refine lz (ow_call (fun v w' => (∃ p, v = .tuple #[.agg (DA17.cells p), .int .i64 0] ∧ Own6 w' W16.heap.size DA17 p) ∧ Below W16.heap.size W16 w') (by exact xk Try.func10) ((pack17_any dA17 _ sA17 tA17 zA17 zA17 alive17_e alive17_z W16 (⟨dA17_ok, By.nil _ _ none (Nat.zero_le _), (own_byS own23)⟩ : Rd4 W16.heap.size W16 dA17 ⟨none, 0, (some ⟨g1, 0, none⟩), 8⟩)).mono (by rintro e w' ⟨⟨p, rfl, ho⟩, hb⟩; rw [alive17_pack] at ho; exact ⟨_, rfl, ⟨p, by rw [alive17_pack], ho⟩, hb⟩)) ?_)
 rintro _ W24 ⟨⟨p26, rfl, ho27⟩, hb25⟩
 have z28 := hb25.size
 have hO29 : OwnB W24 W16.heap.size (.slice p26.bA 8 p26.bc) [0, 1, 0, 2, 0, 8, 252, 219] := ho27.body
 simp only [lay]
 refine lv (.tuple #[.agg (DA17.cells p26), .int .i64 0]) (by exact xm) ?_
 simp only [lay]
 refine lv (.agg (DA17.cells p26)) (by exact xe) ?_
 simp only [lay]
 refine lv (.int .i64 0) (by exact xe) ?_
 simp only [lay]
 refine lz (oa #[.int .u8 0, .int .u32 0, .int .u8 0, .int .u8 0, .int .u8 0, .int .u8 0, .int .u8 0, .int .u8 0, .int .u8 0, .int .u8 0, .int .u8 0, .int .u8 0, .int .u8 0, .int .u8 0, .int .u8 0, .int .u8 0, .int .u8 0, .int .u8 0, .int .u8 0, .int .u8 0, .int .u8 0, .int .u8 0, .int .u8 0, .int .u8 0, .int .u8 0, .int .u8 0, .int .u8 0, .int .u8 0, .int .u8 0, .int .u8 0, .int .u8 0, .int .u8 0, .int .u8 0, .int .u8 0, .int .u8 0, .slice none 0 0, .bool false, .int .u32 0, .int .i64 0, .bool false, .int .u8 0, .slice none 0 0] ?_)
 intro g30 W31 hg32 ge33 sz34 hb35
 have z36 := hb35.size
 simp only [lay]
 refine lz (ow_st 36 (.tmp 2) (.tmp 15) g30 (DA17.cells p26) _ _ rfl (by exact rfl) (by exact rfl) hg32 (by kernel_rfl) rfl (by kernel_rfl) ?_)
 intro W37 hg38 bs39 hb40
 have z41 := hb40.size
 simp only [lay]
 refine lv (.int .i64 0) (by exact xa) ?_
 simp only [lay]
 refine wn ?_
 refine wp_seq ?_
 refine rg_drawn W37.heap.size (by kernel_rfl) (Nat.le_refl _) ?_
 intro W42 hb43 hs44 hS45
 have z46 := hb43.size
 refine te 0 (.int .i64 0) hS45 rfl (by intro _ _; exact xm) ?_
 simp only [lay]
 refine te 1 (.bool true) hS45 rfl (by intro _ _; exact yq (h := (by decide))) ?_
 simp only [lay]
 refine te 2 (.bool true) hS45 rfl (by intro _ _; exact xm) ?_
 simp only [lay]
 refine te 3 (.pointer (some ⟨g30, 2, none⟩)) hS45 rfl (by intro _ _; exact xf 2 0 Try.underlying36) ?_
 simp only [lay]
 refine te 4 (.int .u8 7) hS45 rfl (by intro _ h; exact xc Try.underlying5 ((hg38.to h).cell 2 rfl)) ?_
 simp only [lay]
 refine te 5 (.bool true) hS45 rfl (by intro _ _; exact yq (h := (by decide))) ?_
 simp only [lay]
 refine te 6 (.bool true) hS45 rfl (by intro _ _; exact xp (b := true)) ?_
 simp only [lay]
 refine te 7 (.bool true) hS45 rfl (by intro _ _; exact xm) ?_
 simp only [lay]
 refine te 8 (.pointer (some ⟨g30, 40, none⟩)) hS45 rfl (by intro _ _; exact xf 40 0 Try.underlying36) ?_
 simp only [lay]
 refine te 9 (.int .u8 17) hS45 rfl (by intro _ h; exact xc Try.underlying5 ((hg38.to h).cell 40 rfl)) ?_
 simp only [lay]
 refine te 10 (.bool true) hS45 rfl (by intro _ _; exact yq (h := (by decide))) ?_
 simp only [lay]
 refine te 11 (.bool true) hS45 rfl (by intro _ _; exact xp (b := true)) ?_
 simp only [lay]
 refine te 12 (.bool true) hS45 rfl (by intro _ _; exact xm) ?_
 simp only [lay]
 refine te 13 (.pointer (some ⟨g30, 41, none⟩)) hS45 rfl (by intro _ _; exact xf 41 0 Try.underlying36) ?_
 simp only [lay]
 refine te 14 (.slice p26.bA 8 p26.bc) hS45 rfl (by intro _ h; exact xc Try.underlying25 ((hg38.to h).cell 41 rfl)) ?_
 simp only [lay]
 refine te 15 (.int .i64 8) hS45 rfl (by intro _ _; exact xz Try.underlying25) ?_
 simp only [lay]
 refine te 16 (.bool true) hS45 rfl (by intro _ _; exact yq (h := (by decide))) ?_
 simp only [lay]
 refine te 17 (.bool true) hS45 rfl (by intro _ _; exact xp (b := true)) ?_
 simp only [lay]
 refine te 18 (.bool true) hS45 rfl (by intro _ _; exact xm) ?_
 simp only [lay]
 refine te 19 (.pointer (some ⟨g30, 41, none⟩)) hS45 rfl (by intro _ _; exact xf 41 0 Try.underlying36) ?_
 simp only [lay]
 refine te 20 (.slice p26.bA 8 p26.bc) hS45 rfl (by intro _ h; exact xc Try.underlying25 ((hg38.to h).cell 41 rfl)) ?_
 simp only [lay]
 have l47 : W24.heap.size ≤ g30 := Nat.le_of_eq ge33.symm
 have b48 := hb35.trans (hb40.mono l47)
 have b49 := bt b48 hb43
 have own50 := hO29.to b49
 have y51 := (own_byS own50)
 obtain ⟨b52, o53, hA54⟩ := y51.form (k := 6) (by omega)
 refine te 21 (.pointer (some ⟨b52, o53 + 6, none⟩)) hS45 rfl (by intro _ _; exact xi 6 Try.underlying25 hA54) ?_
 simp only [lay]
 refine te 23 (.pointer (some ⟨g30, 41, none⟩)) hS45 rfl (by intro _ _; exact xf 41 0 Try.underlying36) ?_
 simp only [lay]
 refine te 24 (.slice p26.bA 8 p26.bc) hS45 rfl (by intro _ h; exact xc Try.underlying25 ((hg38.to h).cell 41 rfl)) ?_
 simp only [lay]
 have y55 := (own_byS own50)
 obtain ⟨b56, o57, hA58⟩ := y55.form (k := 7) (by omega)
 refine te 25 (.pointer (some ⟨b56, o57 + 7, none⟩)) hS45 rfl (by intro _ _; exact xi 7 Try.underlying25 hA58) ?_
 simp only [lay]
 refine tk_two (i := 22) (j := 26) (by kernel_rfl) ?L59 ?L60
 case L59 =>
  refine rs (i := 22) rfl (by kernel_rfl) (ow_val (.int .u8 252) (by exact xc Try.underlying5 (y51.atE (k := 6) hA54 (by omega))) ?_)
  refine ⟨hS45, ?_⟩
  simp only [lay]
  refine t1 26 rfl (ow_val (.int .u8 219) (by exact xc Try.underlying5 (y55.atE (k := 7) hA58 (by omega))) ?_)
  refine ⟨hS45, ?_⟩
  simp only [lay]
  refine te 27 (.int .u8 255) hS45 rfl (by intro _ _; exact ex_bin (by exact rfl) (by exact rfl) (by exact rfl) (by decide) (b_or8 _ 255 (by decide) _)) ?_
  simp only [lay]
  refine te 28 (.bool true) hS45 rfl (by intro _ _; exact neq_int_ne (by exact rfl) (by exact rfl) (by exact rfl) (by decide)) ?_
  simp only [lay]
  refine te 29 (.bool true) hS45 rfl (by intro _ _; exact xp (b := true)) ?_
  simp only [lay]
  refine te 30 (.bool true) hS45 rfl (by intro _ _; exact xm) ?_
  simp only [lay]
  refine t1 31 rfl (ow_same (.int .u32 1420) (by exact xk Try.func30) (by have := mtu17_any 1400 (by decide) W42; rw [show mtu17 1400 = 1420 from by decide] at this; exact this) ?_)
  refine ⟨hS45, ?_⟩
  simp only [lay]
  refine te 32 (.bool true) hS45 rfl (by intro _ _; exact yq (h := (by decide))) ?_
  simp only [lay]
  refine te 33 (.bool true) hS45 rfl (by intro _ _; exact xp (b := true)) ?_
  simp only [lay]
  refine te 34 (.bool true) hS45 rfl (by intro _ _; exact xa) ?_
  simp only [lay]
  refine wpAnyH_done (by kernel_rfl) ?_ _
  change Code.wp _ _ _ _ _
  refine wp_ret ?_
  try simp only [Exit.then]
  have b61 := bt hb6 hb14
  have l62 := lq hb6 ge12
  have b63 := b61.trans (hb19.mono l62)
  have b64 := bt b63 hb25
  have b65 := bt b64 hb35
  have l66 := lq b64 ge33
  have b67 := b65.trans (hb40.mono l66)
  have b68 := bt b67 hb43
  exact bodyPost_ret (res_one Try.results13 rfl) rfl ⟨rfl, b68⟩
 case L60 =>
  refine rs (i := 26) rfl (by kernel_rfl) (ow_val (.int .u8 219) (by exact xc Try.underlying5 (y55.atE (k := 7) hA58 (by omega))) ?_)
  refine ⟨hS45, ?_⟩
  simp only [lay]
  refine t1 22 rfl (ow_val (.int .u8 252) (by exact xc Try.underlying5 (y51.atE (k := 6) hA54 (by omega))) ?_)
  refine ⟨hS45, ?_⟩
  simp only [lay]
  refine te 27 (.int .u8 255) hS45 rfl (by intro _ _; exact ex_bin (by exact rfl) (by exact rfl) (by exact rfl) (by decide) (b_or8 _ 255 (by decide) _)) ?_
  simp only [lay]
  refine te 28 (.bool true) hS45 rfl (by intro _ _; exact neq_int_ne (by exact rfl) (by exact rfl) (by exact rfl) (by decide)) ?_
  simp only [lay]
  refine te 29 (.bool true) hS45 rfl (by intro _ _; exact xp (b := true)) ?_
  simp only [lay]
  refine te 30 (.bool true) hS45 rfl (by intro _ _; exact xm) ?_
  simp only [lay]
  refine t1 31 rfl (ow_same (.int .u32 1420) (by exact xk Try.func30) (by have := mtu17_any 1400 (by decide) W42; rw [show mtu17 1400 = 1420 from by decide] at this; exact this) ?_)
  refine ⟨hS45, ?_⟩
  simp only [lay]
  refine te 32 (.bool true) hS45 rfl (by intro _ _; exact yq (h := (by decide))) ?_
  simp only [lay]
  refine te 33 (.bool true) hS45 rfl (by intro _ _; exact xp (b := true)) ?_
  simp only [lay]
  refine te 34 (.bool true) hS45 rfl (by intro _ _; exact xa) ?_
  simp only [lay]
  refine wpAnyH_done (by kernel_rfl) ?_ _
  change Code.wp _ _ _ _ _
  refine wp_ret ?_
  try simp only [Exit.then]
  have b69 := bt hb6 hb14
  have l70 := lq hb6 ge12
  have b71 := b69.trans (hb19.mono l70)
  have b72 := bt b71 hb25
  have b73 := bt b72 hb35
  have l74 := lq b72 ge33
  have b75 := b73.trans (hb40.mono l74)
  have b76 := bt b75 hb43
  exact bodyPost_ret (res_one Try.results13 rfl) rfl ⟨rfl, b76⟩
end Go.Proofs.Ytijnifbpbgckgaa
namespace Go.Proofs.Ytijnifbpbgckgaa
open Go.RowKit Go.Shelf
attribute [local irreducible] wpList Code.wp Oper.wp wpOp wpAnyH

def cutm17 (m : D7) : D7 := ⟨m.ty, m.code, m.rest, m.bl.take 66000⟩

set_option maxRecDepth 100000 in
set_option maxHeartbeats 4000000 in
theorem messages17_walk (m : D7) (A : Option Addr) (c : Nat) (s t : List Int) (w : World) (hR : Rd7 w.heap.size w m A c) (hE : E6ok s t) :
  Calls Try.prog 4 #[.agg (m.cells A c), .agg (ends6 s t)] w fun e w' => e = .returned (.bool true) ∧ Below w.heap.size w w' := by
 have y := hR.body
 go_enter Try.func4, Try.ntmps4
 refine wp_sr ?_
 refine lz (ow_box 46 (.tmp 0) _ rfl rfl ?_)
 intro g1 W2 hg3 ge4 sz5 hb6
 have z7 := hb6.size
 simp only [lay]
 refine lz (ow_box 31 (.tmp 1) _ rfl rfl ?_)
 intro g8 W9 hg10 ge11 sz12 hb13
 have z14 := hb13.size
 simp only [lay]
 refine lv (.bool false) (by exact xa) ?_
 simp only [lay]
 refine wn ?_
 refine wp_seq ?_
 refine wp_sr ?_
 refine lv (.pointer (some ⟨g1, 3, none⟩)) (by exact xf 3 0 Try.underlying46) ?_
 simp only [lay]
 have has15 := hg3.to hb13
 refine lv (.slice A m.bl.length c) (by exact xc Try.underlying25 (has15.cell 3 rfl)) ?_
 simp only [lay]
 refine lv (.int .i64 (m.bl.length : Int)) (by exact xz Try.underlying25) ?_
 simp only [lay]
 by_cases q16 : (m.bl.length : Int) > 66000
 case pos =>
  refine lv (.bool true) (by exact ex_gtr (by exact rfl) (by exact rfl) (by exact rfl) (decide_eq_true (by first | assumption | omega | decide))) ?_
  simp only [lay]
  refine wn ?_
  refine wp_cond_true (by exact rfl) ?_
  refine wp_region_lit ?_
  refine lv (.pointer (some ⟨g1, 3, none⟩)) (by exact xf 3 0 Try.underlying46) ?_
  simp only [lay]
  refine lv (.slice A m.bl.length c) (by exact xc Try.underlying25 (has15.cell 3 rfl)) ?_
  simp only [lay]
  have b18 := bt hb6 hb13
  have by19 := y.to b18
  have y17 := by19.to_ (P := Try.prog) 25 Try.underlying25 (by kernel_rfl) (k := 66000) (by omega)
  refine lv (.slice A 66000 c) (by exact ex_slice (by exact rfl) (by exact rfl) (y17.1 _)) ?_
  simp only [lay]
  refine lv (.pointer (some ⟨g1, 3, none⟩)) (by exact xf 3 0 Try.underlying46) ?_
  simp only [lay]
  refine lz (ow_st1 25 (.tmp 16) (.tmp 15) g1 3 (.slice A 66000 c) _ #[.int .u8 m.ty, .int .u8 m.code, .int .u32 m.rest, .slice A 66000 c] _ rfl (by exact rfl) (by exact rfl) rfl (by kernel_rfl) has15 rfl rfl (by kernel_rfl) ?_)
  intro W20 hg21 bs22 hb23
  have z24 := hb23.size
  have has25 := hg10.but6 bs22 (by omega)
  simp only [lay]
  refine wn ?_
  refine wp_sr ?_
  refine lv (.agg #[.int .u8 m.ty, .int .u8 m.code, .int .u32 m.rest, .slice A 66000 c]) (by exact xo (hg21.load (P := Try.prog) 46 Try.underlying46 rfl (by kernel_rfl))) ?_
  simp only [lay]
  refine lv (.agg (ends6 s t)) (by exact xo (has25.load (P := Try.prog) 31 Try.underlying31 rfl (by kernel_rfl))) ?_
  simp only [lay]
  have hl : (m.bl.take 66000).length = 66000 := by rw [List.length_take]; omega
  have hcl : (cutm17 m).cells A c = #[.int .u8 m.ty, .int .u8 m.code, .int .u32 m.rest, .slice A 66000 c] := by
   show (#[.int .u8 m.ty, .int .u8 m.code, .int .u32 m.rest, .slice A (m.bl.take 66000).length c] : Array Value) = _
   rw [hl]
  have hR2 : Rd7 w.heap.size w (cutm17 m) A c := ⟨⟨hR.ok.ty, hR.ok.code, hR.ok.rest⟩, hR.body.takeL 66000⟩
  obtain ⟨MD, hMD⟩ : ∃ x, (msg17 (cutm17 m) s t).1 = x := ⟨_, rfl⟩
  obtain ⟨ME, hME⟩ : ∃ x, (msg17 (cutm17 m) s t).2 = x := ⟨_, rfl⟩
  have l26 : w.heap.size ≤ g1 := Nat.le_of_eq ge4.symm
  have b27 := b18.trans (hb23.mono l26)
  have rd28 := hR2.to b27
  refine lz (ow_call (fun v w' => (∃ A' c', v = .tuple #[.agg (MD.cells A' c'), .int .i64 ME] ∧ MD.ok ∧ OwnB w' W20.heap.size (.slice A' MD.bl.length c') MD.bl) ∧ Below W20.heap.size W20 w') (by exact xk Try.func14) (by have hz : Calls _ _ #[.agg ((cutm17 m).cells A c), .agg (ends6 s t)] _ fun e w' => ∃ v, e = .returned v ∧ (fun v w' => (∃ A' c', v = .tuple #[.agg (MD.cells A' c'), .int .i64 ME] ∧ MD.ok ∧ OwnB w' W20.heap.size (.slice A' MD.bl.length c') MD.bl) ∧ Below W20.heap.size W20 w') v w' := (msg17_any (cutm17 m) A c s t hE W20 rd28).mono (by rintro e w' ⟨⟨A', c', rfl, hk, ho⟩, hb⟩; rw [hMD] at ho hk; exact ⟨_, rfl, ⟨A', c', by rw [hMD, hME], hk, ho⟩, hb⟩); rw [hcl] at hz; exact hz) ?_)
  rintro _ W29 ⟨⟨A31, c32, rfl, hk33, hO34⟩, hb30⟩
  have z35 := hb30.size
  simp only [lay]
  refine lv (.tuple #[.agg (MD.cells A31 c32), .int .i64 ME]) (by exact xm) ?_
  simp only [lay]
  refine lv (.agg (MD.cells A31 c32)) (by exact xe) ?_
  simp only [lay]
  refine lv (.int .i64 ME) (by exact xe) ?_
  simp only [lay]
  refine lz (oa #[.int .u8 0, .int .u8 0, .int .u32 0, .slice none 0 0] ?_)
  intro g36 W37 hg38 ge39 sz40 hb41
  have z42 := hb41.size
  simp only [lay]
  refine lz (ow_st 46 (.tmp 5) (.tmp 21) g36 (MD.cells A31 c32) _ _ rfl (by exact rfl) (by exact rfl) hg38 (by kernel_rfl) rfl (by kernel_rfl) ?_)
  intro W43 hg44 bs45 hb46
  have z47 := hb46.size
  simp only [lay]
  refine lv (.int .i64 ME) (by exact xa) ?_
  simp only [lay]
  refine wn ?_
  refine wp_sr ?_
  have b48 := bt hb30 hb41
  have l49 := lq hb30 ge39
  have b50 := b48.trans (hb46.mono l49)
  have has51 := hg21.to b50
  refine lv (.agg #[.int .u8 m.ty, .int .u8 m.code, .int .u32 m.rest, .slice A 66000 c]) (by exact xo (has51.load (P := Try.prog) 46 Try.underlying46 rfl (by kernel_rfl))) ?_
  simp only [lay]
  have has52 := has25.to b50
  refine lv (.agg (ends6 s t)) (by exact xo (has52.load (P := Try.prog) 31 Try.underlying31 rfl (by kernel_rfl))) ?_
  simp only [lay]
  have b53 := bt b27 hb30
  have b54 := bt b53 hb41
  have l55 := lq b53 ge39
  have b56 := b54.trans (hb46.mono l55)
  have rd57 := hR2.to b56
  refine lz (ow_call (fun v w' => (∃ A' c', v = .tuple #[.agg (MD.cells A' c'), .int .i64 ME] ∧ MD.ok ∧ OwnB w' W43.heap.size (.slice A' MD.bl.length c') MD.bl) ∧ Below W43.heap.size W43 w') (by exact xk Try.func15) (by have hz : Calls _ _ #[.agg ((cutm17 m).cells A c), .agg (ends6 s t)] _ fun e w' => ∃ v, e = .returned v ∧ (fun v w' => (∃ A' c', v = .tuple #[.agg (MD.cells A' c'), .int .i64 ME] ∧ MD.ok ∧ OwnB w' W43.heap.size (.slice A' MD.bl.length c') MD.bl) ∧ Below W43.heap.size W43 w') v w' := (rmsg17_any (cutm17 m) A c s t hE W43 rd57).mono (by rintro e w' ⟨⟨A', c', rfl, hk, ho⟩, hb⟩; rw [hMD] at ho hk; exact ⟨_, rfl, ⟨A', c', by rw [hMD, hME], hk, ho⟩, hb⟩); rw [hcl] at hz; exact hz) ?_)
  rintro _ W58 ⟨⟨A60, c61, rfl, hk62, hO63⟩, hb59⟩
  have z64 := hb59.size
  simp only [lay]
  refine lv (.tuple #[.agg (MD.cells A60 c61), .int .i64 ME]) (by exact xm) ?_
  simp only [lay]
  refine lv (.agg (MD.cells A60 c61)) (by exact xe) ?_
  simp only [lay]
  refine lv (.int .i64 ME) (by exact xe) ?_
  simp only [lay]
  refine lz (oa #[.int .u8 0, .int .u8 0, .int .u32 0, .slice none 0 0] ?_)
  intro g65 W66 hg67 ge68 sz69 hb70
  have z71 := hb70.size
  simp only [lay]
  refine lz (ow_st 46 (.tmp 7) (.tmp 27) g65 (MD.cells A60 c61) _ _ rfl (by exact rfl) (by exact rfl) hg67 (by kernel_rfl) rfl (by kernel_rfl) ?_)
  intro W72 hg73 bs74 hb75
  have z76 := hb75.size
  simp only [lay]
  refine lv (.int .i64 ME) (by exact xa) ?_
  simp only [lay]
  refine wn ?_
  refine wp_sr ?_
  have b77 := bt hb59 hb70
  have l78 := lq hb59 ge68
  have b79 := b77.trans (hb75.mono l78)
  have has80 := hg44.to b79
  refine lv (.agg (MD.cells A31 c32)) (by exact xo (has80.load (P := Try.prog) 46 Try.underlying46 rfl (by kernel_rfl))) ?_
  simp only [lay]
  refine lv (.agg (MD.cells A60 c61)) (by exact xo (hg73.load (P := Try.prog) 46 Try.underlying46 rfl (by kernel_rfl))) ?_
  simp only [lay]
  have l81 : W29.heap.size ≤ g36 := Nat.le_of_eq ge39.symm
  have b82 := hb41.trans (hb46.mono l81)
  have b83 := bt b82 hb59
  have b84 := bt b83 hb70
  have l85 := lq b83 ge68
  have b86 := b84.trans (hb75.mono l85)
  have own87 := hO34.to b86
  have l88 : W58.heap.size ≤ g65 := Nat.le_of_eq ge68.symm
  have b89 := hb70.trans (hb75.mono l88)
  have own90 := hO63.to b89
  refine lz (ow_call (fun v w' => v = .bool true ∧ Below W72.heap.size W72 w') (by exact xk Try.func16) ((rsame_any _ _ MD MD A31 A60 c32 c61 W72 (own_byS own87) (own_byS own90) (Nat.le_refl _) (Nat.le_refl _)).mono (by rintro e w' ⟨q, rfl, hq, hb⟩; obtain rfl : q = true := hq.out.trans (by simp [same7]); exact ⟨_, rfl, rfl, hb⟩)) ?_)
  rintro _ W91 ⟨rfl, hb92⟩
  have z93 := hb92.size
  simp only [lay]
  refine lv (.bool true) (by exact xm) ?_
  simp only [lay]
  refine lv (.int .i64 ME) (by exact xm) ?_
  simp only [lay]
  refine lv (.int .i64 ME) (by exact xm) ?_
  simp only [lay]
  refine lv (.bool true) (by exact yq (h := rfl)) ?_
  simp only [lay]
  refine lv (.bool true) (by exact xp (b := true)) ?_
  simp only [lay]
  refine lv (.bool true) (by exact xm) ?_
  simp only [lay]
  refine lz (ow_call (fun v w' => v = .bool true ∧ Below W91.heap.size W91 w') (by exact xk Try.func13) ((alive17_any W91).mono fun e w' h => ⟨_, h.1, rfl, h.2⟩) ?_)
  rintro _ W94 ⟨rfl, hb95⟩
  have z96 := hb95.size
  simp only [lay]
  refine lv (.bool true) (by exact xp (b := true)) ?_
  simp only [lay]
  refine lv (.bool true) (by exact xa) ?_
  simp only [lay]
  refine wn ?_
  refine wp_ret ?_
  try simp only [Exit.then]
  have b97 := bt b56 hb59
  have b98 := bt b97 hb70
  have l99 := lq b97 ge68
  have b100 := b98.trans (hb75.mono l99)
  have b101 := bt b100 hb92
  have b102 := bt b101 hb95
  exact bodyPost_ret (res_one Try.results4 rfl) rfl ⟨rfl, b102⟩
 refine lv (.bool false) (by exact ex_gtr (by exact rfl) (by exact rfl) (by exact rfl) (decide_eq_false (by first | assumption | omega | decide))) ?_
 simp only [lay]
 refine wn ?_
 refine wp_cond_false (by exact rfl) ?_
 refine wp_skip ?_
 change Code.wp _ _ _ _ _
 refine wp_sr ?_
 refine lv (.agg (m.cells A c)) (by exact xo (has15.load (P := Try.prog) 46 Try.underlying46 rfl (by kernel_rfl))) ?_
 simp only [lay]
 refine lv (.agg (ends6 s t)) (by exact xo (hg10.load (P := Try.prog) 31 Try.underlying31 rfl (by kernel_rfl))) ?_
 simp only [lay]
 have hR2 := hR
 obtain ⟨MD, hMD⟩ : ∃ x, (msg17 m s t).1 = x := ⟨_, rfl⟩
 obtain ⟨ME, hME⟩ : ∃ x, (msg17 m s t).2 = x := ⟨_, rfl⟩
 have b103 := bt hb6 hb13
 have rd104 := hR2.to b103
 refine lz (ow_call (fun v w' => (∃ A' c', v = .tuple #[.agg (MD.cells A' c'), .int .i64 ME] ∧ MD.ok ∧ OwnB w' W9.heap.size (.slice A' MD.bl.length c') MD.bl) ∧ Below W9.heap.size W9 w') (by exact xk Try.func14) ((msg17_any m A c s t hE W9 rd104).mono (by rintro e w' ⟨⟨A', c', rfl, hk, ho⟩, hb⟩; rw [hMD] at ho hk; exact ⟨_, rfl, ⟨A', c', by rw [hMD, hME], hk, ho⟩, hb⟩)) ?_)
 rintro _ W105 ⟨⟨A107, c108, rfl, hk109, hO110⟩, hb106⟩
 have z111 := hb106.size
 simp only [lay]
 refine lv (.tuple #[.agg (MD.cells A107 c108), .int .i64 ME]) (by exact xm) ?_
 simp only [lay]
 refine lv (.agg (MD.cells A107 c108)) (by exact xe) ?_
 simp only [lay]
 refine lv (.int .i64 ME) (by exact xe) ?_
 simp only [lay]
 refine lz (oa #[.int .u8 0, .int .u8 0, .int .u32 0, .slice none 0 0] ?_)
 intro g112 W113 hg114 ge115 sz116 hb117
 have z118 := hb117.size
 simp only [lay]
 refine lz (ow_st 46 (.tmp 5) (.tmp 21) g112 (MD.cells A107 c108) _ _ rfl (by exact rfl) (by exact rfl) hg114 (by kernel_rfl) rfl (by kernel_rfl) ?_)
 intro W119 hg120 bs121 hb122
 have z123 := hb122.size
 simp only [lay]
 refine lv (.int .i64 ME) (by exact xa) ?_
 simp only [lay]
 refine wn ?_
 refine wp_sr ?_
 have b124 := bt hb13 hb106
 have b125 := bt b124 hb117
 have l126 := lq b124 ge115
 have b127 := b125.trans (hb122.mono l126)
 have has128 := hg3.to b127
 refine lv (.agg (m.cells A c)) (by exact xo (has128.load (P := Try.prog) 46 Try.underlying46 rfl (by kernel_rfl))) ?_
 simp only [lay]
 have b129 := bt hb106 hb117
 have l130 := lq hb106 ge115
 have b131 := b129.trans (hb122.mono l130)
 have has132 := hg10.to b131
 refine lv (.agg (ends6 s t)) (by exact xo (has132.load (P := Try.prog) 31 Try.underlying31 rfl (by kernel_rfl))) ?_
 simp only [lay]
 have b133 := bt b103 hb106
 have b134 := bt b133 hb117
 have l135 := lq b133 ge115
 have b136 := b134.trans (hb122.mono l135)
 have rd137 := hR2.to b136
 refine lz (ow_call (fun v w' => (∃ A' c', v = .tuple #[.agg (MD.cells A' c'), .int .i64 ME] ∧ MD.ok ∧ OwnB w' W119.heap.size (.slice A' MD.bl.length c') MD.bl) ∧ Below W119.heap.size W119 w') (by exact xk Try.func15) ((rmsg17_any m A c s t hE W119 rd137).mono (by rintro e w' ⟨⟨A', c', rfl, hk, ho⟩, hb⟩; rw [hMD] at ho hk; exact ⟨_, rfl, ⟨A', c', by rw [hMD, hME], hk, ho⟩, hb⟩)) ?_)
 rintro _ W138 ⟨⟨A140, c141, rfl, hk142, hO143⟩, hb139⟩
 have z144 := hb139.size
 simp only [lay]
 refine lv (.tuple #[.agg (MD.cells A140 c141), .int .i64 ME]) (by exact xm) ?_
 simp only [lay]
 refine lv (.agg (MD.cells A140 c141)) (by exact xe) ?_
 simp only [lay]
 refine lv (.int .i64 ME) (by exact xe) ?_
 simp only [lay]
 refine lz (oa #[.int .u8 0, .int .u8 0, .int .u32 0, .slice none 0 0] ?_)
 intro g145 W146 hg147 ge148 sz149 hb150
 have z151 := hb150.size
 simp only [lay]
 refine lz (ow_st 46 (.tmp 7) (.tmp 27) g145 (MD.cells A140 c141) _ _ rfl (by exact rfl) (by exact rfl) hg147 (by kernel_rfl) rfl (by kernel_rfl) ?_)
 intro W152 hg153 bs154 hb155
 have z156 := hb155.size
 simp only [lay]
 refine lv (.int .i64 ME) (by exact xa) ?_
 simp only [lay]
 refine wn ?_
 refine wp_sr ?_
 have b157 := bt hb139 hb150
 have l158 := lq hb139 ge148
 have b159 := b157.trans (hb155.mono l158)
 have has160 := hg120.to b159
 refine lv (.agg (MD.cells A107 c108)) (by exact xo (has160.load (P := Try.prog) 46 Try.underlying46 rfl (by kernel_rfl))) ?_
 simp only [lay]
 refine lv (.agg (MD.cells A140 c141)) (by exact xo (hg153.load (P := Try.prog) 46 Try.underlying46 rfl (by kernel_rfl))) ?_
 simp only [lay]
 have l161 : W105.heap.size ≤ g112 := Nat.le_of_eq ge115.symm
 have b162 := hb117.trans (hb122.mono l161)
 have b163 := bt b162 hb139
 have b164 := bt b163 hb150
 have l165 := lq b163 ge148
 have b166 := b164.trans (hb155.mono l165)
 have own167 := hO110.to b166
 have l168 : W138.heap.size ≤ g145 := Nat.le_of_eq ge148.symm
 have b169 := hb150.trans (hb155.mono l168)
 have own170 := hO143.to b169
 refine lz (ow_call (fun v w' => v = .bool true ∧ Below W152.heap.size W152 w') (by exact xk Try.func16) ((rsame_any _ _ MD MD A107 A140 c108 c141 W152 (own_byS own167) (own_byS own170) (Nat.le_refl _) (Nat.le_refl _)).mono (by rintro e w' ⟨q, rfl, hq, hb⟩; obtain rfl : q = true := hq.out.trans (by simp [same7]); exact ⟨_, rfl, rfl, hb⟩)) ?_)
 rintro _ W171 ⟨rfl, hb172⟩
 have z173 := hb172.size
 simp only [lay]
 refine lv (.bool true) (by exact xm) ?_
 simp only [lay]
 refine lv (.int .i64 ME) (by exact xm) ?_
 simp only [lay]
 refine lv (.int .i64 ME) (by exact xm) ?_
 simp only [lay]
 refine lv (.bool true) (by exact yq (h := rfl)) ?_
 simp only [lay]
 refine lv (.bool true) (by exact xp (b := true)) ?_
 simp only [lay]
 refine lv (.bool true) (by exact xm) ?_
 simp only [lay]
 refine lz (ow_call (fun v w' => v = .bool true ∧ Below W171.heap.size W171 w') (by exact xk Try.func13) ((alive17_any W171).mono fun e w' h => ⟨_, h.1, rfl, h.2⟩) ?_)
 rintro _ W174 ⟨rfl, hb175⟩
 have z176 := hb175.size
 simp only [lay]
 refine lv (.bool true) (by exact xp (b := true)) ?_
 simp only [lay]
 refine lv (.bool true) (by exact xa) ?_
 simp only [lay]
 refine wn ?_
 refine wp_ret ?_
 try simp only [Exit.then]
 have b177 := bt b136 hb139
 have b178 := bt b177 hb150
 have l179 := lq b177 ge148
 have b180 := b178.trans (hb155.mono l179)
 have b181 := bt b180 hb172
 have b182 := bt b181 hb175
 exact bodyPost_ret (res_one Try.results4 rfl) rfl ⟨rfl, b182⟩
end Go.Proofs.Ytijnifbpbgckgaa
