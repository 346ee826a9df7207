/-
  Lemmas and walks for the row of TosixInside (part 41 of 41).
-/
import Derived.Test.YtijnifbpbgckgaaTiAD
import Derived.Test.YtijnifbpbgckgaaTiAG
import Derived.Test.YtijnifbpbgckgaaTiAO
import Derived.Test.YtijnifbpbgckgaaTiBG
import Derived.Test.YtijnifbpbgckgaaTiBL
import Derived.Test.YtijnifbpbgckgaaTiBN
set_option linter.unusedVariables false
set_option linter.unusedSimpArgs false
namespace Go.Proofs.Ytijnifbpbgckgaa
open Go.RowKit Go.Shelf
attribute [local irreducible] wpList Code.wp Oper.wp wpOp wpAnyH

def dA17 : D4 := ⟨0, 0, false, false, 0, 7, 17, 10, 0, 0, 1, 10, 0, 0, 2, [], [0, 1, 0, 2, 0, 8, 0, 0]⟩
def sA17 : List Int := [1, 0, 0, 0, 0, 0, 0, 0, 0, 0, 0, 0, 0, 0, 0, 0]
def tA17 : List Int := [2, 0, 0, 0, 0, 0, 0, 0, 0, 0, 0, 0, 0, 0, 0, 0]
def zA17 : List Int := [0, 0, 0, 0, 0, 0, 0, 0, 0, 0, 0, 0, 0, 0, 0, 0]
def DA17 : D6 := ⟨0, 0, 7, sA17, tA17, [], false, 0, 0, false, 17, [0, 1, 0, 2, 0, 8, 252, 219]⟩
theorem alive17_pack : pack17 dA17 sA17 tA17 zA17 zA17 = (DA17, 0) := by kernel_rfl
theorem rngs_of {l : List Int} (h : l.all (fun x => decide (0 ≤ x) && decide (x ≤ 255)) = true) : InB l := by
 intro x hx
 have := List.all_eq_true.1 h x hx
 simpa using this
theorem alive17_e : E6ok sA17 tA17 := ⟨rfl, rngs_of (by decide), rfl, rngs_of (by decide)⟩
theorem alive17_z : E6ok zA17 zA17 := ⟨rfl, rngs_of (by decide), rfl, rngs_of (by decide)⟩
theorem dA17_ok : dA17.ok := ⟨by decide, by decide, by decide, by decide, by decide, rngs_of (by decide), rngs_of (by decide)⟩
theorem Own6.to {w w' : World} {base : Nat} {D : D6} {p : W6} (h : Own6 w base D p) (b : Below w.heap.size w w') : Own6 w' base D p := h.below b
set_option maxRecDepth 100000 in
set_option maxHeartbeats 4000000 in
theorem alive17_any (w : World) :
  Calls Try.prog 13 #[] w fun e w' => e = .returned (.bool true) ∧ Below w.heap.size w w' := by
 go_enter Try.func13, Try.ntmps13
 refine wp_sr ?_
 refine lv (.bool false) (by exact xa) ?_
 simp only [lay]
 refine wn ?_
 refine wp_sr ?_
 refine lv (.agg #[.int .u8 10, .int .u8 0, .int .u8 0, .int .u8 1]) (by kernel_rfl) ?_
 simp only [lay]
 refine lv (.agg #[.int .u8 10, .int .u8 0, .int .u8 0, .int .u8 2]) (by kernel_rfl) ?_
 simp only [lay]
 refine lz (ow_build (u8s [0, 1, 0, 2, 0, 8, 0, 0]) rfl Try.underlying25 (by kernel_rfl) (by kernel_rfl) rfl (by decide) (by decide) (by first | rfl | (simp only [List.map_toArray, List.map_cons, List.map_nil] <;> rfl)) (u8s_cells _) ?_)
 intro g1 W2 hg3 ge4 sz5 hb6
 have z7 := hb6.size
 have hO8 := OwnB.blk hg3 (Nat.le_of_eq ge4.symm) rfl (by intro x hx; simp only [List.mem_cons, List.not_mem_nil, or_false] at hx; omega) (by simp)
 simp only [lay]
 refine lv (.agg #[.int .u8 0, .int .u16 0, .bool false, .bool false, .int .i64 0, .int .u8 7, .int .u8 17, .int .u8 10, .int .u8 0, .int .u8 0, .int .u8 1, .int .u8 10, .int .u8 0, .int .u8 0, .int .u8 2, .slice none 0 0, .slice (some ⟨g1, 0, none⟩) 8 8]) (by kernel_rfl) ?_
 simp only [lay]
 refine lz (oa #[.int .u8 0, .int .u16 0, .bool false, .bool false, .int .i64 0, .int .u8 0, .int .u8 0, .int .u8 0, .int .u8 0, .int .u8 0, .int .u8 0, .int .u8 0, .int .u8 0, .int .u8 0, .int .u8 0, .slice none 0 0, .slice none 0 0] ?_)
 intro g9 W10 hg11 ge12 sz13 hb14
 have z15 := hb14.size
 simp only [lay]
 refine lz (ow_st 27 (.tmp 1) (.tmp 7) g9 #[.int .u8 0, .int .u16 0, .bool false, .bool false, .int .i64 0, .int .u8 7, .int .u8 17, .int .u8 10, .int .u8 0, .int .u8 0, .int .u8 1, .int .u8 10, .int .u8 0, .int .u8 0, .int .u8 2, .slice none 0 0, .slice (some ⟨g1, 0, none⟩) 8 8] _ _ rfl (by exact rfl) (by exact rfl) hg11 (by kernel_rfl) rfl (by kernel_rfl) ?_)
 intro W16 hg17 bs18 hb19
 have z20 := hb19.size
 simp only [lay]
 refine wn ?_
 refine wp_sr ?_
 refine lv (.agg #[.int .u8 0, .int .u16 0, .bool false, .bool false, .int .i64 0, .int .u8 7, .int .u8 17, .int .u8 10, .int .u8 0, .int .u8 0, .int .u8 1, .int .u8 10, .int .u8 0, .int .u8 0, .int .u8 2, .slice none 0 0, .slice (some ⟨g1, 0, none⟩) 8 8]) (by exact xo (hg17.load (P := Try.prog) 27 Try.underlying27 rfl (by kernel_rfl))) ?_
 simp only [lay]
 refine lv (.agg #[.int .u8 1, .int .u8 0, .int .u8 0, .int .u8 0, .int .u8 0, .int .u8 0, .int .u8 0, .int .u8 0, .int .u8 0, .int .u8 0, .int .u8 0, .int .u8 0, .int .u8 0, .int .u8 0, .int .u8 0, .int .u8 0]) (by kernel_rfl) ?_
 simp only [lay]
 refine lv (.agg #[.int .u8 2, .int .u8 0, .int .u8 0, .int .u8 0, .int .u8 0, .int .u8 0, .int .u8 0, .int .u8 0, .int .u8 0, .int .u8 0, .int .u8 0, .int .u8 0, .int .u8 0, .int .u8 0, .int .u8 0, .int .u8 0]) (by kernel_rfl) ?_
 simp only [lay]
 refine lv (.agg #[.int .u8 1, .int .u8 0, .int .u8 0, .int .u8 0, .int .u8 0, .int .u8 0, .int .u8 0, .int .u8 0, .int .u8 0, .int .u8 0, .int .u8 0, .int .u8 0, .int .u8 0, .int .u8 0, .int .u8 0, .int .u8 0, .int .u8 2, .int .u8 0, .int .u8 0, .int .u8 0, .int .u8 0, .int .u8 0, .int .u8 0, .int .u8 0, .int .u8 0, .int .u8 0, .int .u8 0, .int .u8 0, .int .u8 0, .int .u8 0, .int .u8 0, .int .u8 0]) (by kernel_rfl) ?_
 simp only [lay]
 refine lv (.agg #[.int .u8 0, .int .u8 0, .int .u8 0, .int .u8 0, .int .u8 0, .int .u8 0, .int .u8 0, .int .u8 0, .int .u8 0, .int .u8 0, .int .u8 0, .int .u8 0, .int .u8 0, .int .u8 0, .int .u8 0, .int .u8 0, .int .u8 0, .int .u8 0, .int .u8 0, .int .u8 0, .int .u8 0, .int .u8 0, .int .u8 0, .int .u8 0, .int .u8 0, .int .u8 0, .int .u8 0, .int .u8 0, .int .u8 0, .int .u8 0, .int .u8 0, .int .u8 0]) (by kernel_rfl) ?_
 simp only [lay]
 have l21 : W2.heap.size ≤ g9 := Nat.le_of_eq ge12.symm
 have b22 := hb14.trans (hb19.mono l21)
 have own23 := hO8.to b22
 refine lz (ow_call (fun v w' => (∃ p, v = .tuple #[.agg (DA17.cells p), .int .i64 0] ∧ Own6 w' W16.heap.size DA17 p) ∧ Below W16.heap.size W16 w') (by exact xk Try.func10) ((pack17_any dA17 _ sA17 tA17 zA17 zA17 alive17_e alive17_z W16 (⟨dA17_ok, By.nil _ _ none (Nat.zero_le _), (own_byS own23)⟩ : Rd4 W16.heap.size W16 dA17 ⟨none, 0, (some ⟨g1, 0, none⟩), 8⟩)).mono (by rintro e w' ⟨⟨p, rfl, ho⟩, hb⟩; rw [alive17_pack] at ho; exact ⟨_, rfl, ⟨p, by rw [alive17_pack], ho⟩, hb⟩)) ?_)
 rintro _ W24 ⟨⟨p26, rfl, ho27⟩, hb25⟩
 have z28 := hb25.size
 have hO29 : OwnB W24 W16.heap.size (.slice p26.bA 8 p26.bc) [0, 1, 0, 2, 0, 8, 252, 219] := ho27.body
 simp only [lay]
 refine lv (.tuple #[.agg (DA17.cells p26), .int .i64 0]) (by exact xm) ?_
 simp only [lay]
 refine lv (.agg (DA17.cells p26)) (by exact xe) ?_
 simp only [lay]
 refine lv (.int .i64 0) (by exact xe) ?_
 simp only [lay]
 refine lz (oa #[.int .u8 0, .int .u32 0, .int .u8 0, .int .u8 0, .int .u8 0, .int .u8 0, .int .u8 0, .int .u8 0, .int .u8 0, .int .u8 0, .int .u8 0, .int .u8 0, .int .u8 0, .int .u8 0, .int .u8 0, .int .u8 0, .int .u8 0, .int .u8 0, .int .u8 0, .int .u8 0, .int .u8 0, .int .u8 0, .int .u8 0, .int .u8 0, .int .u8 0, .int .u8 0, .int .u8 0, .int .u8 0, .int .u8 0, .int .u8 0, .int .u8 0, .int .u8 0, .int .u8 0, .int .u8 0, .int .u8 0, .slice none 0 0, .bool false, .int .u32 0, .int .i64 0, .bool false, .int .u8 0, .slice none 0 0] ?_)
 intro g30 W31 hg32 ge33 sz34 hb35
 have z36 := hb35.size
 simp only [lay]
 refine lz (ow_st 36 (.tmp 2) (.tmp 15) g30 (DA17.cells p26) _ _ rfl (by exact rfl) (by exact rfl) hg32 (by kernel_rfl) rfl (by kernel_rfl) ?_)
 intro W37 hg38 bs39 hb40
 have z41 := hb40.size
 simp only [lay]
 refine lv (.int .i64 0) (by exact xa) ?_
 simp only [lay]
 refine wn ?_
 refine wp_seq ?_
 refine rg_drawn W37.heap.size (by kernel_rfl) (Nat.le_refl _) ?_
 intro W42 hb43 hs44 hS45
 have z46 := hb43.size
 refine te 0 (.int .i64 0) hS45 rfl (by intro _ _; exact xm) ?_
 simp only [lay]
 refine te 1 (.bool true) hS45 rfl (by intro _ _; exact yq (h := (by decide))) ?_
 simp only [lay]
 refine te 2 (.bool true) hS45 rfl (by intro _ _; exact xm) ?_
 simp only [lay]
 refine te 3 (.pointer (some ⟨g30, 2, none⟩)) hS45 rfl (by intro _ _; exact xf 2 0 Try.underlying36) ?_
 simp only [lay]
 refine te 4 (.int .u8 7) hS45 rfl (by intro _ h; exact xc Try.underlying5 ((hg38.to h).cell 2 rfl)) ?_
 simp only [lay]
 refine te 5 (.bool true) hS45 rfl (by intro _ _; exact yq (h := (by decide))) ?_
 simp only [lay]
 refine te 6 (.bool true) hS45 rfl (by intro _ _; exact xp (b := true)) ?_
 simp only [lay]
 refine te 7 (.bool true) hS45 rfl (by intro _ _; exact xm) ?_
 simp only [lay]
 refine te 8 (.pointer (some ⟨g30, 40, none⟩)) hS45 rfl (by intro _ _; exact xf 40 0 Try.underlying36) ?_
 simp only [lay]
 refine te 9 (.int .u8 17) hS45 rfl (by intro _ h; exact xc Try.underlying5 ((hg38.to h).cell 40 rfl)) ?_
 simp only [lay]
 refine te 10 (.bool true) hS45 rfl (by intro _ _; exact yq (h := (by decide))) ?_
 simp only [lay]
 refine te 11 (.bool true) hS45 rfl (by intro _ _; exact xp (b := true)) ?_
 simp only [lay]
 refine te 12 (.bool true) hS45 rfl (by intro _ _; exact xm) ?_
 simp only [lay]
 refine te 13 (.pointer (some ⟨g30, 41, none⟩)) hS45 rfl (by intro _ _; exact xf 41 0 Try.underlying36) ?_
 simp only [lay]
 refine te 14 (.slice p26.bA 8 p26.bc) hS45 rfl (by intro _ h; exact xc Try.underlying25 ((hg38.to h).cell 41 rfl)) ?_
 simp only [lay]
 refine te 15 (.int .i64 8) hS45 rfl (by intro _ _; exact xz Try.underlying25) ?_
 simp only [lay]
 refine te 16 (.bool true) hS45 rfl (by intro _ _; exact yq (h := (by decide))) ?_
 simp only [lay]
 refine te 17 (.bool true) hS45 rfl (by intro _ _; exact xp (b := true)) ?_
 simp only [lay]
 refine te 18 (.bool true) hS45 rfl (by intro _ _; exact xm) ?_
 simp only [lay]
 refine te 19 (.pointer (some ⟨g30, 41, none⟩)) hS45 rfl (by intro _ _; exact xf 41 0 Try.underlying36) ?_
 simp only [lay]
 refine te 20 (.slice p26.bA 8 p26.bc) hS45 rfl (by intro _ h; exact xc Try.underlying25 ((hg38.to h).cell 41 rfl)) ?_
 simp only [lay]
 have l47 : W24.heap.size ≤ g30 := Nat.le_of_eq ge33.symm
 have b48 := hb35.trans (hb40.mono l47)
 have b49 := bt b48 hb43
 have own50 := hO29.to b49
 have y51 := (own_byS own50)
 obtain ⟨b52, o53, hA54⟩ := y51.form (k := 6) (by omega)
 refine te 21 (.pointer (some ⟨b52, o53 + 6, none⟩)) hS45 rfl (by intro _ _; exact xi 6 Try.underlying25 hA54) ?_
 simp only [lay]
 refine te 23 (.pointer (some ⟨g30, 41, none⟩)) hS45 rfl (by intro _ _; exact xf 41 0 Try.underlying36) ?_
 simp only [lay]
 refine te 24 (.slice p26.bA 8 p26.bc) hS45 rfl (by intro _ h; exact xc Try.underlying25 ((hg38.to h).cell 41 rfl)) ?_
 simp only [lay]
 have y55 := (own_byS own50)
 obtain ⟨b56, o57, hA58⟩ := y55.form (k := 7) (by omega)
 refine te 25 (.pointer (some ⟨b56, o57 + 7, none⟩)) hS45 rfl (by intro _ _; exact xi 7 Try.underlying25 hA58) ?_
 simp only [lay]
 refine tk_two (i := 22) (j := 26) (by kernel_rfl) ?L59 ?L60
 case L59 =>
  refine rs (i := 22) rfl (by kernel_rfl) (ow_val (.int .u8 252) (by exact xc Try.underlying5 (y51.atE (k := 6) hA54 (by omega))) ?_)
  refine ⟨hS45, ?_⟩
  simp only [lay]
  refine t1 26 rfl (ow_val (.int .u8 219) (by exact xc Try.underlying5 (y55.atE (k := 7) hA58 (by omega))) ?_)
  refine ⟨hS45, ?_⟩
  simp only [lay]
  refine te 27 (.int .u8 255) hS45 rfl (by intro _ _; exact ex_bin (by exact rfl) (by exact rfl) (by exact rfl) (by decide) (b_or8 _ 255 (by decide) _)) ?_
  simp only [lay]
  refine te 28 (.bool true) hS45 rfl (by intro _ _; exact neq_int_ne (by exact rfl) (by exact rfl) (by exact rfl) (by decide)) ?_
  simp only [lay]
  refine te 29 (.bool true) hS45 rfl (by intro _ _; exact xp (b := true)) ?_
  simp only [lay]
  refine te 30 (.bool true) hS45 rfl (by intro _ _; exact xm) ?_
  simp only [lay]
  refine t1 31 rfl (ow_same (.int .u32 1420) (by exact xk Try.func30) (by have := mtu17_any 1400 (by decide) W42; rw [show mtu17 1400 = 1420 from by decide] at this; exact this) ?_)
  refine ⟨hS45, ?_⟩
  simp only [lay]
  refine te 32 (.bool true) hS45 rfl (by intro _ _; exact yq (h := (by decide))) ?_
  simp only [lay]
  refine te 33 (.bool true) hS45 rfl (by intro _ _; exact xp (b := true)) ?_
  simp only [lay]
  refine te 34 (.bool true) hS45 rfl (by intro _ _; exact xa) ?_
  simp only [lay]
  refine wpAnyH_done (by kernel_rfl) ?_ _
  change Code.wp _ _ _ _ _
  refine wp_ret ?_
  try simp only [Exit.then]
  have b61 := bt hb6 hb14
  have l62 := lq hb6 ge12
  have b63 := b61.trans (hb19.mono l62)
  have b64 := bt b63 hb25
  have b65 := bt b64 hb35
  have l66 := lq b64 ge33
  have b67 := b65.trans (hb40.mono l66)
  have b68 := bt b67 hb43
  exact bodyPost_ret (res_one Try.results13 rfl) rfl ⟨rfl, b68⟩
 case L60 =>
  refine rs (i := 26) rfl (by kernel_rfl) (ow_val (.int .u8 219) (by exact xc Try.underlying5 (y55.atE (k := 7) hA58 (by omega))) ?_)
  refine ⟨hS45, ?_⟩
  simp only [lay]
  refine t1 22 rfl (ow_val (.int .u8 252) (by exact xc Try.underlying5 (y51.atE (k := 6) hA54 (by omega))) ?_)
  refine ⟨hS45, ?_⟩
  simp only [lay]
  refine te 27 (.int .u8 255) hS45 rfl (by intro _ _; exact ex_bin (by exact rfl) (by exact rfl) (by exact rfl) (by decide) (b_or8 _ 255 (by decide) _)) ?_
  simp only [lay]
  refine te 28 (.bool true) hS45 rfl (by intro _ _; exact neq_int_ne (by exact rfl) (by exact rfl) (by exact rfl) (by decide)) ?_
  simp only [lay]
  refine te 29 (.bool true) hS45 rfl (by intro _ _; exact xp (b := true)) ?_
  simp only [lay]
  refine te 30 (.bool true) hS45 rfl (by intro _ _; exact xm) ?_
  simp only [lay]
  refine t1 31 rfl (ow_same (.int .u32 1420) (by exact xk Try.func30) (by have := mtu17_any 1400 (by decide) W42; rw [show mtu17 1400 = 1420 from by decide] at this; exact this) ?_)
  refine ⟨hS45, ?_⟩
  simp only [lay]
  refine te 32 (.bool true) hS45 rfl (by intro _ _; exact yq (h := (by decide))) ?_
  simp only [lay]
  refine te 33 (.bool true) hS45 rfl (by intro _ _; exact xp (b := true)) ?_
  simp only [lay]
  refine te 34 (.bool true) hS45 rfl (by intro _ _; exact xa) ?_
  simp only [lay]
  refine wpAnyH_done (by kernel_rfl) ?_ _
  change Code.wp _ _ _ _ _
  refine wp_ret ?_
  try simp only [Exit.then]
  have b69 := bt hb6 hb14
  have l70 := lq hb6 ge12
  have b71 := b69.trans (hb19.mono l70)
  have b72 := bt b71 hb25
  have b73 := bt b72 hb35
  have l74 := lq b72 ge33
  have b75 := b73.trans (hb40.mono l74)
  have b76 := bt b75 hb43
  exact bodyPost_ret (res_one Try.results13 rfl) rfl ⟨rfl, b76⟩
end Go.Proofs.Ytijnifbpbgckgaa
namespace Go.Proofs.Ytijnifbpbgckgaa
open Go.RowKit Go.Shelf
attribute [local irreducible] wpList Code.wp Oper.wp wpOp wpAnyH

set_option maxRecDepth 100000 in
set_option maxHeartbeats 4000000 in
theorem inside17_walk (A : Option Addr) (c : Nat) (l s t : List Int) (w : World) (y : By w.heap.size w A l.length c l) (hE : E6ok s t) :
  Calls Try.prog 5 #[.slice A l.length c, .agg (ends6 s t)] w fun e w' => e = .returned (.bool true) ∧ Below w.heap.size w w' := by
 go_enter Try.func5, Try.ntmps5
 refine wp_sr ?_
 refine lz (ow_box 31 (.tmp 1) _ rfl rfl ?_)
 intro g1 W2 hg3 ge4 sz5 hb6
 have z7 := hb6.size
 simp only [lay]
 refine lv (.bool false) (by exact xa) ?_
 simp only [lay]
 refine wn ?_
 refine wp_seq ?_
 refine wp_sr ?_
 refine lv (.slice A l.length c) (by exact xm) ?_
 simp only [lay]
 refine lv (.int .i64 (l.length : Int)) (by exact xz Try.underlying25) ?_
 simp only [lay]
 by_cases q8 : (l.length : Int) > 66000
 case pos =>
  refine lv (.bool true) (by exact ex_gtr (by exact rfl) (by exact rfl) (by exact rfl) (decide_eq_true (by first | assumption | omega | decide))) ?_
  simp only [lay]
  refine wn ?_
  refine wp_cond_true (by exact rfl) ?_
  refine wp_region_lit ?_
  refine lv (.slice A l.length c) (by exact xm) ?_
  simp only [lay]
  have by10 := y.to hb6
  have y9 := by10.to_ (P := Try.prog) 25 Try.underlying25 (by kernel_rfl) (k := 66000) (by omega)
  refine lv (.slice A 66000 c) (by exact ex_slice (by exact rfl) (by exact rfl) (y9.1 _)) ?_
  simp only [lay]
  refine lv (.slice A 66000 c) (by exact xa) ?_
  simp only [lay]
  refine wn ?_
  refine wp_sr ?_
  refine lv (.slice A 66000 c) (by exact xm) ?_
  simp only [lay]
  refine lv (.agg (ends6 s t)) (by exact xo (hg3.load (P := Try.prog) 31 Try.underlying31 rfl (by kernel_rfl))) ?_
  simp only [lay]
  obtain ⟨IL, hIL⟩ : ∃ x, (inside17 (l.take 66000) s t).1 = x := ⟨_, rfl⟩
  obtain ⟨IE, hIE⟩ : ∃ x, (inside17 (l.take 66000) s t).2 = x := ⟨_, rfl⟩
  refine lz (ow_call (fun v w' => (∃ u, v = .tuple #[u, .int .i64 IE] ∧ OwnB w' W2.heap.size u IL) ∧ Below W2.heap.size W2 w') (by exact xk Try.func17) ((inside17_any _ _ _ _ s t hE W2 y9.2).mono (by rintro e w' ⟨⟨v, rfl, ho⟩, hb⟩; rw [hIL] at ho; exact ⟨_, rfl, ⟨v, by rw [hIE], ho⟩, hb⟩)) ?_)
  rintro _ W11 ⟨⟨u13, rfl, hO14⟩, hb12⟩
  have z15 := hb12.size
  obtain ⟨A16, c17, rfl, y18⟩ := hO14.by_
  simp only [lay]
  refine lv (.tuple #[.slice A16 IL.length c17, .int .i64 IE]) (by exact xm) ?_
  simp only [lay]
  refine lv (.slice A16 IL.length c17) (by exact xe) ?_
  simp only [lay]
  refine lv (.int .i64 IE) (by exact xe) ?_
  simp only [lay]
  refine lv (.slice A16 IL.length c17) (by exact xa) ?_
  simp only [lay]
  refine lv (.int .i64 IE) (by exact xa) ?_
  simp only [lay]
  refine wn ?_
  refine wp_sr ?_
  refine lv (.slice A 66000 c) (by exact xm) ?_
  simp only [lay]
  have has19 := hg3.to hb12
  refine lv (.agg (ends6 s t)) (by exact xo (has19.load (P := Try.prog) 31 Try.underlying31 rfl (by kernel_rfl))) ?_
  simp only [lay]
  have by20 := y9.2.to hb12
  refine lz (ow_call (fun v w' => (∃ u, v = .tuple #[u, .int .i64 IE] ∧ OwnB w' W11.heap.size u IL) ∧ Below W11.heap.size W11 w') (by exact xk Try.func18) ((rInside17_any _ _ _ _ s t hE W11 by20).mono (by rintro e w' ⟨⟨v, rfl, ho⟩, hb⟩; rw [hIL] at ho; exact ⟨_, rfl, ⟨v, by rw [hIE], ho⟩, hb⟩)) ?_)
  rintro _ W21 ⟨⟨u23, rfl, hO24⟩, hb22⟩
  have z25 := hb22.size
  obtain ⟨A26, c27, rfl, y28⟩ := hO24.by_
  simp only [lay]
  refine lv (.tuple #[.slice A26 IL.length c27, .int .i64 IE]) (by exact xm) ?_
  simp only [lay]
  refine lv (.slice A26 IL.length c27) (by exact xe) ?_
  simp only [lay]
  refine lv (.int .i64 IE) (by exact xe) ?_
  simp only [lay]
  refine lv (.slice A26 IL.length c27) (by exact xa) ?_
  simp only [lay]
  refine lv (.int .i64 IE) (by exact xa) ?_
  simp only [lay]
  refine wn ?_
  refine wp_sr ?_
  refine lv (.slice A16 IL.length c17) (by exact xm) ?_
  simp only [lay]
  have own29 := hO14.to hb22
  refine lv (.string (strOfNums IL)) (by exact xv (By.conv (P := Try.prog) (own_byS own29) 25 9 Try.underlying25 Try.underlying5 Try.underlying9)) ?_
  simp only [lay]
  refine lv (.slice A26 IL.length c27) (by exact xm) ?_
  simp only [lay]
  refine lv (.string (strOfNums IL)) (by exact xv (By.conv (P := Try.prog) (own_byS hO24) 25 9 Try.underlying25 Try.underlying5 Try.underlying9)) ?_
  simp only [lay]
  refine lv (.bool true) (by exact eq_str_self (s := (strOfNums IL)) (by exact rfl) (by exact rfl) (by exact rfl)) ?_
  simp only [lay]
  refine lv (.bool true) (by exact xm) ?_
  simp only [lay]
  refine lv (.int .i64 IE) (by exact xm) ?_
  simp only [lay]
  refine lv (.int .i64 IE) (by exact xm) ?_
  simp only [lay]
  refine lv (.bool true) (by exact yq (h := rfl)) ?_
  simp only [lay]
  refine lv (.bool true) (by exact xp (b := true)) ?_
  simp only [lay]
  refine lv (.bool true) (by exact xm) ?_
  simp only [lay]
  refine lz (ow_call (fun v w' => v = .bool true ∧ Below W21.heap.size W21 w') (by exact xk Try.func13) ((alive17_any W21).mono fun e w' h => ⟨_, h.1, rfl, h.2⟩) ?_)
  rintro _ W30 ⟨rfl, hb31⟩
  have z32 := hb31.size
  simp only [lay]
  refine lv (.bool true) (by exact xp (b := true)) ?_
  simp only [lay]
  refine lv (.bool true) (by exact xa) ?_
  simp only [lay]
  refine wn ?_
  refine wp_ret ?_
  try simp only [Exit.then]
  have b33 := bt hb6 hb12
  have b34 := bt b33 hb22
  have b35 := bt b34 hb31
  exact bodyPost_ret (res_one Try.results5 rfl) rfl ⟨rfl, b35⟩
 refine lv (.bool false) (by exact ex_gtr (by exact rfl) (by exact rfl) (by exact rfl) (decide_eq_false (by first | assumption | omega | decide))) ?_
 simp only [lay]
 refine wn ?_
 refine wp_cond_false (by exact rfl) ?_
 refine wp_skip ?_
 change Code.wp _ _ _ _ _
 refine wp_sr ?_
 refine lv (.slice A l.length c) (by exact xm) ?_
 simp only [lay]
 refine lv (.agg (ends6 s t)) (by exact xo (hg3.load (P := Try.prog) 31 Try.underlying31 rfl (by kernel_rfl))) ?_
 simp only [lay]
 obtain ⟨IL, hIL⟩ : ∃ x, (inside17 l s t).1 = x := ⟨_, rfl⟩
 obtain ⟨IE, hIE⟩ : ∃ x, (inside17 l s t).2 = x := ⟨_, rfl⟩
 have by36 := y.to hb6
 refine lz (ow_call (fun v w' => (∃ u, v = .tuple #[u, .int .i64 IE] ∧ OwnB w' W2.heap.size u IL) ∧ Below W2.heap.size W2 w') (by exact xk Try.func17) ((inside17_any _ _ _ _ s t hE W2 by36).mono (by rintro e w' ⟨⟨v, rfl, ho⟩, hb⟩; rw [hIL] at ho; exact ⟨_, rfl, ⟨v, by rw [hIE], ho⟩, hb⟩)) ?_)
 rintro _ W37 ⟨⟨u39, rfl, hO40⟩, hb38⟩
 have z41 := hb38.size
 obtain ⟨A42, c43, rfl, y44⟩ := hO40.by_
 simp only [lay]
 refine lv (.tuple #[.slice A42 IL.length c43, .int .i64 IE]) (by exact xm) ?_
 simp only [lay]
 refine lv (.slice A42 IL.length c43) (by exact xe) ?_
 simp only [lay]
 refine lv (.int .i64 IE) (by exact xe) ?_
 simp only [lay]
 refine lv (.slice A42 IL.length c43) (by exact xa) ?_
 simp only [lay]
 refine lv (.int .i64 IE) (by exact xa) ?_
 simp only [lay]
 refine wn ?_
 refine wp_sr ?_
 refine lv (.slice A l.length c) (by exact xm) ?_
 simp only [lay]
 have has45 := hg3.to hb38
 refine lv (.agg (ends6 s t)) (by exact xo (has45.load (P := Try.prog) 31 Try.underlying31 rfl (by kernel_rfl))) ?_
 simp only [lay]
 have b46 := bt hb6 hb38
 have by47 := y.to b46
 refine lz (ow_call (fun v w' => (∃ u, v = .tuple #[u, .int .i64 IE] ∧ OwnB w' W37.heap.size u IL) ∧ Below W37.heap.size W37 w') (by exact xk Try.func18) ((rInside17_any _ _ _ _ s t hE W37 by47).mono (by rintro e w' ⟨⟨v, rfl, ho⟩, hb⟩; rw [hIL] at ho; exact ⟨_, rfl, ⟨v, by rw [hIE], ho⟩, hb⟩)) ?_)
 rintro _ W48 ⟨⟨u50, rfl, hO51⟩, hb49⟩
 have z52 := hb49.size
 obtain ⟨A53, c54, rfl, y55⟩ := hO51.by_
 simp only [lay]
 refine lv (.tuple #[.slice A53 IL.length c54, .int .i64 IE]) (by exact xm) ?_
 simp only [lay]
 refine lv (.slice A53 IL.length c54) (by exact xe) ?_
 simp only [lay]
 refine lv (.int .i64 IE) (by exact xe) ?_
 simp only [lay]
 refine lv (.slice A53 IL.length c54) (by exact xa) ?_
 simp only [lay]
 refine lv (.int .i64 IE) (by exact xa) ?_
 simp only [lay]
 refine wn ?_
 refine wp_sr ?_
 refine lv (.slice A42 IL.length c43) (by exact xm) ?_
 simp only [lay]
 have own56 := hO40.to hb49
 refine lv (.string (strOfNums IL)) (by exact xv (By.conv (P := Try.prog) (own_byS own56) 25 9 Try.underlying25 Try.underlying5 Try.underlying9)) ?_
 simp only [lay]
 refine lv (.slice A53 IL.length c54) (by exact xm) ?_
 simp only [lay]
 refine lv (.string (strOfNums IL)) (by exact xv (By.conv (P := Try.prog) (own_byS hO51) 25 9 Try.underlying25 Try.underlying5 Try.underlying9)) ?_
 simp only [lay]
 refine lv (.bool true) (by exact eq_str_self (s := (strOfNums IL)) (by exact rfl) (by exact rfl) (by exact rfl)) ?_
 simp only [lay]
 refine lv (.bool true) (by exact xm) ?_
 simp only [lay]
 refine lv (.int .i64 IE) (by exact xm) ?_
 simp only [lay]
 refine lv (.int .i64 IE) (by exact xm) ?_
 simp only [lay]
 refine lv (.bool true) (by exact yq (h := rfl)) ?_
 simp only [lay]
 refine lv (.bool true) (by exact xp (b := true)) ?_
 simp only [lay]
 refine lv (.bool true) (by exact xm) ?_
 simp only [lay]
 refine lz (ow_call (fun v w' => v = .bool true ∧ Below W48.heap.size W48 w') (by exact xk Try.func13) ((alive17_any W48).mono fun e w' h => ⟨_, h.1, rfl, h.2⟩) ?_)
 rintro _ W57 ⟨rfl, hb58⟩
 have z59 := hb58.size
 simp only [lay]
 refine lv (.bool true) (by exact xp (b := true)) ?_
 simp only [lay]
 refine lv (.bool true) (by exact xa) ?_
 simp only [lay]
 refine wn ?_
 refine wp_ret ?_
 try simp only [Exit.then]
 have b60 := bt b46 hb49
 have b61 := bt b60 hb58
 exact bodyPost_ret (res_one Try.results5 rfl) rfl ⟨rfl, b61⟩
end Go.Proofs.Ytijnifbpbgckgaa
