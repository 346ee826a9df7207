/-
  Lemmas and walks for the row of TosixRight (part 31 of 33).
-/
import Derived.Test.YtijnifbpbgckgaaTrAD
import Derived.Test.YtijnifbpbgckgaaTrAF
import Derived.Test.YtijnifbpbgckgaaTrAK
import Derived.Test.YtijnifbpbgckgaaTrAL
import Derived.Test.YtijnifbpbgckgaaTrBC
import Derived.Test.YtijnifbpbgckgaaTrBD
set_option linter.unusedVariables false
set_option linter.unusedSimpArgs false
namespace Go.Proofs.Ytijnifbpbgckgaa
open Go.RowKit Go.Shelf
attribute [local irreducible] wpList Code.wp Oper.wp wpOp wpAnyH

def dA17 : D4 := ⟨0, 0, false, false, 0, 7, 17, 10, 0, 0, 1, 10, 0, 0, 2, [], [0, 1, 0, 2, 0, 8, 0, 0]⟩
def sA17 : List Int := [1, 0, 0, 0, 0, 0, 0, 0, 0, 0, 0, 0, 0, 0, 0, 0]
def tA17 : List Int := [2, 0, 0, 0, 0, 0, 0, 0, 0, 0, 0, 0, 0, 0, 0, 0]
def zA17 : List Int := [0, 0, 0, 0, 0, 0, 0, 0, 0, 0, 0, 0, 0, 0, 0, 0]
def DA17 : D6 := ⟨0, 0, 7, sA17, tA17, [], false, 0, 0, false, 17, [0, 1, 0, 2, 0, 8, 252, 219]⟩
theorem alive17_pack : pack17 dA17 sA17 tA17 zA17 zA17 = (DA17, 0) := by kernel_rfl
theorem rngs_of {l : List Int} (h : l.all (fun x => decide (0 ≤ x) && decide (x ≤ 255)) = true) : InB l := by
 intro x hx
 have := List.all_eq_true.1 h x hx
 simpa using this
theorem alive17_e : E6ok sA17 tA17 := ⟨rfl, rngs_of (by decide), rfl, rngs_of (by decide)⟩
theorem alive17_z : E6ok zA17 zA17 := ⟨rfl, rngs_of (by decide), rfl, rngs_of (by decide)⟩
theorem dA17_ok : dA17.ok := ⟨by decide, by decide, by decide, by decide, by decide, rngs_of (by decide), rngs_of (by decide)⟩
theorem Own6.to {w w' : World} {base : Nat} {D : D6} {p : W6} (h : Own6 w base D p) (b : Below w.heap.size w w') : Own6 w' base D p := h.below b
def cut17 (d : D4) : D4 := ⟨d.tos, d.id, d.df, d.mf, d.off, d.ttl, d.proto, d.s0, d.s1, d.s2, d.s3, d.d0, d.d1, d.d2, d.d3, d.ol.take 100, d.bl.take 66000⟩
theorem By.takeL {B : Nat} {w : World} {A : Option Addr} {c : Nat} {l : List Int} (h : By B w A l.length c l) (k : Nat) : By B w A (l.take k).length c (l.take k) := by
 by_cases hk : k ≤ l.length
 ·rw [show (l.take k).length = k by rw [List.length_take]; omega]
  exact h.take hk
 ·rw [List.take_of_length_le (by omega)]
  exact h
theorem cut17_rd {B : Nat} {w : World} {d : D4} {p : W4} (h : Rd4 B w d p) : Rd4 B w (cut17 d) p := ⟨⟨h.ok.tos, h.ok.id, h.ok.off, h.ok.ttl, h.ok.proto, h.ok.src, h.ok.dst⟩, h.opt.takeL 100, h.body.takeL 66000⟩

set_option maxRecDepth 100000 in
set_option maxHeartbeats 4000000 in
theorem alive17_any (w : World) :
  Calls Try.prog 13 #[] w fun e w' => e = .returned (.bool true) ∧ Below w.heap.size w w' := by
 go_enter Try.func13, Try.ntmps13
 refine wp_sr ?_
 refine lv (.bool false) (by exact xa) ?_
 simp only [lay]
 refine wn ?_
 refine wp_sr ?_
 refine lv (.agg #[.int .u8 10, .int .u8 0, .int .u8 0, .int .u8 1]) (by kernel_rfl) ?_
 simp only [lay]
 refine lv (.agg #[.int .u8 10, .int .u8 0, .int .u8 0, .int .u8 2]) (by kernel_rfl) ?_
 simp only [lay]
 refine lz (ow_build (u8s [0, 1, 0, 2, 0, 8, 0, 0]) rfl Try.underlying25 (by kernel_rfl) (by kernel_rfl) rfl (by decide) (by decide) (by first | rfl | (simp only [List.map_toArray, List.map_cons, List.map_nil] <;> rfl)) (u8s_cells _) ?_)
 intro g1 W2 hg3 ge4 sz5 hb6
 have z7 := hb6.size
 have hO8 := OwnB.blk hg3 (Nat.le_of_eq ge4.symm) rfl (by intro x hx; simp only [List.mem_cons, List.not_mem_nil, or_false] at hx; omega) (by simp)
 simp only [lay]
 refine lv (.agg #[.int .u8 0, .int .u16 0, .bool false, .bool false, .int .i64 0, .int .u8 7, .int .u8 17, .int .u8 10, .int .u8 0, .int .u8 0, .int .u8 1, .int .u8 10, .int .u8 0, .int .u8 0, .int .u8 2, .slice none 0 0, .slice (some ⟨g1, 0, none⟩) 8 8]) (by kernel_rfl) ?_
 simp only [lay]
 refine lz (oa #[.int .u8 0, .int .u16 0, .bool false, .bool false, .int .i64 0, .int .u8 0, .int .u8 0, .int .u8 0, .int .u8 0, .int .u8 0, .int .u8 0, .int .u8 0, .int .u8 0, .int .u8 0, .int .u8 0, .slice none 0 0, .slice none 0 0] ?_)
 intro g9 W10 hg11 ge12 sz13 hb14
 have z15 := hb14.size
 simp only [lay]
 refine lz (ow_st 27 (.tmp 1) (.tmp 7) g9 #[.int .u8 0, .int .u16 0, .bool false, .bool false, .int .i64 0, .int .u8 7, .int .u8 17, .int .u8 10, .int .u8 0, .int .u8 0, .int .u8 1, .int .u8 10, .int .u8 0, .int .u8 0, .int .u8 2, .slice none 0 0, .slice (some ⟨g1, 0, none⟩) 8 8] _ _ rfl (by exact rfl) (by exact rfl) hg11 (by kernel_rfl) rfl (by kernel_rfl) ?_)
 intro W16 hg17 bs18 hb19
 have z20 := hb19.size
 simp only [lay]
 refine wn ?_
 refine wp_sr ?_
 refine lv (.agg #[.int .u8 0, .int .u16 0, .bool false, .bool false, .int .i64 0, .int .u8 7, .int .u8 17, .int .u8 10, .int .u8 0, .int .u8 0, .int .u8 1, .int .u8 10, .int .u8 0, .int .u8 0, .int .u8 2, .slice none 0 0, .slice (some ⟨g1, 0, none⟩) 8 8]) (by exact xo (hg17.load (P := Try.prog) 27 Try.underlying27 rfl (by kernel_rfl))) ?_
 simp only [lay]
 refine lv (.agg #[.int .u8 1, .int .u8 0, .int .u8 0, .int .u8 0, .int .u8 0, .int .u8 0, .int .u8 0, .int .u8 0, .int .u8 0, .int .u8 0, .int .u8 0, .int .u8 0, .int .u8 0, .int .u8 0, .int .u8 0, .int .u8 0]) (by kernel_rfl) ?_
 simp only [lay]
 refine lv (.agg #[.int .u8 2, .int .u8 0, .int .u8 0, .int .u8 0, .int .u8 0, .int .u8 0, .int .u8 0, .int .u8 0, .int .u8 0, .int .u8 0, .int .u8 0, .int .u8 0, .int .u8 0, .int .u8 0, .int .u8 0, .int .u8 0]) (by kernel_rfl) ?_
 simp only [lay]
 refine lv (.agg #[.int .u8 1, .int .u8 0, .int .u8 0, .int .u8 0, .int .u8 0, .int .u8 0, .int .u8 0, .int .u8 0, .int .u8 0, .int .u8 0, .int .u8 0, .int .u8 0, .int .u8 0, .int .u8 0, .int .u8 0, .int .u8 0, .int .u8 2, .int .u8 0, .int .u8 0, .int .u8 0, .int .u8 0, .int .u8 0, .int .u8 0, .int .u8 0, .int .u8 0, .int .u8 0, .int .u8 0, .int .u8 0, .int .u8 0, .int .u8 0, .int .u8 0, .int .u8 0]) (by kernel_rfl) ?_
 simp only [lay]
 refine lv (.agg #[.int .u8 0, .int .u8 0, .int .u8 0, .int .u8 0, .int .u8 0, .int .u8 0, .int .u8 0, .int .u8 0, .int .u8 0, .int .u8 0, .int .u8 0, .int .u8 0, .int .u8 0, .int .u8 0, .int .u8 0, .int .u8 0, .int .u8 0, .int .u8 0, .int .u8 0, .int .u8 0, .int .u8 0, .int .u8 0, .int .u8 0, .int .u8 0, .int .u8 0, .int .u8 0, .int .u8 0, .int .u8 0, .int .u8 0, .int .u8 0, .int .u8 0, .int .u8 0]) (by kernel_rfl) ?_
 simp only [lay]
 have l21 : W2.heap.size ≤ g9 := Nat.le_of_eq ge12.symm
 have b22 := hb14.trans (hb19.mono l21)
 have own23 := hO8.to b22
 refine lz (ow_call (fun v w' => (∃ p, v = .tuple #[.agg (DA17.cells p), .int .i64 0] ∧ Own6 w' W16.heap.size DA17 p) ∧ Below W16.heap.size W16 w') (by exact xk Try.func10) ((pack17_any dA17 _ sA17 tA17 zA17 zA17 alive17_e alive17_z W16 (⟨dA17_ok, By.nil _ _ none (Nat.zero_le _), (own_byS own23)⟩ : Rd4 W16.heap.size W16 dA17 ⟨none, 0, (some ⟨g1, 0, none⟩), 8⟩)).mono (by rintro e w' ⟨⟨p, rfl, ho⟩, hb⟩; rw [alive17_pack] at ho; exact ⟨_, rfl, ⟨p, by rw [alive17_pack], ho⟩, hb⟩)) ?_)
 rintro _ W24 ⟨⟨p26, rfl, ho27⟩, hb25⟩
 have z28 := hb25.size
 have hO29 : OwnB W24 W16.heap.size (.slice p26.bA 8 p26.bc) [0, 1, 0, 2, 0, 8, 252, 219] := ho27.body
 simp only [lay]
 refine lv (.tuple #[.agg (DA17.cells p26), .int .i64 0]) (by exact xm) ?_
 simp only [lay]
 refine lv (.agg (DA17.cells p26)) (by exact xe) ?_
 simp only [lay]
 refine lv (.int .i64 0) (by exact xe) ?_
 simp only [lay]
 refine lz (oa #[.int .u8 0, .int .u32 0, .int .u8 0, .int .u8 0, .int .u8 0, .int .u8 0, .int .u8 0, .int .u8 0, .int .u8 0, .int .u8 0, .int .u8 0, .int .u8 0, .int .u8 0, .int .u8 0, .int .u8 0, .int .u8 0, .int .u8 0, .int .u8 0, .int .u8 0, .int .u8 0, .int .u8 0, .int .u8 0, .int .u8 0, .int .u8 0, .int .u8 0, .int .u8 0, .int .u8 0, .int .u8 0, .int .u8 0, .int .u8 0, .int .u8 0, .int .u8 0, .int .u8 0, .int .u8 0, .int .u8 0, .slice none 0 0, .bool false, .int .u32 0, .int .i64 0, .bool false, .int .u8 0, .slice none 0 0] ?_)
 intro g30 W31 hg32 ge33 sz34 hb35
 have z36 := hb35.size
 simp only [lay]
 refine lz (ow_st 36 (.tmp 2) (.tmp 15) g30 (DA17.cells p26) _ _ rfl (by exact rfl) (by exact rfl) hg32 (by kernel_rfl) rfl (by kernel_rfl) ?_)
 intro W37 hg38 bs39 hb40
 have z41 := hb40.size
 simp only [lay]
 refine lv (.int .i64 0) (by exact xa) ?_
 simp only [lay]
 refine wn ?_
 refine wp_seq ?_
 refine rg_drawn W37.heap.size (by kernel_rfl) (Nat.le_refl _) ?_
 intro W42 hb43 hs44 hS45
 have z46 := hb43.size
 refine te 0 (.int .i64 0) hS45 rfl (by intro _ _; exact xm) ?_
 simp only [lay]
 refine te 1 (.bool true) hS45 rfl (by intro _ _; exact yq (h := (by decide))) ?_
 simp only [lay]
 refine te 2 (.bool true) hS45 rfl (by intro _ _; exact xm) ?_
 simp only [lay]
 refine te 3 (.pointer (some ⟨g30, 2, none⟩)) hS45 rfl (by intro _ _; exact xf 2 0 Try.underlying36) ?_
 simp only [lay]
 refine te 4 (.int .u8 7) hS45 rfl (by intro _ h; exact xc Try.underlying5 ((hg38.to h).cell 2 rfl)) ?_
 simp only [lay]
 refine te 5 (.bool true) hS45 rfl (by intro _ _; exact yq (h := (by decide))) ?_
 simp only [lay]
 refine te 6 (.bool true) hS45 rfl (by intro _ _; exact xp (b := true)) ?_
 simp only [lay]
 refine te 7 (.bool true) hS45 rfl (by intro _ _; exact xm) ?_
 simp only [lay]
 refine te 8 (.pointer (some ⟨g30, 40, none⟩)) hS45 rfl (by intro _ _; exact xf 40 0 Try.underlying36) ?_
 simp only [lay]
 refine te 9 (.int .u8 17) hS45 rfl (by intro _ h; exact xc Try.underlying5 ((hg38.to h).cell 40 rfl)) ?_
 simp only [lay]
 refine te 10 (.bool true) hS45 rfl (by intro _ _; exact yq (h := (by decide))) ?_
 simp only [lay]
 refine te 11 (.bool true) hS45 rfl (by intro _ _; exact xp (b := true)) ?_
 simp only [lay]
 refine te 12 (.bool true) hS45 rfl (by intro _ _; exact xm) ?_
 simp only [lay]
 refine te 13 (.pointer (some ⟨g30, 41, none⟩)) hS45 rfl (by intro _ _; exact xf 41 0 Try.underlying36) ?_
 simp only [lay]
 refine te 14 (.slice p26.bA 8 p26.bc) hS45 rfl (by intro _ h; exact xc Try.underlying25 ((hg38.to h).cell 41 rfl)) ?_
 simp only [lay]
 refine te 15 (.int .i64 8) hS45 rfl (by intro _ _; exact xz Try.underlying25) ?_
 simp only [lay]
 refine te 16 (.bool true) hS45 rfl (by intro _ _; exact yq (h := (by decide))) ?_
 simp only [lay]
 refine te 17 (.bool true) hS45 rfl (by intro _ _; exact xp (b := true)) ?_
 simp only [lay]
 refine te 18 (.bool true) hS45 rfl (by intro _ _; exact xm) ?_
 simp only [lay]
 refine te 19 (.pointer (some ⟨g30, 41, none⟩)) hS45 rfl (by intro _ _; exact xf 41 0 Try.underlying36) ?_
 simp only [lay]
 refine te 20 (.slice p26.bA 8 p26.bc) hS45 rfl (by intro _ h; exact xc Try.underlying25 ((hg38.to h).cell 41 rfl)) ?_
 simp only [lay]
 have l47 : W24.heap.size ≤ g30 := Nat.le_of_eq ge33.symm
 have b48 := hb35.trans (hb40.mono l47)
 have b49 := bt b48 hb43
 have own50 := hO29.to b49
 have y51 := (own_byS own50)
 obtain ⟨b52, o53, hA54⟩ := y51.form (k := 6) (by omega)
 refine te 21 (.pointer (some ⟨b52, o53 + 6, none⟩)) hS45 rfl (by intro _ _; exact xi 6 Try.underlying25 hA54) ?_
 simp only [lay]
 refine te 23 (.pointer (some ⟨g30, 41, none⟩)) hS45 rfl (by intro _ _; exact xf 41 0 Try.underlying36) ?_
 simp only [lay]
 refine te 24 (.slice p26.bA 8 p26.bc) hS45 rfl (by intro _ h; exact xc Try.underlying25 ((hg38.to h).cell 41 rfl)) ?_
 simp only [lay]
 have y55 := (own_byS own50)
 obtain ⟨b56, o57, hA58⟩ := y55.form (k := 7) (by omega)
 refine te 25 (.pointer (some ⟨b56, o57 + 7, none⟩)) hS45 rfl (by intro _ _; exact xi 7 Try.underlying25 hA58) ?_
 simp only [lay]
 refine tk_two (i := 22) (j := 26) (by kernel_rfl) ?L59 ?L60
 case L59 =>
  refine rs (i := 22) rfl (by kernel_rfl) (ow_val (.int .u8 252) (by exact xc Try.underlying5 (y51.atE (k := 6) hA54 (by omega))) ?_)
  refine ⟨hS45, ?_⟩
  simp only [lay]
  refine t1 26 rfl (ow_val (.int .u8 219) (by exact xc Try.underlying5 (y55.atE (k := 7) hA58 (by omega))) ?_)
  refine ⟨hS45, ?_⟩
  simp only [lay]
  refine te 27 (.int .u8 255) hS45 rfl (by intro _ _; exact ex_bin (by exact rfl) (by exact rfl) (by exact rfl) (by decide) (b_or8 _ 255 (by decide) _)) ?_
  simp only [lay]
  refine te 28 (.bool true) hS45 rfl (by intro _ _; exact neq_int_ne (by exact rfl) (by exact rfl) (by exact rfl) (by decide)) ?_
  simp only [lay]
  refine te 29 (.bool true) hS45 rfl (by intro _ _; exact xp (b := true)) ?_
  simp only [lay]
  refine te 30 (.bool true) hS45 rfl (by intro _ _; exact xm) ?_
  simp only [lay]
  refine t1 31 rfl (ow_same (.int .u32 1420) (by exact xk Try.func30) (by have := mtu17_any 1400 (by decide) W42; rw [show mtu17 1400 = 1420 from by decide] at this; exact this) ?_)
  refine ⟨hS45, ?_⟩
  simp only [lay]
  refine te 32 (.bool true) hS45 rfl (by intro _ _; exact yq (h := (by decide))) ?_
  simp only [lay]
  refine te 33 (.bool true) hS45 rfl (by intro _ _; exact xp (b := true)) ?_
  simp only [lay]
  refine te 34 (.bool true) hS45 rfl (by intro _ _; exact xa) ?_
  simp only [lay]
  refine wpAnyH_done (by kernel_rfl) ?_ _
  change Code.wp _ _ _ _ _
  refine wp_ret ?_
  try simp only [Exit.then]
  have b61 := bt hb6 hb14
  have l62 := lq hb6 ge12
  have b63 := b61.trans (hb19.mono l62)
  have b64 := bt b63 hb25
  have b65 := bt b64 hb35
  have l66 := lq b64 ge33
  have b67 := b65.trans (hb40.mono l66)
  have b68 := bt b67 hb43
  exact bodyPost_ret (res_one Try.results13 rfl) rfl ⟨rfl, b68⟩
 case L60 =>
  refine rs (i := 26) rfl (by kernel_rfl) (ow_val (.int .u8 219) (by exact xc Try.underlying5 (y55.atE (k := 7) hA58 (by omega))) ?_)
  refine ⟨hS45, ?_⟩
  simp only [lay]
  refine t1 22 rfl (ow_val (.int .u8 252) (by exact xc Try.underlying5 (y51.atE (k := 6) hA54 (by omega))) ?_)
  refine ⟨hS45, ?_⟩
  simp only [lay]
  refine te 27 (.int .u8 255) hS45 rfl (by intro _ _; exact ex_bin (by exact rfl) (by exact rfl) (by exact rfl) (by decide) (b_or8 _ 255 (by decide) _)) ?_
  simp only [lay]
  refine te 28 (.bool true) hS45 rfl (by intro _ _; exact neq_int_ne (by exact rfl) (by exact rfl) (by exact rfl) (by decide)) ?_
  simp only [lay]
  refine te 29 (.bool true) hS45 rfl (by intro _ _; exact xp (b := true)) ?_
  simp only [lay]
  refine te 30 (.bool true) hS45 rfl (by intro _ _; exact xm) ?_
  simp only [lay]
  refine t1 31 rfl (ow_same (.int .u32 1420) (by exact xk Try.func30) (by have := mtu17_any 1400 (by decide) W42; rw [show mtu17 1400 = 1420 from by decide] at this; exact this) ?_)
  refine ⟨hS45, ?_⟩
  simp only [lay]
  refine te 32 (.bool true) hS45 rfl (by intro _ _; exact yq (h := (by decide))) ?_
  simp only [lay]
  refine te 33 (.bool true) hS45 rfl (by intro _ _; exact xp (b := true)) ?_
  simp only [lay]
  refine te 34 (.bool true) hS45 rfl (by intro _ _; exact xa) ?_
  simp only [lay]
  refine wpAnyH_done (by kernel_rfl) ?_ _
  change Code.wp _ _ _ _ _
  refine wp_ret ?_
  try simp only [Exit.then]
  have b69 := bt hb6 hb14
  have l70 := lq hb6 ge12
  have b71 := b69.trans (hb19.mono l70)
  have b72 := bt b71 hb25
  have b73 := bt b72 hb35
  have l74 := lq b72 ge33
  have b75 := b73.trans (hb40.mono l74)
  have b76 := bt b75 hb43
  exact bodyPost_ret (res_one Try.results13 rfl) rfl ⟨rfl, b76⟩
set_option maxRecDepth 100000 in
set_option maxHeartbeats 4000000 in
theorem cut17_any (d : D4) (p : W4) (w : World) (hR : Rd4 w.heap.size w d p) :
  Calls Try.prog 9 #[.agg (d.cells p)] w fun e w' => e = .returned (.agg ((cut17 d).cells p)) ∧ Below w.heap.size w w' := by
 have yo := hR.opt
 have yb := hR.body
 go_enter Try.func9, Try.ntmps9
 refine wp_sr ?_
 refine lz (ow_box 27 (.tmp 0) _ rfl rfl ?_)
 intro g1 W2 hg3 ge4 sz5 hb6
 have z7 := hb6.size
 simp only [lay]
 refine lz (oa #[.int .u8 0, .int .u16 0, .bool false, .bool false, .int .i64 0, .int .u8 0, .int .u8 0, .int .u8 0, .int .u8 0, .int .u8 0, .int .u8 0, .int .u8 0, .int .u8 0, .int .u8 0, .int .u8 0, .slice none 0 0, .slice none 0 0] ?_)
 intro g8 W9 hg10 ge11 sz12 hb13
 have z14 := hb13.size
 simp only [lay]
 refine wn ?_
 refine wp_seq ?_
 refine wp_sr ?_
 refine lv (.pointer (some ⟨g1, 16, none⟩)) (by exact xf 16 0 Try.underlying27) ?_
 simp only [lay]
 have has15 := hg3.to hb13
 refine lv (.slice p.bA d.bl.length p.bc) (by exact xc Try.underlying25 (has15.cell 16 rfl)) ?_
 simp only [lay]
 refine lv (.int .i64 (d.bl.length : Int)) (by exact xz Try.underlying25) ?_
 simp only [lay]
 by_cases q16 : (d.bl.length : Int) > 66000
 case pos =>
  refine lv (.bool true) (by exact ex_gtr (by exact rfl) (by exact rfl) (by exact rfl) (decide_eq_true (by first | assumption | omega | decide))) ?_
  simp only [lay]
  refine wn ?_
  refine wp_cond_true (by exact rfl) ?_
  refine wp_region_lit ?_
  refine lv (.pointer (some ⟨g1, 16, none⟩)) (by exact xf 16 0 Try.underlying27) ?_
  simp only [lay]
  refine lv (.slice p.bA d.bl.length p.bc) (by exact xc Try.underlying25 (has15.cell 16 rfl)) ?_
  simp only [lay]
  have b18 := bt hb6 hb13
  have by19 := yb.to b18
  have y17 := by19.to_ (P := Try.prog) 25 Try.underlying25 (by kernel_rfl) (k := 66000) (by omega)
  refine lv (.slice p.bA 66000 p.bc) (by exact ex_slice (by exact rfl) (by exact rfl) (y17.1 _)) ?_
  simp only [lay]
  refine lv (.pointer (some ⟨g1, 16, none⟩)) (by exact xf 16 0 Try.underlying27) ?_
  simp only [lay]
  refine lz (ow_st1 25 (.tmp 10) (.tmp 9) g1 16 (.slice p.bA 66000 p.bc) _ #[.int .u8 d.tos, .int .u16 d.id, .bool d.df, .bool d.mf, .int .i64 d.off, .int .u8 d.ttl, .int .u8 d.proto, .int .u8 d.s0, .int .u8 d.s1, .int .u8 d.s2, .int .u8 d.s3, .int .u8 d.d0, .int .u8 d.d1, .int .u8 d.d2, .int .u8 d.d3, .slice p.oA d.ol.length p.oc, .slice p.bA 66000 p.bc] _ rfl (by exact rfl) (by exact rfl) rfl (by kernel_rfl) has15 rfl rfl (by kernel_rfl) ?_)
  intro W20 hg21 bs22 hb23
  have z24 := hb23.size
  have has25 := hg10.but6 bs22 (by omega)
  simp only [lay]
  refine wn ?_
  refine wp_seq ?_
  refine wp_sr ?_
  refine lv (.pointer (some ⟨g1, 15, none⟩)) (by exact xf 15 0 Try.underlying27) ?_
  simp only [lay]
  refine lv (.slice p.oA d.ol.length p.oc) (by exact xc Try.underlying25 (hg21.cell 15 rfl)) ?_
  simp only [lay]
  refine lv (.int .i64 (d.ol.length : Int)) (by exact xz Try.underlying25) ?_
  simp only [lay]
  by_cases q26 : (d.ol.length : Int) > 100
  case pos =>
   refine lv (.bool true) (by exact ex_gtr (by exact rfl) (by exact rfl) (by exact rfl) (decide_eq_true (by first | assumption | omega | decide))) ?_
   simp only [lay]
   refine wn ?_
   refine wp_cond_true (by exact rfl) ?_
   refine wp_region_lit ?_
   refine lv (.pointer (some ⟨g1, 15, none⟩)) (by exact xf 15 0 Try.underlying27) ?_
   simp only [lay]
   refine lv (.slice p.oA d.ol.length p.oc) (by exact xc Try.underlying25 (hg21.cell 15 rfl)) ?_
   simp only [lay]
   have l28 : w.heap.size ≤ g1 := Nat.le_of_eq ge4.symm
   have b29 := b18.trans (hb23.mono l28)
   have by30 := yo.to b29
   have y27 := by30.to_ (P := Try.prog) 25 Try.underlying25 (by kernel_rfl) (k := 100) (by omega)
   refine lv (.slice p.oA 100 p.oc) (by exact ex_slice (by exact rfl) (by exact rfl) (y27.1 _)) ?_
   simp only [lay]
   refine lv (.pointer (some ⟨g1, 15, none⟩)) (by exact xf 15 0 Try.underlying27) ?_
   simp only [lay]
   refine lz (ow_st1 25 (.tmp 18) (.tmp 17) g1 15 (.slice p.oA 100 p.oc) _ #[.int .u8 d.tos, .int .u16 d.id, .bool d.df, .bool d.mf, .int .i64 d.off, .int .u8 d.ttl, .int .u8 d.proto, .int .u8 d.s0, .int .u8 d.s1, .int .u8 d.s2, .int .u8 d.s3, .int .u8 d.d0, .int .u8 d.d1, .int .u8 d.d2, .int .u8 d.d3, .slice p.oA 100 p.oc, .slice p.bA 66000 p.bc] _ rfl (by exact rfl) (by exact rfl) rfl (by kernel_rfl) hg21 rfl rfl (by kernel_rfl) ?_)
   intro W31 hg32 bs33 hb34
   have z35 := hb34.size
   have has36 := has25.but6 bs33 (by omega)
   simp only [lay]
   refine wn ?_
   refine wp_sr ?_
   refine lv (.agg #[.int .u8 d.tos, .int .u16 d.id, .bool d.df, .bool d.mf, .int .i64 d.off, .int .u8 d.ttl, .int .u8 d.proto, .int .u8 d.s0, .int .u8 d.s1, .int .u8 d.s2, .int .u8 d.s3, .int .u8 d.d0, .int .u8 d.d1, .int .u8 d.d2, .int .u8 d.d3, .slice p.oA 100 p.oc, .slice p.bA 66000 p.bc]) (by exact xo (hg32.load (P := Try.prog) 27 Try.underlying27 rfl (by kernel_rfl))) ?_
   simp only [lay]
   refine lz (ow_st 27 (.tmp 2) (.tmp 19) g8 #[.int .u8 d.tos, .int .u16 d.id, .bool d.df, .bool d.mf, .int .i64 d.off, .int .u8 d.ttl, .int .u8 d.proto, .int .u8 d.s0, .int .u8 d.s1, .int .u8 d.s2, .int .u8 d.s3, .int .u8 d.d0, .int .u8 d.d1, .int .u8 d.d2, .int .u8 d.d3, .slice p.oA 100 p.oc, .slice p.bA 66000 p.bc] _ _ rfl (by exact rfl) (by exact rfl) has36 (by kernel_rfl) rfl (by kernel_rfl) ?_)
   intro W37 hg38 bs39 hb40
   have z41 := hb40.size
   have has42 := hg32.but6 bs39 (by omega)
   simp only [lay]
   refine wn ?_
   refine wp_ret ?_
   try simp only [Exit.then]
   have ho : (d.ol.take 100).length = 100 := by rw [List.length_take]; omega
   have hb : (d.bl.take 66000).length = 66000 := by rw [List.length_take]; omega
   have e : (cut17 d).cells p = #[.int .u8 d.tos, .int .u16 d.id, .bool d.df, .bool d.mf, .int .i64 d.off, .int .u8 d.ttl, .int .u8 d.proto, .int .u8 d.s0, .int .u8 d.s1, .int .u8 d.s2, .int .u8 d.s3, .int .u8 d.d0, .int .u8 d.d1, .int .u8 d.d2, .int .u8 d.d3, .slice p.oA 100 p.oc, .slice p.bA 66000 p.bc] := by
    show (#[.int .u8 d.tos, .int .u16 d.id, .bool d.df, .bool d.mf, .int .i64 d.off, .int .u8 d.ttl, .int .u8 d.proto, .int .u8 d.s0, .int .u8 d.s1, .int .u8 d.s2, .int .u8 d.s3, .int .u8 d.d0, .int .u8 d.d1, .int .u8 d.d2, .int .u8 d.d3, .slice p.oA (d.ol.take 100).length p.oc, .slice p.bA (d.bl.take 66000).length p.bc] : Array Value) = _
    rw [ho, hb]
   have b43 := b29.trans (hb34.mono l28)
   have l44 := lq hb6 ge11
   have b45 := b43.trans (hb40.mono l44)
   exact bodyPost_ret (res_cell Try.results9 rfl (hg38.load (P := Try.prog) 27 Try.underlying27 rfl (by kernel_rfl))) rfl ⟨by rw [e], b45⟩
  refine lv (.bool false) (by exact ex_gtr (by exact rfl) (by exact rfl) (by exact rfl) (decide_eq_false (by first | assumption | omega | decide))) ?_
  simp only [lay]
  refine wn ?_
  refine wp_cond_false (by exact rfl) ?_
  refine wp_skip ?_
  change Code.wp _ _ _ _ _
  refine wp_sr ?_
  refine lv (.agg #[.int .u8 d.tos, .int .u16 d.id, .bool d.df, .bool d.mf, .int .i64 d.off, .int .u8 d.ttl, .int .u8 d.proto, .int .u8 d.s0, .int .u8 d.s1, .int .u8 d.s2, .int .u8 d.s3, .int .u8 d.d0, .int .u8 d.d1, .int .u8 d.d2, .int .u8 d.d3, .slice p.oA d.ol.length p.oc, .slice p.bA 66000 p.bc]) (by exact xo (hg21.load (P := Try.prog) 27 Try.underlying27 rfl (by kernel_rfl))) ?_
  simp only [lay]
  refine lz (ow_st 27 (.tmp 2) (.tmp 19) g8 #[.int .u8 d.tos, .int .u16 d.id, .bool d.df, .bool d.mf, .int .i64 d.off, .int .u8 d.ttl, .int .u8 d.proto, .int .u8 d.s0, .int .u8 d.s1, .int .u8 d.s2, .int .u8 d.s3, .int .u8 d.d0, .int .u8 d.d1, .int .u8 d.d2, .int .u8 d.d3, .slice p.oA d.ol.length p.oc, .slice p.bA 66000 p.bc] _ _ rfl (by exact rfl) (by exact rfl) has25 (by kernel_rfl) rfl (by kernel_rfl) ?_)
  intro W46 hg47 bs48 hb49
  have z50 := hb49.size
  have has51 := hg21.but6 bs48 (by omega)
  simp only [lay]
  refine wn ?_
  refine wp_ret ?_
  try simp only [Exit.then]
  have ho : (d.ol.take 100).length = d.ol.length := by rw [List.length_take]; omega
  have hb : (d.bl.take 66000).length = 66000 := by rw [List.length_take]; omega
  have e : (cut17 d).cells p = #[.int .u8 d.tos, .int .u16 d.id, .bool d.df, .bool d.mf, .int .i64 d.off, .int .u8 d.ttl, .int .u8 d.proto, .int .u8 d.s0, .int .u8 d.s1, .int .u8 d.s2, .int .u8 d.s3, .int .u8 d.d0, .int .u8 d.d1, .int .u8 d.d2, .int .u8 d.d3, .slice p.oA d.ol.length p.oc, .slice p.bA 66000 p.bc] := by
   show (#[.int .u8 d.tos, .int .u16 d.id, .bool d.df, .bool d.mf, .int .i64 d.off, .int .u8 d.ttl, .int .u8 d.proto, .int .u8 d.s0, .int .u8 d.s1, .int .u8 d.s2, .int .u8 d.s3, .int .u8 d.d0, .int .u8 d.d1, .int .u8 d.d2, .int .u8 d.d3, .slice p.oA (d.ol.take 100).length p.oc, .slice p.bA (d.bl.take 66000).length p.bc] : Array Value) = _
   rw [ho, hb]
  have l52 : w.heap.size ≤ g1 := Nat.le_of_eq ge4.symm
  have b53 := b18.trans (hb23.mono l52)
  have l54 := lq hb6 ge11
  have b55 := b53.trans (hb49.mono l54)
  exact bodyPost_ret (res_cell Try.results9 rfl (hg47.load (P := Try.prog) 27 Try.underlying27 rfl (by kernel_rfl))) rfl ⟨by rw [e], b55⟩
 refine lv (.bool false) (by exact ex_gtr (by exact rfl) (by exact rfl) (by exact rfl) (decide_eq_false (by first | assumption | omega | decide))) ?_
 simp only [lay]
 refine wn ?_
 refine wp_cond_false (by exact rfl) ?_
 refine wp_skip ?_
 change Code.wp _ _ _ _ _
 refine wp_seq ?_
 refine wp_sr ?_
 refine lv (.pointer (some ⟨g1, 15, none⟩)) (by exact xf 15 0 Try.underlying27) ?_
 simp only [lay]
 refine lv (.slice p.oA d.ol.length p.oc) (by exact xc Try.underlying25 (has15.cell 15 rfl)) ?_
 simp only [lay]
 refine lv (.int .i64 (d.ol.length : Int)) (by exact xz Try.underlying25) ?_
 simp only [lay]
 by_cases q56 : (d.ol.length : Int) > 100
 case pos =>
  refine lv (.bool true) (by exact ex_gtr (by exact rfl) (by exact rfl) (by exact rfl) (decide_eq_true (by first | assumption | omega | decide))) ?_
  simp only [lay]
  refine wn ?_
  refine wp_cond_true (by exact rfl) ?_
  refine wp_region_lit ?_
  refine lv (.pointer (some ⟨g1, 15, none⟩)) (by exact xf 15 0 Try.underlying27) ?_
  simp only [lay]
  refine lv (.slice p.oA d.ol.length p.oc) (by exact xc Try.underlying25 (has15.cell 15 rfl)) ?_
  simp only [lay]
  have b58 := bt hb6 hb13
  have by59 := yo.to b58
  have y57 := by59.to_ (P := Try.prog) 25 Try.underlying25 (by kernel_rfl) (k := 100) (by omega)
  refine lv (.slice p.oA 100 p.oc) (by exact ex_slice (by exact rfl) (by exact rfl) (y57.1 _)) ?_
  simp only [lay]
  refine lv (.pointer (some ⟨g1, 15, none⟩)) (by exact xf 15 0 Try.underlying27) ?_
  simp only [lay]
  refine lz (ow_st1 25 (.tmp 18) (.tmp 17) g1 15 (.slice p.oA 100 p.oc) _ #[.int .u8 d.tos, .int .u16 d.id, .bool d.df, .bool d.mf, .int .i64 d.off, .int .u8 d.ttl, .int .u8 d.proto, .int .u8 d.s0, .int .u8 d.s1, .int .u8 d.s2, .int .u8 d.s3, .int .u8 d.d0, .int .u8 d.d1, .int .u8 d.d2, .int .u8 d.d3, .slice p.oA 100 p.oc, .slice p.bA d.bl.length p.bc] _ rfl (by exact rfl) (by exact rfl) rfl (by kernel_rfl) has15 rfl rfl (by kernel_rfl) ?_)
  intro W60 hg61 bs62 hb63
  have z64 := hb63.size
  have has65 := hg10.but6 bs62 (by omega)
  simp only [lay]
  refine wn ?_
  refine wp_sr ?_
  refine lv (.agg #[.int .u8 d.tos, .int .u16 d.id, .bool d.df, .bool d.mf, .int .i64 d.off, .int .u8 d.ttl, .int .u8 d.proto, .int .u8 d.s0, .int .u8 d.s1, .int .u8 d.s2, .int .u8 d.s3, .int .u8 d.d0, .int .u8 d.d1, .int .u8 d.d2, .int .u8 d.d3, .slice p.oA 100 p.oc, .slice p.bA d.bl.length p.bc]) (by exact xo (hg61.load (P := Try.prog) 27 Try.underlying27 rfl (by kernel_rfl))) ?_
  simp only [lay]
  refine lz (ow_st 27 (.tmp 2) (.tmp 19) g8 #[.int .u8 d.tos, .int .u16 d.id, .bool d.df, .bool d.mf, .int .i64 d.off, .int .u8 d.ttl, .int .u8 d.proto, .int .u8 d.s0, .int .u8 d.s1, .int .u8 d.s2, .int .u8 d.s3, .int .u8 d.d0, .int .u8 d.d1, .int .u8 d.d2, .int .u8 d.d3, .slice p.oA 100 p.oc, .slice p.bA d.bl.length p.bc] _ _ rfl (by exact rfl) (by exact rfl) has65 (by kernel_rfl) rfl (by kernel_rfl) ?_)
  intro W66 hg67 bs68 hb69
  have z70 := hb69.size
  have has71 := hg61.but6 bs68 (by omega)
  simp only [lay]
  refine wn ?_
  refine wp_ret ?_
  try simp only [Exit.then]
  have ho : (d.ol.take 100).length = 100 := by rw [List.length_take]; omega
  have hb : (d.bl.take 66000).length = d.bl.length := by rw [List.length_take]; omega
  have e : (cut17 d).cells p = #[.int .u8 d.tos, .int .u16 d.id, .bool d.df, .bool d.mf, .int .i64 d.off, .int .u8 d.ttl, .int .u8 d.proto, .int .u8 d.s0, .int .u8 d.s1, .int .u8 d.s2, .int .u8 d.s3, .int .u8 d.d0, .int .u8 d.d1, .int .u8 d.d2, .int .u8 d.d3, .slice p.oA 100 p.oc, .slice p.bA d.bl.length p.bc] := by
   show (#[.int .u8 d.tos, .int .u16 d.id, .bool d.df, .bool d.mf, .int .i64 d.off, .int .u8 d.ttl, .int .u8 d.proto, .int .u8 d.s0, .int .u8 d.s1, .int .u8 d.s2, .int .u8 d.s3, .int .u8 d.d0, .int .u8 d.d1, .int .u8 d.d2, .int .u8 d.d3, .slice p.oA (d.ol.take 100).length p.oc, .slice p.bA (d.bl.take 66000).length p.bc] : Array Value) = _
   rw [ho, hb]
  have l72 : w.heap.size ≤ g1 := Nat.le_of_eq ge4.symm
  have b73 := b58.trans (hb63.mono l72)
  have l74 := lq hb6 ge11
  have b75 := b73.trans (hb69.mono l74)
  exact bodyPost_ret (res_cell Try.results9 rfl (hg67.load (P := Try.prog) 27 Try.underlying27 rfl (by kernel_rfl))) rfl ⟨by rw [e], b75⟩
 refine lv (.bool false) (by exact ex_gtr (by exact rfl) (by exact rfl) (by exact rfl) (decide_eq_false (by first | assumption | omega | decide))) ?_
 simp only [lay]
 refine wn ?_
 refine wp_cond_false (by exact rfl) ?_
 refine wp_skip ?_
 change Code.wp _ _ _ _ _
 refine wp_sr ?_
 refine lv (.agg (d.cells p)) (by exact xo (has15.load (P := Try.prog) 27 Try.underlying27 rfl (by kernel_rfl))) ?_
 simp only [lay]
 refine lz (ow_st 27 (.tmp 2) (.tmp 19) g8 (d.cells p) _ _ rfl (by exact rfl) (by exact rfl) hg10 (by kernel_rfl) rfl (by kernel_rfl) ?_)
 intro W76 hg77 bs78 hb79
 have z80 := hb79.size
 simp only [lay]
 refine wn ?_
 refine wp_ret ?_
 try simp only [Exit.then]
 have ho : (d.ol.take 100).length = d.ol.length := by rw [List.length_take]; omega
 have hb : (d.bl.take 66000).length = d.bl.length := by rw [List.length_take]; omega
 have e : (cut17 d).cells p = d.cells p := by
  show (#[.int .u8 d.tos, .int .u16 d.id, .bool d.df, .bool d.mf, .int .i64 d.off, .int .u8 d.ttl, .int .u8 d.proto, .int .u8 d.s0, .int .u8 d.s1, .int .u8 d.s2, .int .u8 d.s3, .int .u8 d.d0, .int .u8 d.d1, .int .u8 d.d2, .int .u8 d.d3, .slice p.oA (d.ol.take 100).length p.oc, .slice p.bA (d.bl.take 66000).length p.bc] : Array Value) = _
  rw [ho, hb]
  rfl
 have b81 := bt hb6 hb13
 have l82 := lq hb6 ge11
 have b83 := b81.trans (hb79.mono l82)
 exact bodyPost_ret (res_cell Try.results9 rfl (hg77.load (P := Try.prog) 27 Try.underlying27 rfl (by kernel_rfl))) rfl ⟨by rw [e], b83⟩
end Go.Proofs.Ytijnifbpbgckgaa
namespace Go.Proofs.Ytijnifbpbgckgaa
open Go.RowKit

theorem first_split (d : D7) (s : Int) (ps : List Int) : ps ++ (d.first s ++ d.bl) = ((ps ++ [d.ty, d.code]) ++ [s / 256, s % 256]) ++ ([d.rest / 16777216, d.rest / 65536 % 256, d.rest / 256 % 256, d.rest % 256] ++ d.bl) := by simp [D7.first]
theorem wt_first (d : D7) (s : Int) (ps : List Int) (he : ps.length % 2 = 0) : wt (ps ++ (d.first s ++ d.bl)) = wt (ps ++ (d.first 0 ++ d.bl)) + (s / 256 * 256 + s % 256) := by
  rw [first_split, first_split]
  have h1 : (ps ++ [d.ty, d.code]).length % 2 = 0 := by simp; omega
  have h2 : ∀ t : Int, ((ps ++ [d.ty, d.code]) ++ [t / 256, t % 256]).length % 2 = 0 := fun t => by simp; omega
  rw [wt_append _ _ (h2 s), wt_append _ _ (h2 0), wt_append _ _ h1, wt_append _ _ h1, wt_two, wt_two]
  omega
theorem sum_right (d : D7) (hd : d.ok) (ps : List Int) (hp : InB ps) (hb : InB d.bl) (he : ps.length % 2 = 0) : sumw (ps ++ d.bytes ps) = 65535 := by
  have hs := d.sum_rng hd hp hb
  have h0 := (hp.app ((d.first_rng hd (s := 0) (by decide)).app hb))
  have hT := wt_nonneg _ h0
  have e : d.sum ps = 65535 - cs (wt (ps ++ (d.first 0 ++ d.bl))) := by unfold D7.sum; rw [List.append_assoc, sumw_wt _ h0]
  rw [sumw_wt _ (hp.app (d.bytes_rng hd hp hb)), D7.bytes, wt_first d _ ps he, show d.sum ps / 256 * 256 + d.sum ps % 256 = d.sum ps from by omega, e]
  generalize wt (ps ++ (d.first 0 ++ d.bl)) = T at *
  unfold cs
  split <;> split <;> omega
end Go.Proofs.Ytijnifbpbgckgaa
