/-
  Lemmas and walks for the row of TofourTells (part 20 of 37).
-/
import Derived.Test.YtjnphelfloiadaaFtAI
import Derived.Test.YtjnphelfloiadaaFtAS
set_option linter.unusedVariables false
set_option linter.unusedSimpArgs false
namespace Go.Proofs.Ytjnphelfloiadaa
open Go.RowKit Go.Shelf

set_option maxRecDepth 100000 in
set_option maxHeartbeats 4000000 in
theorem rhead_short2 {B G gr gv : Nat} {W0 w : World} {A hA bA : Option Addr} {N c k hc bc : Nat} {bad pos : Int} {D : D6} {ps : List Kd} {l : List Int} (h : RT B G gr gv W0 w A N c k bad pos D ⟨hA, hc, ps, bA, bc⟩) (hy : By B W0 A N c l) (hBr : B ≤ gr) (hBv : B ≤ gv) (hGr : gr < G) (hGv : gv < G) (hne : gr ≠ gv) (hk : k ≤ N) (kind : Int) (hn : k + 8 ≤ N) (h44 : kind ≠ 44) (hn2 : N < k + 8 + g6len l k) :
  Calls Try.prog 107 #[.pointer (some ⟨gr, 0, none⟩), .pointer (some ⟨gv, 0, none⟩), .int .u8 kind] w fun e w' => RBad B G gr gv W0 A N c k D ⟨hA, hc, ps, bA, bc⟩ 50 e w' := by
 have hk44 : (kind == 44) = false := by simpa using h44
 obtain ⟨m8, hm⟩ : ∃ m, g6len l k = m := ⟨_, rfl⟩
 rw [hm] at hn2
 have hmH := Lib.hid hm
 have hlr := hy.rng
 have hN := Nat.le_trans hy.cap hy.big
 go_enter Try.func107, Try.ntmps107
 go_wp2
 refine wp_region_held_drew (S := fun W => Has W gr (.cells (rdr A N c (k : Int) bad pos) 156 (0, 0))) (by kernel_rfl) (h.rd.drew) (fun hS => ?_)
 refine te 0 (.pointer (some ⟨gr, 0, none⟩)) hS rfl (by intro _ _; exact rfl) ?_
 simp only [lay]
 refine te 1 (.pointer (some ⟨gr, 0, none⟩)) hS rfl (by intro _ _; exact ex_nilc (by exact rfl) (by exact rfl)) ?_
 simp only [lay]
 refine te 2 (.pointer (some ⟨gr, 0, none⟩)) hS rfl (by intro _ _; exact ex_field 0 0 (by exact rfl) Try.underlying156 (by exact rfl) rfl (by kernel_rfl) (by exact rfl)) ?_
 simp only [lay]
 refine te 3 (.slice A N c) hS rfl (by intro _ h; exact ex_cell (by exact rfl) Try.underlying26 rfl (by exact rfl) (h.cell 0 rfl)) ?_
 simp only [lay]
 refine te 4 (.int .i64 (N : Int)) hS rfl (by intro _ _; exact ex_len (by exact rfl) Try.underlying26 (by exact rfl)) ?_
 simp only [lay]
 refine te 5 (.pointer (some ⟨gr, 0, none⟩)) hS rfl (by intro _ _; exact rfl) ?_
 simp only [lay]
 refine te 6 (.pointer (some ⟨gr, 0, none⟩)) hS rfl (by intro _ _; exact ex_nilc (by exact rfl) (by exact rfl)) ?_
 simp only [lay]
 refine te 7 (.pointer (some ⟨gr, 1, none⟩)) hS rfl (by intro _ _; exact ex_field 1 0 (by exact rfl) Try.underlying156 (by exact rfl) rfl (by kernel_rfl) (by exact rfl)) ?_
 simp only [lay]
 refine te 8 (.int .i64 (k : Int)) hS rfl (by intro _ h; exact ex_cell (by exact rfl) Try.underlying3 rfl (by exact rfl) (h.cell 1 rfl)) ?_
 simp only [lay]
 refine te 9 (.int .i64 ((N : Int) - (k : Int))) hS rfl (by intro _ _; exact ex_bin (by exact rfl) (by exact rfl) (by exact rfl) (by decide) (b_sub _ _ rfl (by omega) _)) ?_
 simp only [lay]
 refine te 10 (.bool false) hS rfl (by intro _ _; exact ex_bin (by exact rfl) (by exact rfl) (by exact rfl) (by decide) (b_lss _ _ (decide_eq_false (by omega)) _)) ?_
 simp only [lay]
 refine wpAnyH_done (by kernel_rfl) ?_ _
 obtain ⟨A8, c8, rs, y8⟩ := hy.from_ (P := Try.prog) 26 Try.underlying26 (by kernel_rfl) (k := k) hk
 have hget : ∀ i, (l.drop k).getD i 0 = l.getD (k + i) 0 := fun i => by simp [List.getD]
 obtain ⟨R, hR⟩ : ∃ R, N - k = R := ⟨_, rfl⟩
 rw [hR] at rs y8
 have hR8 : 8 ≤ R := by omega
 have hkR : k + R = N := by omega
 clear hR
 have h1 : RT B G gr gv W0 w.drew A N c k bad pos D ⟨hA, hc, ps, bA, bc⟩ := h.drew
 obtain ⟨b, o, rfl, hb, -⟩ := y8.row.at_ (by omega)
 clear hS
 go_wp2
 refine wp_region_held_drew (S := fun W => Has W gr (.cells (rdr A N c (k : Int) bad pos) 156 (0, 0))) (by kernel_rfl) (h1.rd.drew) (fun hS => ?_)
 refine te 0 (.pointer (some ⟨gr, 0, none⟩)) hS rfl (by intro _ _; exact rfl) ?_
 simp only [lay]
 refine te 1 (.pointer (some ⟨gr, 0, none⟩)) hS rfl (by intro _ _; exact ex_nilc (by exact rfl) (by exact rfl)) ?_
 simp only [lay]
 refine te 2 (.pointer (some ⟨gr, 0, none⟩)) hS rfl (by intro _ _; exact ex_field 0 0 (by exact rfl) Try.underlying156 (by exact rfl) rfl (by kernel_rfl) (by exact rfl)) ?_
 simp only [lay]
 refine te 3 (.slice A N c) hS rfl (by intro _ h; exact ex_cell (by exact rfl) Try.underlying26 rfl (by exact rfl) (h.cell 0 rfl)) ?_
 simp only [lay]
 refine te 4 (.pointer (some ⟨gr, 0, none⟩)) hS rfl (by intro _ _; exact rfl) ?_
 simp only [lay]
 refine te 5 (.pointer (some ⟨gr, 0, none⟩)) hS rfl (by intro _ _; exact ex_nilc (by exact rfl) (by exact rfl)) ?_
 simp only [lay]
 refine te 6 (.pointer (some ⟨gr, 1, none⟩)) hS rfl (by intro _ _; exact ex_field 1 0 (by exact rfl) Try.underlying156 (by exact rfl) rfl (by kernel_rfl) (by exact rfl)) ?_
 simp only [lay]
 refine te 7 (.int .i64 (k : Int)) hS rfl (by intro _ h; exact ex_cell (by exact rfl) Try.underlying3 rfl (by exact rfl) (h.cell 1 rfl)) ?_
 simp only [lay]
 refine te 8 (.slice (some ⟨b, o, none⟩) R c8) hS rfl (by intro _ _; exact ex_slice (by exact rfl) (by exact rfl) (rs _)) ?_
 simp only [lay]
 refine te 9 (.slice (some ⟨b, o, none⟩) R c8) hS rfl (by intro _ _; exact rfl) ?_
 simp only [lay]
 refine wpAnyH_done (by kernel_rfl) ?_ _
 have h2 : RT B G gr gv W0 w.drew.drew A N c k bad pos D ⟨hA, hc, ps, bA, bc⟩ := h1.drew
 clear h h1 hS
 generalize w.drew.drew = w2 at h2 ⊢
 obtain ⟨x0, hx0⟩ : ∃ x, l.getD k 0 = x := ⟨_, rfl⟩
 have e0 : W0.cell? ⟨b, o, none⟩ = some (.int .u8 x0) := by
  have h := y8.atO (k := 0) (by omega)
  rw [hget, show k + 0 = k from rfl, hx0] at h
  exact h
 have g0 := getD_byte hlr k
 rw [hx0] at g0
 obtain ⟨x1, hx1⟩ : ∃ x, l.getD (k + 1) 0 = x := ⟨_, rfl⟩
 have e1 : W0.cell? ⟨b, o + 1, none⟩ = some (.int .u8 x1) := by
  have h := y8.atO (k := 1) (by omega)
  rw [hget, hx1] at h
  exact h
 have g1 := getD_byte hlr (k + 1)
 rw [hx1] at g1
 obtain ⟨n8, hn8⟩ : ∃ n, m8 + 8 = n := ⟨_, rfl⟩
 have hm8x : (m8 : Int) = 8 * x1 := by rw [← hm, g6len, hx1]; omega
 have hx0H := Lib.hid hx0
 have hT : 8 * (x1 + 1) = (n8 : Int) := by omega
 have hm8b : m8 ≤ 2040 := by omega
 have d1 := (h2.bel.cell (p := ⟨b, o + 1, none⟩) hb).trans e1
 clear hx0 hx1 hget hm
 have hlt : (R : Int) < (n8 : Int) := by omega
 have k1 := h2.rd.cell 1 (v := .int .i64 (k : Int)) rfl
 have hcf := Lib.hid (rfail_any (e := 50) (q := (k : Int)) h2 hBr hGr hne)
 clear h2 hm8x
 go_wp2_with fail
 refine hcf.out.mono ?_
 rintro e w3 ⟨rfl, h3⟩
 go_wp2
 go_ret2
 exact ⟨rfl, h3⟩

set_option maxRecDepth 100000 in
set_option maxHeartbeats 4000000 in
theorem rhead_full {B G gr gv : Nat} {W0 w : World} {A hA bA : Option Addr} {N c k hc bc : Nat} {bad pos : Int} {D : D6} {ps : List Kd} {l : List Int} (h : RT B G gr gv W0 w A N c k bad pos D ⟨hA, hc, ps, bA, bc⟩) (hy : By B W0 A N c l) (hBr : B ≤ gr) (hBv : B ≤ gv) (hGr : gr < G) (hGv : gv < G) (hne : gr ≠ gv) (hk : k ≤ N) (kind : Int) (hn : k + 8 ≤ N) (h44 : kind ≠ 44) (hn2 : k + 8 + g6len l k ≤ N) (hf : (kind = 0 ∧ 0 < D.hs.length) ∨ D.hs.length = 8) :
  Calls Try.prog 107 #[.pointer (some ⟨gr, 0, none⟩), .pointer (some ⟨gv, 0, none⟩), .int .u8 kind] w fun e w' => RBad B G gr gv W0 A N c k D ⟨hA, hc, ps, bA, bc⟩ 53 e w' := by
 have hk44 : (kind == 44) = false := by simpa using h44
 obtain ⟨m8, hm⟩ : ∃ m, g6len l k = m := ⟨_, rfl⟩
 rw [hm] at hn2
 have hmH := Lib.hid hm
 have hlr := hy.rng
 have hN := Nat.le_trans hy.cap hy.big
 go_enter Try.func107, Try.ntmps107
 go_wp2
 refine wp_region_held_drew (S := fun W => Has W gr (.cells (rdr A N c (k : Int) bad pos) 156 (0, 0))) (by kernel_rfl) (h.rd.drew) (fun hS => ?_)
 refine te 0 (.pointer (some ⟨gr, 0, none⟩)) hS rfl (by intro _ _; exact rfl) ?_
 simp only [lay]
 refine te 1 (.pointer (some ⟨gr, 0, none⟩)) hS rfl (by intro _ _; exact ex_nilc (by exact rfl) (by exact rfl)) ?_
 simp only [lay]
 refine te 2 (.pointer (some ⟨gr, 0, none⟩)) hS rfl (by intro _ _; exact ex_field 0 0 (by exact rfl) Try.underlying156 (by exact rfl) rfl (by kernel_rfl) (by exact rfl)) ?_
 simp only [lay]
 refine te 3 (.slice A N c) hS rfl (by intro _ h; exact ex_cell (by exact rfl) Try.underlying26 rfl (by exact rfl) (h.cell 0 rfl)) ?_
 simp only [lay]
 refine te 4 (.int .i64 (N : Int)) hS rfl (by intro _ _; exact ex_len (by exact rfl) Try.underlying26 (by exact rfl)) ?_
 simp only [lay]
 refine te 5 (.pointer (some ⟨gr, 0, none⟩)) hS rfl (by intro _ _; exact rfl) ?_
 simp only [lay]
 refine te 6 (.pointer (some ⟨gr, 0, none⟩)) hS rfl (by intro _ _; exact ex_nilc (by exact rfl) (by exact rfl)) ?_
 simp only [lay]
 refine te 7 (.pointer (some ⟨gr, 1, none⟩)) hS rfl (by intro _ _; exact ex_field 1 0 (by exact rfl) Try.underlying156 (by exact rfl) rfl (by kernel_rfl) (by exact rfl)) ?_
 simp only [lay]
 refine te 8 (.int .i64 (k : Int)) hS rfl (by intro _ h; exact ex_cell (by exact rfl) Try.underlying3 rfl (by exact rfl) (h.cell 1 rfl)) ?_
 simp only [lay]
 refine te 9 (.int .i64 ((N : Int) - (k : Int))) hS rfl (by intro _ _; exact ex_bin (by exact rfl) (by exact rfl) (by exact rfl) (by decide) (b_sub _ _ rfl (by omega) _)) ?_
 simp only [lay]
 refine te 10 (.bool false) hS rfl (by intro _ _; exact ex_bin (by exact rfl) (by exact rfl) (by exact rfl) (by decide) (b_lss _ _ (decide_eq_false (by omega)) _)) ?_
 simp only [lay]
 refine wpAnyH_done (by kernel_rfl) ?_ _
 obtain ⟨A8, c8, rs, y8⟩ := hy.from_ (P := Try.prog) 26 Try.underlying26 (by kernel_rfl) (k := k) hk
 have hget : ∀ i, (l.drop k).getD i 0 = l.getD (k + i) 0 := fun i => by simp [List.getD]
 obtain ⟨R, hR⟩ : ∃ R, N - k = R := ⟨_, rfl⟩
 rw [hR] at rs y8
 have hR8 : 8 ≤ R := by omega
 have hkR : k + R = N := by omega
 clear hR
 have h1 : RT B G gr gv W0 w.drew A N c k bad pos D ⟨hA, hc, ps, bA, bc⟩ := h.drew
 obtain ⟨b, o, rfl, hb, -⟩ := y8.row.at_ (by omega)
 clear hS
 go_wp2
 refine wp_region_held_drew (S := fun W => Has W gr (.cells (rdr A N c (k : Int) bad pos) 156 (0, 0))) (by kernel_rfl) (h1.rd.drew) (fun hS => ?_)
 refine te 0 (.pointer (some ⟨gr, 0, none⟩)) hS rfl (by intro _ _; exact rfl) ?_
 simp only [lay]
 refine te 1 (.pointer (some ⟨gr, 0, none⟩)) hS rfl (by intro _ _; exact ex_nilc (by exact rfl) (by exact rfl)) ?_
 simp only [lay]
 refine te 2 (.pointer (some ⟨gr, 0, none⟩)) hS rfl (by intro _ _; exact ex_field 0 0 (by exact rfl) Try.underlying156 (by exact rfl) rfl (by kernel_rfl) (by exact rfl)) ?_
 simp only [lay]
 refine te 3 (.slice A N c) hS rfl (by intro _ h; exact ex_cell (by exact rfl) Try.underlying26 rfl (by exact rfl) (h.cell 0 rfl)) ?_
 simp only [lay]
 refine te 4 (.pointer (some ⟨gr, 0, none⟩)) hS rfl (by intro _ _; exact rfl) ?_
 simp only [lay]
 refine te 5 (.pointer (some ⟨gr, 0, none⟩)) hS rfl (by intro _ _; exact ex_nilc (by exact rfl) (by exact rfl)) ?_
 simp only [lay]
 refine te 6 (.pointer (some ⟨gr, 1, none⟩)) hS rfl (by intro _ _; exact ex_field 1 0 (by exact rfl) Try.underlying156 (by exact rfl) rfl (by kernel_rfl) (by exact rfl)) ?_
 simp only [lay]
 refine te 7 (.int .i64 (k : Int)) hS rfl (by intro _ h; exact ex_cell (by exact rfl) Try.underlying3 rfl (by exact rfl) (h.cell 1 rfl)) ?_
 simp only [lay]
 refine te 8 (.slice (some ⟨b, o, none⟩) R c8) hS rfl (by intro _ _; exact ex_slice (by exact rfl) (by exact rfl) (rs _)) ?_
 simp only [lay]
 refine te 9 (.slice (some ⟨b, o, none⟩) R c8) hS rfl (by intro _ _; exact rfl) ?_
 simp only [lay]
 refine wpAnyH_done (by kernel_rfl) ?_ _
 have h2 : RT B G gr gv W0 w.drew.drew A N c k bad pos D ⟨hA, hc, ps, bA, bc⟩ := h1.drew
 clear h h1 hS
 generalize w.drew.drew = w2 at h2 ⊢
 obtain ⟨x0, hx0⟩ : ∃ x, l.getD k 0 = x := ⟨_, rfl⟩
 have e0 : W0.cell? ⟨b, o, none⟩ = some (.int .u8 x0) := by
  have h := y8.atO (k := 0) (by omega)
  rw [hget, show k + 0 = k from rfl, hx0] at h
  exact h
 have g0 := getD_byte hlr k
 rw [hx0] at g0
 obtain ⟨x1, hx1⟩ : ∃ x, l.getD (k + 1) 0 = x := ⟨_, rfl⟩
 have e1 : W0.cell? ⟨b, o + 1, none⟩ = some (.int .u8 x1) := by
  have h := y8.atO (k := 1) (by omega)
  rw [hget, hx1] at h
  exact h
 have g1 := getD_byte hlr (k + 1)
 rw [hx1] at g1
 obtain ⟨n8, hn8⟩ : ∃ n, m8 + 8 = n := ⟨_, rfl⟩
 have hm8x : (m8 : Int) = 8 * x1 := by rw [← hm, g6len, hx1]; omega
 have hx0H := Lib.hid hx0
 have hT : 8 * (x1 + 1) = (n8 : Int) := by omega
 have hm8b : m8 ≤ 2040 := by omega
 have d1 := (h2.bel.cell (p := ⟨b, o + 1, none⟩) hb).trans e1
 clear hx0 hx1 hget hm
 have hlt : ¬ ((R : Int) < (n8 : Int)) := by omega
 have k1 := h2.rd.cell 1 (v := .int .i64 (k : Int)) rfl
 have c35 := h2.vv.cell 35 (v := .slice hA D.hs.length hc) rfl
 have hcf := Lib.hid (rfail_any (e := 53) (q := (k : Int)) h2 hBr hGr hne)
 obtain ⟨HL, hHL⟩ : ∃ n, D.hs.length = n := ⟨_, rfl⟩
 rw [hHL] at hf c35
 clear h2 hm8x hHL
 by_cases h0 : kind = 0 ∧ 0 < HL
 ·obtain ⟨rfl, h1⟩ := h0
  have h1 : (0 : Int) < (HL : Int) := by omega
  clear hf hk44 h44
  go_wp2_with fail
  refine hcf.out.mono ?_
  rintro e w3 ⟨rfl, h3⟩
  go_wp2
  go_ret2
  exact ⟨rfl, h3⟩
 ·obtain rfl : HL = 8 := hf.resolve_left h0
  have h0 : (kind == 0) = false := by
   have : kind ≠ 0 := fun e => h0 ⟨e, by decide⟩
   simpa using this
  clear hf
  go_wp2_with fail
  refine hcf.out.mono ?_
  rintro e w3 ⟨rfl, h3⟩
  go_wp2
  go_ret2
  exact ⟨rfl, h3⟩

set_option maxRecDepth 100000 in
set_option maxHeartbeats 8000000 in
theorem rhead_ok {B G gr gv : Nat} {W0 w : World} {A hA bA : Option Addr} {N c k hc bc : Nat} {bad pos : Int} {D : D6} {ps : List Kd} {l : List Int} (h : RT B G gr gv W0 w A N c k bad pos D ⟨hA, hc, ps, bA, bc⟩) (hy : By B W0 A N c l) (hBr : B ≤ gr) (hBv : B ≤ gv) (hGr : gr < G) (hGv : gv < G) (hne : gr ≠ gv) (hk : k ≤ N) (kind : Int) (hn : k + 8 ≤ N) (h44 : kind ≠ 44) (hn2 : k + 8 + g6len l k ≤ N) (hf : ¬ ((kind = 0 ∧ 0 < D.hs.length) ∨ D.hs.length = 8)) (h8 : D.hs.length ≤ 8) (hkr : 0 ≤ kind ∧ kind ≤ 255) (hB0 : B ≤ W0.heap.size) (hBG : B ≤ G) (hGw : G ≤ w.heap.size) :
  Calls Try.prog 107 #[.pointer (some ⟨gr, 0, none⟩), .pointer (some ⟨gv, 0, none⟩), .int .u8 kind] w fun e w' => (∃ q : Int, e = .returned (.tuple #[.int .u8 q, .bool true]) ∧ Hid (q = l.getD k 0)) ∧ G ≤ w'.heap.size ∧
   ∃ p', RT B G gr gv W0 w' A N c (k + 8 + g6len l k) bad pos { D with hs := D.hs ++ [(kind, (l.drop (k + 2)).take (6 + g6len l k))] } p' := by
 have hk44 : (kind == 44) = false := by simpa using h44
 obtain ⟨m8, hm⟩ : ∃ m, g6len l k = m := ⟨_, rfl⟩
 rw [hm] at hn2
 have hmH := Lib.hid hm
 have hlr := hy.rng
 have hN := Nat.le_trans hy.cap hy.big
 go_enter Try.func107, Try.ntmps107
 go_wp2
 refine wp_region_held_drew (S := fun W => Has W gr (.cells (rdr A N c (k : Int) bad pos) 156 (0, 0))) (by kernel_rfl) (h.rd.drew) (fun hS => ?_)
 refine te 0 (.pointer (some ⟨gr, 0, none⟩)) hS rfl (by intro _ _; exact rfl) ?_
 simp only [lay]
 refine te 1 (.pointer (some ⟨gr, 0, none⟩)) hS rfl (by intro _ _; exact ex_nilc (by exact rfl) (by exact rfl)) ?_
 simp only [lay]
 refine te 2 (.pointer (some ⟨gr, 0, none⟩)) hS rfl (by intro _ _; exact ex_field 0 0 (by exact rfl) Try.underlying156 (by exact rfl) rfl (by kernel_rfl) (by exact rfl)) ?_
 simp only [lay]
 refine te 3 (.slice A N c) hS rfl (by intro _ h; exact ex_cell (by exact rfl) Try.underlying26 rfl (by exact rfl) (h.cell 0 rfl)) ?_
 simp only [lay]
 refine te 4 (.int .i64 (N : Int)) hS rfl (by intro _ _; exact ex_len (by exact rfl) Try.underlying26 (by exact rfl)) ?_
 simp only [lay]
 refine te 5 (.pointer (some ⟨gr, 0, none⟩)) hS rfl (by intro _ _; exact rfl) ?_
 simp only [lay]
 refine te 6 (.pointer (some ⟨gr, 0, none⟩)) hS rfl (by intro _ _; exact ex_nilc (by exact rfl) (by exact rfl)) ?_
 simp only [lay]
 refine te 7 (.pointer (some ⟨gr, 1, none⟩)) hS rfl (by intro _ _; exact ex_field 1 0 (by exact rfl) Try.underlying156 (by exact rfl) rfl (by kernel_rfl) (by exact rfl)) ?_
 simp only [lay]
 refine te 8 (.int .i64 (k : Int)) hS rfl (by intro _ h; exact ex_cell (by exact rfl) Try.underlying3 rfl (by exact rfl) (h.cell 1 rfl)) ?_
 simp only [lay]
 refine te 9 (.int .i64 ((N : Int) - (k : Int))) hS rfl (by intro _ _; exact ex_bin (by exact rfl) (by exact rfl) (by exact rfl) (by decide) (b_sub _ _ rfl (by omega) _)) ?_
 simp only [lay]
 refine te 10 (.bool false) hS rfl (by intro _ _; exact ex_bin (by exact rfl) (by exact rfl) (by exact rfl) (by decide) (b_lss _ _ (decide_eq_false (by omega)) _)) ?_
 simp only [lay]
 refine wpAnyH_done (by kernel_rfl) ?_ _
 obtain ⟨A8, c8, rs, y8⟩ := hy.from_ (P := Try.prog) 26 Try.underlying26 (by kernel_rfl) (k := k) hk
 have hget : ∀ i, (l.drop k).getD i 0 = l.getD (k + i) 0 := fun i => by simp [List.getD]
 obtain ⟨R, hR⟩ : ∃ R, N - k = R := ⟨_, rfl⟩
 rw [hR] at rs y8
 have hR8 : 8 ≤ R := by omega
 have hkR : k + R = N := by omega
 clear hR
 have h1 : RT B G gr gv W0 w.drew A N c k bad pos D ⟨hA, hc, ps, bA, bc⟩ := h.drew
 obtain ⟨b, o, rfl, hb, -⟩ := y8.row.at_ (by omega)
 clear hS
 go_wp2
 refine wp_region_held_drew (S := fun W => Has W gr (.cells (rdr A N c (k : Int) bad pos) 156 (0, 0))) (by kernel_rfl) (h1.rd.drew) (fun hS => ?_)
 refine te 0 (.pointer (some ⟨gr, 0, none⟩)) hS rfl (by intro _ _; exact rfl) ?_
 simp only [lay]
 refine te 1 (.pointer (some ⟨gr, 0, none⟩)) hS rfl (by intro _ _; exact ex_nilc (by exact rfl) (by exact rfl)) ?_
 simp only [lay]
 refine te 2 (.pointer (some ⟨gr, 0, none⟩)) hS rfl (by intro _ _; exact ex_field 0 0 (by exact rfl) Try.underlying156 (by exact rfl) rfl (by kernel_rfl) (by exact rfl)) ?_
 simp only [lay]
 refine te 3 (.slice A N c) hS rfl (by intro _ h; exact ex_cell (by exact rfl) Try.underlying26 rfl (by exact rfl) (h.cell 0 rfl)) ?_
 simp only [lay]
 refine te 4 (.pointer (some ⟨gr, 0, none⟩)) hS rfl (by intro _ _; exact rfl) ?_
 simp only [lay]
 refine te 5 (.pointer (some ⟨gr, 0, none⟩)) hS rfl (by intro _ _; exact ex_nilc (by exact rfl) (by exact rfl)) ?_
 simp only [lay]
 refine te 6 (.pointer (some ⟨gr, 1, none⟩)) hS rfl (by intro _ _; exact ex_field 1 0 (by exact rfl) Try.underlying156 (by exact rfl) rfl (by kernel_rfl) (by exact rfl)) ?_
 simp only [lay]
 refine te 7 (.int .i64 (k : Int)) hS rfl (by intro _ h; exact ex_cell (by exact rfl) Try.underlying3 rfl (by exact rfl) (h.cell 1 rfl)) ?_
 simp only [lay]
 refine te 8 (.slice (some ⟨b, o, none⟩) R c8) hS rfl (by intro _ _; exact ex_slice (by exact rfl) (by exact rfl) (rs _)) ?_
 simp only [lay]
 refine te 9 (.slice (some ⟨b, o, none⟩) R c8) hS rfl (by intro _ _; exact rfl) ?_
 simp only [lay]
 refine wpAnyH_done (by kernel_rfl) ?_ _
 have h2 : RT B G gr gv W0 w.drew.drew A N c k bad pos D ⟨hA, hc, ps, bA, bc⟩ := h1.drew
 clear h h1 hS
 have hGw2 : Hid (G ≤ w.drew.drew.heap.size) := Lib.hid hGw
 clear hGw
 generalize w.drew.drew = w2 at h2 hGw2 ⊢
 obtain ⟨x0, hx0⟩ : ∃ x, l.getD k 0 = x := ⟨_, rfl⟩
 have e0 : W0.cell? ⟨b, o, none⟩ = some (.int .u8 x0) := by
  have h := y8.atO (k := 0) (by omega)
  rw [hget, show k + 0 = k from rfl, hx0] at h
  exact h
 have g0 := getD_byte hlr k
 rw [hx0] at g0
 obtain ⟨x1, hx1⟩ : ∃ x, l.getD (k + 1) 0 = x := ⟨_, rfl⟩
 have e1 : W0.cell? ⟨b, o + 1, none⟩ = some (.int .u8 x1) := by
  have h := y8.atO (k := 1) (by omega)
  rw [hget, hx1] at h
  exact h
 have g1 := getD_byte hlr (k + 1)
 rw [hx1] at g1
 obtain ⟨n8, hn8⟩ : ∃ n, m8 + 8 = n := ⟨_, rfl⟩
 have hm8x : (m8 : Int) = 8 * x1 := by rw [← hm, g6len, hx1]; omega
 have hx0H := Lib.hid hx0
 have hT : 8 * (x1 + 1) = (n8 : Int) := by omega
 have hm8b : m8 ≤ 2040 := by omega
 have d1 := (h2.bel.cell (p := ⟨b, o + 1, none⟩) hb).trans e1
 clear hx0 hx1 hget hm
 have hGw : G ≤ w2.heap.size := by have := hGw2.out; omega
 have hlt : ¬ ((R : Int) < (n8 : Int)) := by omega
 have c35 := h2.vv.cell 35 (v := .slice hA D.hs.length hc) rfl
 obtain ⟨HL, hHL⟩ : ∃ n, D.hs.length = n := ⟨_, rfl⟩
 rw [hHL] at hf h8 c35
 have hpl : ps.length = HL := by rw [← hHL, ← h2.hl, kdL_len]
 obtain ⟨A3, c3, r3, y3⟩ := y8.mid (P := Try.prog) 26 Try.underlying26 (by kernel_rfl) (k := 2) (m := n8) (by omega) (by omega)
 have hfl : ((l.drop k).take n8).drop 2 = (l.drop (k + 2)).take (6 + m8) := by rw [List.drop_take, List.drop_drop, show n8 - 2 = 6 + m8 from by omega]
 rw [hfl, show n8 - 2 = 6 + m8 from by omega] at y3
 simp only [show n8 - 2 = 6 + m8 from by omega] at r3
 have hbl : ((l.drop (k + 2)).take (6 + m8)).length = 6 + m8 := y3.len
 have h3 := h2.drew
 have hkl := h2.hl
 dsimp only at hkl
 have hbel := h2.bel
 clear h2 y8 rs hfl
 have hc00 : (kind == 0) = decide (kind = 0) := by rw [Bool.eq_iff_iff]; simp
 obtain ⟨qk, hqk⟩ : ∃ q, (kind == 0) = q := ⟨_, rfl⟩
 have h88 : ¬ ((8 : Int) ≤ (HL : Int)) := by omega
 have hHz : qk = true → ¬ ((0 : Int) < (HL : Int)) := fun e => by rw [← hqk, hc00, decide_eq_true_eq] at e; omega
 clear hc00
 cases qk with
 | true =>
  have hHz := hHz rfl
  go_wp2
  refine wp_region_held_drew (S := fun W => Below B W0 W) (by kernel_rfl) (hbel.trans (below_drew _ _)) (fun hS => ?_)
  have hGd : G ≤ w2.drew.heap.size := hGw
  have hZ := h3.vv
  have hR8 := h3.rd
  have hK := h3.own
  clear h3 hbel d1
  dsimp only at hK
  generalize w2.drew = W4 at hS hZ hR8 hK hGd ⊢
  have hg4 := hZ.lt
  have hgr4 := hR8.lt
  have hG4 : G ≤ W4.heap.size := hGd
  apply wpAnyH_rest6 (R := fun A8 c8 A5 c5 _ _ W9 => Has W9 gv (.cells ((D.cells ⟨hA, hc, ps, bA, bc⟩).setIfInBounds 35 (.slice A8 (ps ++ [(kind, A5, c5, ((l.drop (k + 2)).take (6 + m8)))]).length c8)) 28 (0, 0)) ∧ Has W9 gr (.cells (rdr A N c (k : Int) bad pos) 156 (0, 0)) ∧ OwnK W9 G 108 (.slice A8 (ps ++ [(kind, A5, c5, ((l.drop (k + 2)).take (6 + m8)))]).length c8) (ps ++ [(kind, A5, c5, ((l.drop (k + 2)).take (6 + m8)))]) ∧ Below B W0 W9 ∧ G ≤ W9.heap.size)
  case h1 =>
   intro hrest
   refine te 0 (.pointer (some ⟨gv, 0, none⟩)) hS rfl (by intro _ _; exact rfl) ?_
   simp only [lay]
   refine te 1 (.pointer (some ⟨gv, 0, none⟩)) hS rfl (by intro _ _; exact rfl) ?_
   simp only [lay]
   refine te 2 (.pointer (some ⟨gv, 0, none⟩)) hS rfl (by intro _ _; exact ex_nilc (by exact rfl) (by exact rfl)) ?_
   simp only [lay]
   refine te 3 (.pointer (some ⟨gv, 35, none⟩)) hS rfl (by intro _ _; exact ex_field 35 0 (by exact rfl) Try.underlying28 (by exact rfl) rfl (by kernel_rfl) (by exact rfl)) ?_
   simp only [lay]
   refine te 5 (.int .u8 kind) hS rfl (by intro _ _; exact rfl) ?_
   simp only [lay]
   refine te 7 (.slice (some ⟨b, o, none⟩) R c8) hS rfl (by intro _ _; exact rfl) ?_
   simp only [lay]
   refine te 8 (.int .i64 (n8 : Int)) hS rfl (by intro _ _; exact rfl) ?_
   simp only [lay]
   refine te 9 (.slice A3 (6 + m8) c3) hS rfl (by intro _ _; exact ex_slice (by exact rfl) (by exact rfl) (r3 _)) ?_
   simp only [lay]
   refine tk_two (by kernel_rfl) (op_val (i := 4) (.slice hA D.hs.length hc) rfl (by kernel_rfl) (ex_cell (by exact rfl) Try.underlying25 rfl (by exact rfl) (hZ.cell 35 (v := .slice hA D.hs.length hc) rfl)) hS ?L1) (op_build0 (i := 6) rfl (by kernel_rfl) rfl Try.underlying26 (by kernel_rfl) (fun _ hb => hS.trans (hb.mono (Nat.le_trans hB0 (Below.size hS)))) ?R1)
   case' L1 =>
    simp only [lay]
    refine tk_one (by kernel_rfl) (op_build0 (i := 6) rfl (by kernel_rfl) rfl Try.underlying26 (by kernel_rfl) (fun _ hb => hS.trans (hb.mono (Nat.le_trans hB0 (Below.size hS)))) ?_)
    intro g7 W5 o5 hb5 hS5
    have hZ := hZ.below hb5 hZ.lt
    simp only [lay]
    refine tk_one (by kernel_rfl) (op_app (i := 10) (.tmp 148) (.tmp 151) _ rfl (by kernel_rfl) rfl Try.underlying26 (by kernel_rfl) W4.heap.size _ _ rfl (o5) _ _ _ _ _ rfl (y3.below hS5 (Nat.le_refl _)) (by simp only [List.length_nil]; omega) (hb5.size) (fun _ hb => hS5.trans (hb.mono (Nat.le_trans hB0 (Below.size hS)))) ?_)
    intro v6 W6 o6 hb6 hS6
    rw [List.nil_append] at o6
    have hnb := hK.apart o6 (Nat.le_refl _)
    have hZ := hZ.below hb6 hg4
    have hK := hK.below (hb5.trans hb6)
    have o6 := o6.more hG4
    obtain ⟨A5, c5, rfl, _⟩ := own_shape o6.own
    rw [hbl] at o6 hnb ⊢
    simp only [lay]
    refine te 11 (.agg #[.int .u8 kind, .slice A5 (6 + m8) c5]) hS6 rfl (by intro _ _; go_simp) ?_
    simp only [lay]
    refine tk_one (by kernel_rfl) (op_build_kd (i := 12) 25 108 (.tmp 153) rfl (by kernel_rfl) rfl Try.underlying25 hd_zero kind (.slice A5 (6 + m8) c5) rfl (fun _ hb => hS6.trans (hb.mono (Nat.le_trans hB0 (Below.size hS6)))) ?_)
    intro g8 W7 hQ8 hge8 hb7 hS7
    have hZ := hZ.below hb7 hZ.lt
    have hK := hK.below hb7
    have o7 := o6.below hb7
    simp only [lay]
    refine tk_one (by kernel_rfl) (op_append_kd (i := 13) _ _ 25 rfl (by kernel_rfl) rfl G 108 _ 32 Try.underlying25 hd_full rfl _ ps rfl hK g8 1 (kind, A5, c5, ((l.drop (k + 2)).take (6 + m8))) rfl (hQ8.cell 0 rfl) (by rw [kdV, hbl]; exact hQ8.cell 1 rfl) hkr.1 hkr.2 (by rw [kdV, hbl]; exact o7) (by rw [kdV, hbl]; exact hnb) (by omega) (by simp only [maxLen]; omega) (Nat.le_trans hG4 (Nat.le_trans hb5.size (Nat.le_trans hb6.size hb7.size))) (fun _ hb => hS7.trans (hb.mono hBG)) ?_)
    intro v8 W8 hK8 hb8 hS8
    obtain ⟨Ah, ch, rfl, _⟩ := hK8.kds
    have hZ8 := hZ.below hb8 hGv
    simp only [lay]
    refine te 14 (.pointer (some ⟨gv, 0, none⟩)) hS8 rfl (by intro _ _; exact ex_nilc (by exact rfl) (by exact rfl)) ?_
    simp only [lay]
    refine te 15 (.pointer (some ⟨gv, 35, none⟩)) hS8 rfl (by intro _ _; exact ex_field 35 0 (by exact rfl) Try.underlying28 (by exact rfl) rfl (by kernel_rfl) (by exact rfl)) ?_
    simp only [lay]
    refine tk_cell (i := 16) (v := .slice Ah (ps ++ [(kind, A5, c5, ((l.drop (k + 2)).take (6 + m8)))]).length ch) (by kernel_rfl) rfl (by kernel_rfl) rfl rfl rfl rfl (by kernel_rfl) hZ8 (show 35 < 42 by decide) rfl (below_setCell hS8 hBv 35 _) ?_
    simp only [lay]
    refine wpAnyH_done (by kernel_rfl) ?_ _
    exact hrest Ah ch A5 c5 g7 g8 _ ⟨hZ8.setCell 35 _, (hR8.below ((((hb5.trans hb6).mono hG4).trans (hb7.mono (Nat.le_trans hG4 (Nat.le_trans hb5.size hb6.size)))).trans hb8) hGr).setCell_other hne 35 _, hK8.but6 (But6.setCell gv 35 W8 _) hGv, below_setCell hS8 hBv 35 _, (by simpa [World.setCell] using Nat.le_trans hG4 (Nat.le_trans hb5.size (Nat.le_trans hb6.size (Nat.le_trans hb7.size hb8.size))))⟩
   case' R1 =>
    intro g7 W5 o5 hb5 hS5
    have hZ := hZ.below hb5 hZ.lt
    simp only [lay]
    refine tk_two (by kernel_rfl) (op_val (i := 4) (.slice hA D.hs.length hc) rfl (by kernel_rfl) (ex_cell (by exact rfl) Try.underlying25 rfl (by exact rfl) (hZ.cell 35 (v := .slice hA D.hs.length hc) rfl)) hS5 ?L2) (op_app (i := 10) (.tmp 148) (.tmp 151) _ rfl (by kernel_rfl) rfl Try.underlying26 (by kernel_rfl) W4.heap.size _ _ rfl (o5) _ _ _ _ _ rfl (y3.below hS5 (Nat.le_refl _)) (by simp only [List.length_nil]; omega) (hb5.size) (fun _ hb => hS5.trans (hb.mono (Nat.le_trans hB0 (Below.size hS)))) ?R2)
    case' L2 =>
     simp only [lay]
     refine tk_one (by kernel_rfl) (op_app (i := 10) (.tmp 148) (.tmp 151) _ rfl (by kernel_rfl) rfl Try.underlying26 (by kernel_rfl) W4.heap.size _ _ rfl (o5) _ _ _ _ _ rfl (y3.below hS5 (Nat.le_refl _)) (by simp only [List.length_nil]; omega) (hb5.size) (fun _ hb => hS5.trans (hb.mono (Nat.le_trans hB0 (Below.size hS)))) ?_)
     intro v6 W6 o6 hb6 hS6
     rw [List.nil_append] at o6
     have hnb := hK.apart o6 (Nat.le_refl _)
     have hZ := hZ.below hb6 hg4
     have hK := hK.below (hb5.trans hb6)
     have o6 := o6.more hG4
     obtain ⟨A5, c5, rfl, _⟩ := own_shape o6.own
     rw [hbl] at o6 hnb ⊢
     simp only [lay]
     refine te 11 (.agg #[.int .u8 kind, .slice A5 (6 + m8) c5]) hS6 rfl (by intro _ _; go_simp) ?_
     simp only [lay]
     refine tk_one (by kernel_rfl) (op_build_kd (i := 12) 25 108 (.tmp 153) rfl (by kernel_rfl) rfl Try.underlying25 hd_zero kind (.slice A5 (6 + m8) c5) rfl (fun _ hb => hS6.trans (hb.mono (Nat.le_trans hB0 (Below.size hS6)))) ?_)
     intro g8 W7 hQ8 hge8 hb7 hS7
     have hZ := hZ.below hb7 hZ.lt
     have hK := hK.below hb7
     have o7 := o6.below hb7
     simp only [lay]
     refine tk_one (by kernel_rfl) (op_append_kd (i := 13) _ _ 25 rfl (by kernel_rfl) rfl G 108 _ 32 Try.underlying25 hd_full rfl _ ps rfl hK g8 1 (kind, A5, c5, ((l.drop (k + 2)).take (6 + m8))) rfl (hQ8.cell 0 rfl) (by rw [kdV, hbl]; exact hQ8.cell 1 rfl) hkr.1 hkr.2 (by rw [kdV, hbl]; exact o7) (by rw [kdV, hbl]; exact hnb) (by omega) (by simp only [maxLen]; omega) (Nat.le_trans hG4 (Nat.le_trans hb5.size (Nat.le_trans hb6.size hb7.size))) (fun _ hb => hS7.trans (hb.mono hBG)) ?_)
     intro v8 W8 hK8 hb8 hS8
     obtain ⟨Ah, ch, rfl, _⟩ := hK8.kds
     have hZ8 := hZ.below hb8 hGv
     simp only [lay]
     refine te 14 (.pointer (some ⟨gv, 0, none⟩)) hS8 rfl (by intro _ _; exact ex_nilc (by exact rfl) (by exact rfl)) ?_
     simp only [lay]
     refine te 15 (.pointer (some ⟨gv, 35, none⟩)) hS8 rfl (by intro _ _; exact ex_field 35 0 (by exact rfl) Try.underlying28 (by exact rfl) rfl (by kernel_rfl) (by exact rfl)) ?_
     simp only [lay]
     refine tk_cell (i := 16) (v := .slice Ah (ps ++ [(kind, A5, c5, ((l.drop (k + 2)).take (6 + m8)))]).length ch) (by kernel_rfl) rfl (by kernel_rfl) rfl rfl rfl rfl (by kernel_rfl) hZ8 (show 35 < 42 by decide) rfl (below_setCell hS8 hBv 35 _) ?_
     simp only [lay]
     refine wpAnyH_done (by kernel_rfl) ?_ _
     exact hrest Ah ch A5 c5 g7 g8 _ ⟨hZ8.setCell 35 _, (hR8.below ((((hb5.trans hb6).mono hG4).trans (hb7.mono (Nat.le_trans hG4 (Nat.le_trans hb5.size hb6.size)))).trans hb8) hGr).setCell_other hne 35 _, hK8.but6 (But6.setCell gv 35 W8 _) hGv, below_setCell hS8 hBv 35 _, (by simpa [World.setCell] using Nat.le_trans hG4 (Nat.le_trans hb5.size (Nat.le_trans hb6.size (Nat.le_trans hb7.size hb8.size))))⟩
    case' R2 =>
     intro v6 W6 o6 hb6 hS6
     rw [List.nil_append] at o6
     have hnb := hK.apart o6 (Nat.le_refl _)
     have hZ := hZ.below hb6 hg4
     have hK := hK.below (hb5.trans hb6)
     have o6 := o6.more hG4
     obtain ⟨A5, c5, rfl, _⟩ := own_shape o6.own
     rw [hbl] at o6 hnb ⊢
     simp only [lay]
     refine te 11 (.agg #[.int .u8 kind, .slice A5 (6 + m8) c5]) hS6 rfl (by intro _ _; go_simp) ?_
     simp only [lay]
     refine tk_two (by kernel_rfl) (op_val (i := 4) (.slice hA D.hs.length hc) rfl (by kernel_rfl) (ex_cell (by exact rfl) Try.underlying25 rfl (by exact rfl) (hZ.cell 35 (v := .slice hA D.hs.length hc) rfl)) hS6 ?L3) (op_build_kd (i := 12) 25 108 (.tmp 153) rfl (by kernel_rfl) rfl Try.underlying25 hd_zero kind (.slice A5 (6 + m8) c5) rfl (fun _ hb => hS6.trans (hb.mono (Nat.le_trans hB0 (Below.size hS6)))) ?R3)
     case' L3 =>
      simp only [lay]
      refine tk_one (by kernel_rfl) (op_build_kd (i := 12) 25 108 (.tmp 153) rfl (by kernel_rfl) rfl Try.underlying25 hd_zero kind (.slice A5 (6 + m8) c5) rfl (fun _ hb => hS6.trans (hb.mono (Nat.le_trans hB0 (Below.size hS6)))) ?_)
      intro g8 W7 hQ8 hge8 hb7 hS7
      have hZ := hZ.below hb7 hZ.lt
      have hK := hK.below hb7
      have o7 := o6.below hb7
      simp only [lay]
      refine tk_one (by kernel_rfl) (op_append_kd (i := 13) _ _ 25 rfl (by kernel_rfl) rfl G 108 _ 32 Try.underlying25 hd_full rfl _ ps rfl hK g8 1 (kind, A5, c5, ((l.drop (k + 2)).take (6 + m8))) rfl (hQ8.cell 0 rfl) (by rw [kdV, hbl]; exact hQ8.cell 1 rfl) hkr.1 hkr.2 (by rw [kdV, hbl]; exact o7) (by rw [kdV, hbl]; exact hnb) (by omega) (by simp only [maxLen]; omega) (Nat.le_trans hG4 (Nat.le_trans hb5.size (Nat.le_trans hb6.size hb7.size))) (fun _ hb => hS7.trans (hb.mono hBG)) ?_)
      intro v8 W8 hK8 hb8 hS8
      obtain ⟨Ah, ch, rfl, _⟩ := hK8.kds
      have hZ8 := hZ.below hb8 hGv
      simp only [lay]
      refine te 14 (.pointer (some ⟨gv, 0, none⟩)) hS8 rfl (by intro _ _; exact ex_nilc (by exact rfl) (by exact rfl)) ?_
      simp only [lay]
      refine te 15 (.pointer (some ⟨gv, 35, none⟩)) hS8 rfl (by intro _ _; exact ex_field 35 0 (by exact rfl) Try.underlying28 (by exact rfl) rfl (by kernel_rfl) (by exact rfl)) ?_
      simp only [lay]
      refine tk_cell (i := 16) (v := .slice Ah (ps ++ [(kind, A5, c5, ((l.drop (k + 2)).take (6 + m8)))]).length ch) (by kernel_rfl) rfl (by kernel_rfl) rfl rfl rfl rfl (by kernel_rfl) hZ8 (show 35 < 42 by decide) rfl (below_setCell hS8 hBv 35 _) ?_
      simp only [lay]
      refine wpAnyH_done (by kernel_rfl) ?_ _
      exact hrest Ah ch A5 c5 g7 g8 _ ⟨hZ8.setCell 35 _, (hR8.below ((((hb5.trans hb6).mono hG4).trans (hb7.mono (Nat.le_trans hG4 (Nat.le_trans hb5.size hb6.size)))).trans hb8) hGr).setCell_other hne 35 _, hK8.but6 (But6.setCell gv 35 W8 _) hGv, below_setCell hS8 hBv 35 _, (by simpa [World.setCell] using Nat.le_trans hG4 (Nat.le_trans hb5.size (Nat.le_trans hb6.size (Nat.le_trans hb7.size hb8.size))))⟩
     case' R3 =>
      intro g8 W7 hQ8 hge8 hb7 hS7
      have hZ := hZ.below hb7 hZ.lt
      have hK := hK.below hb7
      have o7 := o6.below hb7
      simp only [lay]
      refine tk_one (by kernel_rfl) (op_val (i := 4) (.slice hA D.hs.length hc) rfl (by kernel_rfl) (ex_cell (by exact rfl) Try.underlying25 rfl (by exact rfl) (hZ.cell 35 (v := .slice hA D.hs.length hc) rfl)) hS7 ?_)
      simp only [lay]
      refine tk_one (by kernel_rfl) (op_append_kd (i := 13) _ _ 25 rfl (by kernel_rfl) rfl G 108 _ 32 Try.underlying25 hd_full rfl _ ps rfl hK g8 1 (kind, A5, c5, ((l.drop (k + 2)).take (6 + m8))) rfl (hQ8.cell 0 rfl) (by rw [kdV, hbl]; exact hQ8.cell 1 rfl) hkr.1 hkr.2 (by rw [kdV, hbl]; exact o7) (by rw [kdV, hbl]; exact hnb) (by omega) (by simp only [maxLen]; omega) (Nat.le_trans hG4 (Nat.le_trans hb5.size (Nat.le_trans hb6.size hb7.size))) (fun _ hb => hS7.trans (hb.mono hBG)) ?_)
      intro v8 W8 hK8 hb8 hS8
      obtain ⟨Ah, ch, rfl, _⟩ := hK8.kds
      have hZ8 := hZ.below hb8 hGv
      simp only [lay]
      refine te 14 (.pointer (some ⟨gv, 0, none⟩)) hS8 rfl (by intro _ _; exact ex_nilc (by exact rfl) (by exact rfl)) ?_
      simp only [lay]
      refine te 15 (.pointer (some ⟨gv, 35, none⟩)) hS8 rfl (by intro _ _; exact ex_field 35 0 (by exact rfl) Try.underlying28 (by exact rfl) rfl (by kernel_rfl) (by exact rfl)) ?_
      simp only [lay]
      refine tk_cell (i := 16) (v := .slice Ah (ps ++ [(kind, A5, c5, ((l.drop (k + 2)).take (6 + m8)))]).length ch) (by kernel_rfl) rfl (by kernel_rfl) rfl rfl rfl rfl (by kernel_rfl) hZ8 (show 35 < 42 by decide) rfl (below_setCell hS8 hBv 35 _) ?_
      simp only [lay]
      refine wpAnyH_done (by kernel_rfl) ?_ _
      exact hrest Ah ch A5 c5 g7 g8 _ ⟨hZ8.setCell 35 _, (hR8.below ((((hb5.trans hb6).mono hG4).trans (hb7.mono (Nat.le_trans hG4 (Nat.le_trans hb5.size hb6.size)))).trans hb8) hGr).setCell_other hne 35 _, hK8.but6 (But6.setCell gv 35 W8 _) hGv, below_setCell hS8 hBv 35 _, (by simpa [World.setCell] using Nat.le_trans hG4 (Nat.le_trans hb5.size (Nat.le_trans hb6.size (Nat.le_trans hb7.size hb8.size))))⟩
  case h2 =>
   rintro A9 c9 A5 c5 ga gb W9 ⟨hZ9, hR9, hK9, hb9, hGW9⟩
   have d0 := (hb9.cell (p := ⟨b, o, none⟩) hb).trans e0
   have k1 := hR9.cell 1 (v := .int .i64 (k : Int)) rfl
   have f1 := hR9.free 1
   have hlen : (D.hs ++ [(kind, ((l.drop (k + 2)).take (6 + m8)))]).length = (ps ++ [(kind, A5, c5, ((l.drop (k + 2)).take (6 + m8)))]).length := by rw [List.length_append, List.length_append, List.length_singleton, List.length_singleton, ← hkl, kdL_len]
   have e : D6.cells { D with hs := D.hs ++ [(kind, ((l.drop (k + 2)).take (6 + m8)))] } ⟨A9, c9, ps ++ [(kind, A5, c5, ((l.drop (k + 2)).take (6 + m8)))], bA, bc⟩ = (D.cells ⟨hA, hc, ps, bA, bc⟩).setIfInBounds 35 (.slice A9 (ps ++ [(kind, A5, c5, ((l.drop (k + 2)).take (6 + m8)))]).length c9) := by
    rw [← hlen]
    rfl
   have h9 : RT B G gr gv W0 W9 A N c k bad pos { D with hs := D.hs ++ [(kind, ((l.drop (k + 2)).take (6 + m8)))] } ⟨A9, c9, ps ++ [(kind, A5, c5, ((l.drop (k + 2)).take (6 + m8)))], bA, bc⟩ := ⟨hR9, e ▸ hZ9, (by
    show OwnK W9 G _ (.slice A9 (D.hs ++ [(kind, ((l.drop (k + 2)).take (6 + m8)))]).length c9) _
    rw [hlen]
    exact hK9), (by
    show kdL (ps ++ [_]) = D.hs ++ [_]
    rw [kdL_append, hkl]
    rfl), hb9⟩
   have h10 := h9.setR (j := 1) (v := .int .i64 ((k : Int) + (n8 : Int))) (k' := k + 8 + m8) (bad' := bad) (pos' := pos) hBr hGr hne (by rw [show ((k : Int) + (n8 : Int)) = ((k + 8 + m8 : Nat) : Int) from by omega]; rfl)
   have hGW : G ≤ (W9.setCell ⟨gr, 1, none⟩ (.int .i64 ((k : Int) + (n8 : Int)))).heap.size := by simpa [World.setCell] using hGW9
   clear hZ9 hR9 hK9 h9 e hT
   obtain ⟨W10, hW10⟩ : ∃ W, W9.setCell ⟨gr, 1, none⟩ (.int .i64 ((k : Int) + (n8 : Int))) = W := ⟨_, rfl⟩
   rw [hW10] at h10 hGW
   have d0' := (h10.bel.cell (p := ⟨b, o, none⟩) hb).trans e0
   go_wp2
   go_ret2
   rw [hmH.out, hx0H.out]
   exact ⟨⟨_, rfl, Lib.hid rfl⟩, hGW, _, h10⟩
 | false =>
  clear hHz
  go_wp2
  refine wp_region_held_drew (S := fun W => Below B W0 W) (by kernel_rfl) (hbel.trans (below_drew _ _)) (fun hS => ?_)
  have hGd : G ≤ w2.drew.heap.size := hGw
  have hZ := h3.vv
  have hR8 := h3.rd
  have hK := h3.own
  clear h3 hbel d1
  dsimp only at hK
  generalize w2.drew = W4 at hS hZ hR8 hK hGd ⊢
  have hg4 := hZ.lt
  have hgr4 := hR8.lt
  have hG4 : G ≤ W4.heap.size := hGd
  apply wpAnyH_rest6 (R := fun A8 c8 A5 c5 _ _ W9 => Has W9 gv (.cells ((D.cells ⟨hA, hc, ps, bA, bc⟩).setIfInBounds 35 (.slice A8 (ps ++ [(kind, A5, c5, ((l.drop (k + 2)).take (6 + m8)))]).length c8)) 28 (0, 0)) ∧ Has W9 gr (.cells (rdr A N c (k : Int) bad pos) 156 (0, 0)) ∧ OwnK W9 G 108 (.slice A8 (ps ++ [(kind, A5, c5, ((l.drop (k + 2)).take (6 + m8)))]).length c8) (ps ++ [(kind, A5, c5, ((l.drop (k + 2)).take (6 + m8)))]) ∧ Below B W0 W9 ∧ G ≤ W9.heap.size)
  case h1 =>
   intro hrest
   refine te 0 (.pointer (some ⟨gv, 0, none⟩)) hS rfl (by intro _ _; exact rfl) ?_
   simp only [lay]
   refine te 1 (.pointer (some ⟨gv, 0, none⟩)) hS rfl (by intro _ _; exact rfl) ?_
   simp only [lay]
   refine te 2 (.pointer (some ⟨gv, 0, none⟩)) hS rfl (by intro _ _; exact ex_nilc (by exact rfl) (by exact rfl)) ?_
   simp only [lay]
   refine te 3 (.pointer (some ⟨gv, 35, none⟩)) hS rfl (by intro _ _; exact ex_field 35 0 (by exact rfl) Try.underlying28 (by exact rfl) rfl (by kernel_rfl) (by exact rfl)) ?_
   simp only [lay]
   refine te 5 (.int .u8 kind) hS rfl (by intro _ _; exact rfl) ?_
   simp only [lay]
   refine te 7 (.slice (some ⟨b, o, none⟩) R c8) hS rfl (by intro _ _; exact rfl) ?_
   simp only [lay]
   refine te 8 (.int .i64 (n8 : Int)) hS rfl (by intro _ _; exact rfl) ?_
   simp only [lay]
   refine te 9 (.slice A3 (6 + m8) c3) hS rfl (by intro _ _; exact ex_slice (by exact rfl) (by exact rfl) (r3 _)) ?_
   simp only [lay]
   refine tk_two (by kernel_rfl) (op_val (i := 4) (.slice hA D.hs.length hc) rfl (by kernel_rfl) (ex_cell (by exact rfl) Try.underlying25 rfl (by exact rfl) (hZ.cell 35 (v := .slice hA D.hs.length hc) rfl)) hS ?Lx1) (op_build0 (i := 6) rfl (by kernel_rfl) rfl Try.underlying26 (by kernel_rfl) (fun _ hb => hS.trans (hb.mono (Nat.le_trans hB0 (Below.size hS)))) ?Rx1)
   case' Lx1 =>
    simp only [lay]
    refine tk_one (by kernel_rfl) (op_build0 (i := 6) rfl (by kernel_rfl) rfl Try.underlying26 (by kernel_rfl) (fun _ hb => hS.trans (hb.mono (Nat.le_trans hB0 (Below.size hS)))) ?_)
    intro g7 W5 o5 hb5 hS5
    have hZ := hZ.below hb5 hZ.lt
    simp only [lay]
    refine tk_one (by kernel_rfl) (op_app (i := 10) (.tmp 148) (.tmp 151) _ rfl (by kernel_rfl) rfl Try.underlying26 (by kernel_rfl) W4.heap.size _ _ rfl (o5) _ _ _ _ _ rfl (y3.below hS5 (Nat.le_refl _)) (by simp only [List.length_nil]; omega) (hb5.size) (fun _ hb => hS5.trans (hb.mono (Nat.le_trans hB0 (Below.size hS)))) ?_)
    intro v6 W6 o6 hb6 hS6
    rw [List.nil_append] at o6
    have hnb := hK.apart o6 (Nat.le_refl _)
    have hZ := hZ.below hb6 hg4
    have hK := hK.below (hb5.trans hb6)
    have o6 := o6.more hG4
    obtain ⟨A5, c5, rfl, _⟩ := own_shape o6.own
    rw [hbl] at o6 hnb ⊢
    simp only [lay]
    refine te 11 (.agg #[.int .u8 kind, .slice A5 (6 + m8) c5]) hS6 rfl (by intro _ _; go_simp) ?_
    simp only [lay]
    refine tk_one (by kernel_rfl) (op_build_kd (i := 12) 25 108 (.tmp 153) rfl (by kernel_rfl) rfl Try.underlying25 hd_zero kind (.slice A5 (6 + m8) c5) rfl (fun _ hb => hS6.trans (hb.mono (Nat.le_trans hB0 (Below.size hS6)))) ?_)
    intro g8 W7 hQ8 hge8 hb7 hS7
    have hZ := hZ.below hb7 hZ.lt
    have hK := hK.below hb7
    have o7 := o6.below hb7
    simp only [lay]
    refine tk_one (by kernel_rfl) (op_append_kd (i := 13) _ _ 25 rfl (by kernel_rfl) rfl G 108 _ 32 Try.underlying25 hd_full rfl _ ps rfl hK g8 1 (kind, A5, c5, ((l.drop (k + 2)).take (6 + m8))) rfl (hQ8.cell 0 rfl) (by rw [kdV, hbl]; exact hQ8.cell 1 rfl) hkr.1 hkr.2 (by rw [kdV, hbl]; exact o7) (by rw [kdV, hbl]; exact hnb) (by omega) (by simp only [maxLen]; omega) (Nat.le_trans hG4 (Nat.le_trans hb5.size (Nat.le_trans hb6.size hb7.size))) (fun _ hb => hS7.trans (hb.mono hBG)) ?_)
    intro v8 W8 hK8 hb8 hS8
    obtain ⟨Ah, ch, rfl, _⟩ := hK8.kds
    have hZ8 := hZ.below hb8 hGv
    simp only [lay]
    refine te 14 (.pointer (some ⟨gv, 0, none⟩)) hS8 rfl (by intro _ _; exact ex_nilc (by exact rfl) (by exact rfl)) ?_
    simp only [lay]
    refine te 15 (.pointer (some ⟨gv, 35, none⟩)) hS8 rfl (by intro _ _; exact ex_field 35 0 (by exact rfl) Try.underlying28 (by exact rfl) rfl (by kernel_rfl) (by exact rfl)) ?_
    simp only [lay]
    refine tk_cell (i := 16) (v := .slice Ah (ps ++ [(kind, A5, c5, ((l.drop (k + 2)).take (6 + m8)))]).length ch) (by kernel_rfl) rfl (by kernel_rfl) rfl rfl rfl rfl (by kernel_rfl) hZ8 (show 35 < 42 by decide) rfl (below_setCell hS8 hBv 35 _) ?_
    simp only [lay]
    refine wpAnyH_done (by kernel_rfl) ?_ _
    exact hrest Ah ch A5 c5 g7 g8 _ ⟨hZ8.setCell 35 _, (hR8.below ((((hb5.trans hb6).mono hG4).trans (hb7.mono (Nat.le_trans hG4 (Nat.le_trans hb5.size hb6.size)))).trans hb8) hGr).setCell_other hne 35 _, hK8.but6 (But6.setCell gv 35 W8 _) hGv, below_setCell hS8 hBv 35 _, (by simpa [World.setCell] using Nat.le_trans hG4 (Nat.le_trans hb5.size (Nat.le_trans hb6.size (Nat.le_trans hb7.size hb8.size))))⟩
   case' Rx1 =>
    intro g7 W5 o5 hb5 hS5
    have hZ := hZ.below hb5 hZ.lt
    simp only [lay]
    refine tk_two (by kernel_rfl) (op_val (i := 4) (.slice hA D.hs.length hc) rfl (by kernel_rfl) (ex_cell (by exact rfl) Try.underlying25 rfl (by exact rfl) (hZ.cell 35 (v := .slice hA D.hs.length hc) rfl)) hS5 ?Lx2) (op_app (i := 10) (.tmp 148) (.tmp 151) _ rfl (by kernel_rfl) rfl Try.underlying26 (by kernel_rfl) W4.heap.size _ _ rfl (o5) _ _ _ _ _ rfl (y3.below hS5 (Nat.le_refl _)) (by simp only [List.length_nil]; omega) (hb5.size) (fun _ hb => hS5.trans (hb.mono (Nat.le_trans hB0 (Below.size hS)))) ?Rx2)
    case' Lx2 =>
     simp only [lay]
     refine tk_one (by kernel_rfl) (op_app (i := 10) (.tmp 148) (.tmp 151) _ rfl (by kernel_rfl) rfl Try.underlying26 (by kernel_rfl) W4.heap.size _ _ rfl (o5) _ _ _ _ _ rfl (y3.below hS5 (Nat.le_refl _)) (by simp only [List.length_nil]; omega) (hb5.size) (fun _ hb => hS5.trans (hb.mono (Nat.le_trans hB0 (Below.size hS)))) ?_)
     intro v6 W6 o6 hb6 hS6
     rw [List.nil_append] at o6
     have hnb := hK.apart o6 (Nat.le_refl _)
     have hZ := hZ.below hb6 hg4
     have hK := hK.below (hb5.trans hb6)
     have o6 := o6.more hG4
     obtain ⟨A5, c5, rfl, _⟩ := own_shape o6.own
     rw [hbl] at o6 hnb ⊢
     simp only [lay]
     refine te 11 (.agg #[.int .u8 kind, .slice A5 (6 + m8) c5]) hS6 rfl (by intro _ _; go_simp) ?_
     simp only [lay]
     refine tk_one (by kernel_rfl) (op_build_kd (i := 12) 25 108 (.tmp 153) rfl (by kernel_rfl) rfl Try.underlying25 hd_zero kind (.slice A5 (6 + m8) c5) rfl (fun _ hb => hS6.trans (hb.mono (Nat.le_trans hB0 (Below.size hS6)))) ?_)
     intro g8 W7 hQ8 hge8 hb7 hS7
     have hZ := hZ.below hb7 hZ.lt
     have hK := hK.below hb7
     have o7 := o6.below hb7
     simp only [lay]
     refine tk_one (by kernel_rfl) (op_append_kd (i := 13) _ _ 25 rfl (by kernel_rfl) rfl G 108 _ 32 Try.underlying25 hd_full rfl _ ps rfl hK g8 1 (kind, A5, c5, ((l.drop (k + 2)).take (6 + m8))) rfl (hQ8.cell 0 rfl) (by rw [kdV, hbl]; exact hQ8.cell 1 rfl) hkr.1 hkr.2 (by rw [kdV, hbl]; exact o7) (by rw [kdV, hbl]; exact hnb) (by omega) (by simp only [maxLen]; omega) (Nat.le_trans hG4 (Nat.le_trans hb5.size (Nat.le_trans hb6.size hb7.size))) (fun _ hb => hS7.trans (hb.mono hBG)) ?_)
     intro v8 W8 hK8 hb8 hS8
     obtain ⟨Ah, ch, rfl, _⟩ := hK8.kds
     have hZ8 := hZ.below hb8 hGv
     simp only [lay]
     refine te 14 (.pointer (some ⟨gv, 0, none⟩)) hS8 rfl (by intro _ _; exact ex_nilc (by exact rfl) (by exact rfl)) ?_
     simp only [lay]
     refine te 15 (.pointer (some ⟨gv, 35, none⟩)) hS8 rfl (by intro _ _; exact ex_field 35 0 (by exact rfl) Try.underlying28 (by exact rfl) rfl (by kernel_rfl) (by exact rfl)) ?_
     simp only [lay]
     refine tk_cell (i := 16) (v := .slice Ah (ps ++ [(kind, A5, c5, ((l.drop (k + 2)).take (6 + m8)))]).length ch) (by kernel_rfl) rfl (by kernel_rfl) rfl rfl rfl rfl (by kernel_rfl) hZ8 (show 35 < 42 by decide) rfl (below_setCell hS8 hBv 35 _) ?_
     simp only [lay]
     refine wpAnyH_done (by kernel_rfl) ?_ _
     exact hrest Ah ch A5 c5 g7 g8 _ ⟨hZ8.setCell 35 _, (hR8.below ((((hb5.trans hb6).mono hG4).trans (hb7.mono (Nat.le_trans hG4 (Nat.le_trans hb5.size hb6.size)))).trans hb8) hGr).setCell_other hne 35 _, hK8.but6 (But6.setCell gv 35 W8 _) hGv, below_setCell hS8 hBv 35 _, (by simpa [World.setCell] using Nat.le_trans hG4 (Nat.le_trans hb5.size (Nat.le_trans hb6.size (Nat.le_trans hb7.size hb8.size))))⟩
    case' Rx2 =>
     intro v6 W6 o6 hb6 hS6
     rw [List.nil_append] at o6
     have hnb := hK.apart o6 (Nat.le_refl _)
     have hZ := hZ.below hb6 hg4
     have hK := hK.below (hb5.trans hb6)
     have o6 := o6.more hG4
     obtain ⟨A5, c5, rfl, _⟩ := own_shape o6.own
     rw [hbl] at o6 hnb ⊢
     simp only [lay]
     refine te 11 (.agg #[.int .u8 kind, .slice A5 (6 + m8) c5]) hS6 rfl (by intro _ _; go_simp) ?_
     simp only [lay]
     refine tk_two (by kernel_rfl) (op_val (i := 4) (.slice hA D.hs.length hc) rfl (by kernel_rfl) (ex_cell (by exact rfl) Try.underlying25 rfl (by exact rfl) (hZ.cell 35 (v := .slice hA D.hs.length hc) rfl)) hS6 ?Lx3) (op_build_kd (i := 12) 25 108 (.tmp 153) rfl (by kernel_rfl) rfl Try.underlying25 hd_zero kind (.slice A5 (6 + m8) c5) rfl (fun _ hb => hS6.trans (hb.mono (Nat.le_trans hB0 (Below.size hS6)))) ?Rx3)
     case' Lx3 =>
      simp only [lay]
      refine tk_one (by kernel_rfl) (op_build_kd (i := 12) 25 108 (.tmp 153) rfl (by kernel_rfl) rfl Try.underlying25 hd_zero kind (.slice A5 (6 + m8) c5) rfl (fun _ hb => hS6.trans (hb.mono (Nat.le_trans hB0 (Below.size hS6)))) ?_)
      intro g8 W7 hQ8 hge8 hb7 hS7
      have hZ := hZ.below hb7 hZ.lt
      have hK := hK.below hb7
      have o7 := o6.below hb7
      simp only [lay]
      refine tk_one (by kernel_rfl) (op_append_kd (i := 13) _ _ 25 rfl (by kernel_rfl) rfl G 108 _ 32 Try.underlying25 hd_full rfl _ ps rfl hK g8 1 (kind, A5, c5, ((l.drop (k + 2)).take (6 + m8))) rfl (hQ8.cell 0 rfl) (by rw [kdV, hbl]; exact hQ8.cell 1 rfl) hkr.1 hkr.2 (by rw [kdV, hbl]; exact o7) (by rw [kdV, hbl]; exact hnb) (by omega) (by simp only [maxLen]; omega) (Nat.le_trans hG4 (Nat.le_trans hb5.size (Nat.le_trans hb6.size hb7.size))) (fun _ hb => hS7.trans (hb.mono hBG)) ?_)
      intro v8 W8 hK8 hb8 hS8
      obtain ⟨Ah, ch, rfl, _⟩ := hK8.kds
      have hZ8 := hZ.below hb8 hGv
      simp only [lay]
      refine te 14 (.pointer (some ⟨gv, 0, none⟩)) hS8 rfl (by intro _ _; exact ex_nilc (by exact rfl) (by exact rfl)) ?_
      simp only [lay]
      refine te 15 (.pointer (some ⟨gv, 35, none⟩)) hS8 rfl (by intro _ _; exact ex_field 35 0 (by exact rfl) Try.underlying28 (by exact rfl) rfl (by kernel_rfl) (by exact rfl)) ?_
      simp only [lay]
      refine tk_cell (i := 16) (v := .slice Ah (ps ++ [(kind, A5, c5, ((l.drop (k + 2)).take (6 + m8)))]).length ch) (by kernel_rfl) rfl (by kernel_rfl) rfl rfl rfl rfl (by kernel_rfl) hZ8 (show 35 < 42 by decide) rfl (below_setCell hS8 hBv 35 _) ?_
      simp only [lay]
      refine wpAnyH_done (by kernel_rfl) ?_ _
      exact hrest Ah ch A5 c5 g7 g8 _ ⟨hZ8.setCell 35 _, (hR8.below ((((hb5.trans hb6).mono hG4).trans (hb7.mono (Nat.le_trans hG4 (Nat.le_trans hb5.size hb6.size)))).trans hb8) hGr).setCell_other hne 35 _, hK8.but6 (But6.setCell gv 35 W8 _) hGv, below_setCell hS8 hBv 35 _, (by simpa [World.setCell] using Nat.le_trans hG4 (Nat.le_trans hb5.size (Nat.le_trans hb6.size (Nat.le_trans hb7.size hb8.size))))⟩
     case' Rx3 =>
      intro g8 W7 hQ8 hge8 hb7 hS7
      have hZ := hZ.below hb7 hZ.lt
      have hK := hK.below hb7
      have o7 := o6.below hb7
      simp only [lay]
      refine tk_one (by kernel_rfl) (op_val (i := 4) (.slice hA D.hs.length hc) rfl (by kernel_rfl) (ex_cell (by exact rfl) Try.underlying25 rfl (by exact rfl) (hZ.cell 35 (v := .slice hA D.hs.length hc) rfl)) hS7 ?_)
      simp only [lay]
      refine tk_one (by kernel_rfl) (op_append_kd (i := 13) _ _ 25 rfl (by kernel_rfl) rfl G 108 _ 32 Try.underlying25 hd_full rfl _ ps rfl hK g8 1 (kind, A5, c5, ((l.drop (k + 2)).take (6 + m8))) rfl (hQ8.cell 0 rfl) (by rw [kdV, hbl]; exact hQ8.cell 1 rfl) hkr.1 hkr.2 (by rw [kdV, hbl]; exact o7) (by rw [kdV, hbl]; exact hnb) (by omega) (by simp only [maxLen]; omega) (Nat.le_trans hG4 (Nat.le_trans hb5.size (Nat.le_trans hb6.size hb7.size))) (fun _ hb => hS7.trans (hb.mono hBG)) ?_)
      intro v8 W8 hK8 hb8 hS8
      obtain ⟨Ah, ch, rfl, _⟩ := hK8.kds
      have hZ8 := hZ.below hb8 hGv
      simp only [lay]
      refine te 14 (.pointer (some ⟨gv, 0, none⟩)) hS8 rfl (by intro _ _; exact ex_nilc (by exact rfl) (by exact rfl)) ?_
      simp only [lay]
      refine te 15 (.pointer (some ⟨gv, 35, none⟩)) hS8 rfl (by intro _ _; exact ex_field 35 0 (by exact rfl) Try.underlying28 (by exact rfl) rfl (by kernel_rfl) (by exact rfl)) ?_
      simp only [lay]
      refine tk_cell (i := 16) (v := .slice Ah (ps ++ [(kind, A5, c5, ((l.drop (k + 2)).take (6 + m8)))]).length ch) (by kernel_rfl) rfl (by kernel_rfl) rfl rfl rfl rfl (by kernel_rfl) hZ8 (show 35 < 42 by decide) rfl (below_setCell hS8 hBv 35 _) ?_
      simp only [lay]
      refine wpAnyH_done (by kernel_rfl) ?_ _
      exact hrest Ah ch A5 c5 g7 g8 _ ⟨hZ8.setCell 35 _, (hR8.below ((((hb5.trans hb6).mono hG4).trans (hb7.mono (Nat.le_trans hG4 (Nat.le_trans hb5.size hb6.size)))).trans hb8) hGr).setCell_other hne 35 _, hK8.but6 (But6.setCell gv 35 W8 _) hGv, below_setCell hS8 hBv 35 _, (by simpa [World.setCell] using Nat.le_trans hG4 (Nat.le_trans hb5.size (Nat.le_trans hb6.size (Nat.le_trans hb7.size hb8.size))))⟩
  case h2 =>
   rintro A9 c9 A5 c5 ga gb W9 ⟨hZ9, hR9, hK9, hb9, hGW9⟩
   have d0 := (hb9.cell (p := ⟨b, o, none⟩) hb).trans e0
   have k1 := hR9.cell 1 (v := .int .i64 (k : Int)) rfl
   have f1 := hR9.free 1
   have hlen : (D.hs ++ [(kind, ((l.drop (k + 2)).take (6 + m8)))]).length = (ps ++ [(kind, A5, c5, ((l.drop (k + 2)).take (6 + m8)))]).length := by rw [List.length_append, List.length_append, List.length_singleton, List.length_singleton, ← hkl, kdL_len]
   have e : D6.cells { D with hs := D.hs ++ [(kind, ((l.drop (k + 2)).take (6 + m8)))] } ⟨A9, c9, ps ++ [(kind, A5, c5, ((l.drop (k + 2)).take (6 + m8)))], bA, bc⟩ = (D.cells ⟨hA, hc, ps, bA, bc⟩).setIfInBounds 35 (.slice A9 (ps ++ [(kind, A5, c5, ((l.drop (k + 2)).take (6 + m8)))]).length c9) := by
    rw [← hlen]
    rfl
   have h9 : RT B G gr gv W0 W9 A N c k bad pos { D with hs := D.hs ++ [(kind, ((l.drop (k + 2)).take (6 + m8)))] } ⟨A9, c9, ps ++ [(kind, A5, c5, ((l.drop (k + 2)).take (6 + m8)))], bA, bc⟩ := ⟨hR9, e ▸ hZ9, (by
    show OwnK W9 G _ (.slice A9 (D.hs ++ [(kind, ((l.drop (k + 2)).take (6 + m8)))]).length c9) _
    rw [hlen]
    exact hK9), (by
    show kdL (ps ++ [_]) = D.hs ++ [_]
    rw [kdL_append, hkl]
    rfl), hb9⟩
   have h10 := h9.setR (j := 1) (v := .int .i64 ((k : Int) + (n8 : Int))) (k' := k + 8 + m8) (bad' := bad) (pos' := pos) hBr hGr hne (by rw [show ((k : Int) + (n8 : Int)) = ((k + 8 + m8 : Nat) : Int) from by omega]; rfl)
   have hGW : G ≤ (W9.setCell ⟨gr, 1, none⟩ (.int .i64 ((k : Int) + (n8 : Int)))).heap.size := by simpa [World.setCell] using hGW9
   clear hZ9 hR9 hK9 h9 e hT
   obtain ⟨W10, hW10⟩ : ∃ W, W9.setCell ⟨gr, 1, none⟩ (.int .i64 ((k : Int) + (n8 : Int))) = W := ⟨_, rfl⟩
   rw [hW10] at h10 hGW
   have d0' := (h10.bel.cell (p := ⟨b, o, none⟩) hb).trans e0
   go_wp2
   go_ret2
   rw [hmH.out, hx0H.out]
   exact ⟨⟨_, rfl, Lib.hid rfl⟩, hGW, _, h10⟩
end Go.Proofs.Ytjnphelfloiadaa
