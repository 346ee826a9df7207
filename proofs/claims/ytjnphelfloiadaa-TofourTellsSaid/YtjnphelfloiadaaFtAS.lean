/-
  Lemmas and walks for the row of TofourTells (part 19 of 37).
-/
import Derived.Test.YtjnphelfloiadaaFtAI
import Derived.Test.YtjnphelfloiadaaFtAR
set_option linter.unusedVariables false
set_option linter.unusedSimpArgs false
namespace Go.Proofs.Ytjnphelfloiadaa
open Go.RowKit Go.Shelf

section
variable {P : Program}
theorem b_quo8 (t : TypeId) {x : Int} (h : 0 ≤ x ∧ x ≤ 255) (w : World) : (binOp .quo t (.int .u8 x) (.int .u8 8)).run P w = .ok (.int .u8 (x / 8)) w := by
 have h1 := h.1
 have h2 := h.2
 have e : x.tdiv 8 = x / 8 := Int.tdiv_eq_ediv_of_nonneg h1
 have hz : IntKind.u8.wrap (x / 8) = x / 8 := by rw [IntKind.wrap_u8]; omega
 clear h
 simp [go_sem, e, hz]
theorem b_rem2 (t : TypeId) {x : Int} (h : 0 ≤ x ∧ x ≤ 255) (w : World) : (binOp .rem t (.int .u8 x) (.int .u8 2)).run P w = .ok (.int .u8 (x % 2)) w := by
 have h1 := h.1
 have h2 := h.2
 have e : x.tmod 2 = x % 2 := Int.tmod_eq_emod_of_nonneg h1
 have hz : IntKind.u8.wrap (x % 2) = x % 2 := by rw [IntKind.wrap_u8]; omega
 clear h
 simp [go_sem, e, hz]
theorem ex_eq_u8q {ρ : Operand → Value} {o : Oper} {t z : TypeId} {k : IntKind} {x y : Operand} {m n : Int} {w : World} {q : Bool} (ho : o.op = .binOp .eql t x y z) (hx : ρ x = .int k m) (hy : ρ y = .int k n) (h : (m == n) = q) : (execOp ρ o).run P w = .ok (.value (.bool q)) w := by
 rw [ex_eq_int ho hx hy, h]
end
def rdr (A : Option Addr) (N c : Nat) (k bad pos : Int) : Array Value := #[.slice A N c, .int .i64 k, .int .i64 bad, .int .i64 pos]
/-- the reference's reader in block gr at the k-th of bytes l that lie below B, and its datagram in block gv -/
structure RT (B G gr gv : Nat) (W0 w : World) (A : Option Addr) (N c k : Nat) (bad pos : Int) (D : D6) (p : W6) : Prop where
 rd : Has w gr (.cells (rdr A N c (k : Int) bad pos) 156 (0, 0))
 vv : Has w gv (.cells (D.cells p) 28 (0, 0))
 own : OwnK w G 108 (.slice p.hA D.hs.length p.hc) p.ps
 hl : kdL p.ps = D.hs
 bel : Below B W0 w
theorem RT.drew {B G gr gv : Nat} {W0 w : World} {A : Option Addr} {N c k : Nat} {bad pos : Int} {D : D6} {p : W6} (h : RT B G gr gv W0 w A N c k bad pos D p) : RT B G gr gv W0 w.drew A N c k bad pos D p := ⟨h.rd.drew, h.vv.drew, h.own.below (below_drew _ _), h.hl, h.bel.trans (below_drew _ _)⟩
theorem RT.setV {B G gr gv j : Nat} {W0 w : World} {A : Option Addr} {N c k : Nat} {bad pos : Int} {D D' : D6} {p p' : W6} {v : Value} (h : RT B G gr gv W0 w A N c k bad pos D p) (hB : B ≤ gv) (hG : gv < G) (hne : gr ≠ gv) (e : (D.cells p).setIfInBounds j v = D'.cells p') (h1 : p'.hA = p.hA) (h2 : p'.hc = p.hc) (h3 : p'.ps = p.ps) (h4 : D'.hs = D.hs) : RT B G gr gv W0 (w.setCell ⟨gv, j, none⟩ v) A N c k bad pos D' p' := by
 refine ⟨h.rd.setCell_other hne j v, e ▸ h.vv.setCell j v, ?_, by rw [h3, h4]; exact h.hl, below_setCell h.bel hB j v⟩
 rw [h1, h2, h3, h4]
 exact h.own.but6 (But6.setCell gv j w v) hG
theorem RT.setR {B G gr gv j : Nat} {W0 w : World} {A : Option Addr} {N c k k' : Nat} {bad pos bad' pos' : Int} {D : D6} {p : W6} {v : Value} (h : RT B G gr gv W0 w A N c k bad pos D p) (hB : B ≤ gr) (hG : gr < G) (hne : gr ≠ gv) (e : (rdr A N c (k : Int) bad pos).setIfInBounds j v = rdr A N c (k' : Int) bad' pos') : RT B G gr gv W0 (w.setCell ⟨gr, j, none⟩ v) A N c k' bad' pos' D p :=
 ⟨e ▸ h.rd.setCell j v, h.vv.setCell_other (Ne.symm hne) j v, h.own.but6 (But6.setCell gr j w v) hG, h.hl, below_setCell h.bel hB j v⟩

theorem rfail_any {B G gr gv : Nat} {W0 w : World} {A : Option Addr} {N c k : Nat} {bad pos e q : Int} {D : D6} {p : W6} (h : RT B G gr gv W0 w A N c k bad pos D p) (hBr : B ≤ gr) (hGr : gr < G) (hne : gr ≠ gv) :
  Calls Try.prog 111 #[.pointer (some ⟨gr, 0, none⟩), .int .i64 e, .int .i64 q] w fun e' w' => e' = .returned (.bool false) ∧ RT B G gr gv W0 w' A N c k e q D p := by
 have c2 := h.rd.cell 2 (v := .int .i64 bad) rfl
 have c3 := h.rd.cell 3 (v := .int .i64 pos) rfl
 have f2 := h.rd.free 2
 have f3 := h.rd.free 3
 have h2 := (h.setR (j := 2) (v := .int .i64 e) (k' := k) (bad' := e) (pos' := pos) hBr hGr hne rfl).setR (j := 3) (v := .int .i64 q) (k' := k) (bad' := e) (pos' := q) hBr hGr hne rfl
 clear h
 go_enter Try.func111, Try.ntmps111
 go_wp2
 go_ret
 exact ⟨rfl, h2⟩
/-- what the reference's head answers where the bytes are at fault -/
def RBad (B G gr gv : Nat) (W0 : World) (A : Option Addr) (N c k : Nat) (D : D6) (p : W6) (s : Int) (e : Ending) (w' : World) : Prop := e = .returned (.tuple #[.int .u8 0, .bool false]) ∧ RT B G gr gv W0 w' A N c k s (k : Int) D p

set_option maxRecDepth 100000 in
theorem rhead_short {B G gr gv : Nat} {W0 w : World} {A hA bA : Option Addr} {N c k hc bc : Nat} {bad pos : Int} {D : D6} {ps : List Kd} {l : List Int} (h : RT B G gr gv W0 w A N c k bad pos D ⟨hA, hc, ps, bA, bc⟩) (hy : By B W0 A N c l) (hBr : B ≤ gr) (hBv : B ≤ gv) (hGr : gr < G) (hGv : gv < G) (hne : gr ≠ gv) (hk : k ≤ N) (kind : Int) (hn : N < k + 8) :
  Calls Try.prog 107 #[.pointer (some ⟨gr, 0, none⟩), .pointer (some ⟨gv, 0, none⟩), .int .u8 kind] w fun e w' => RBad B G gr gv W0 A N c k D ⟨hA, hc, ps, bA, bc⟩ 50 e w' := by
 have hlr := hy.rng
 have hN := Nat.le_trans hy.cap hy.big
 go_enter Try.func107, Try.ntmps107
 go_wp2
 refine wp_region_held_drew (S := fun W => Has W gr (.cells (rdr A N c (k : Int) bad pos) 156 (0, 0))) (by kernel_rfl) (h.rd.drew) (fun hS => ?_)
 refine te 0 (.pointer (some ⟨gr, 0, none⟩)) hS rfl (by intro _ _; exact rfl) ?_
 simp only [lay]
 refine te 1 (.pointer (some ⟨gr, 0, none⟩)) hS rfl (by intro _ _; exact ex_nilc (by exact rfl) (by exact rfl)) ?_
 simp only [lay]
 refine te 2 (.pointer (some ⟨gr, 0, none⟩)) hS rfl (by intro _ _; exact ex_field 0 0 (by exact rfl) Try.underlying156 (by exact rfl) rfl (by kernel_rfl) (by exact rfl)) ?_
 simp only [lay]
 refine te 3 (.slice A N c) hS rfl (by intro _ h; exact ex_cell (by exact rfl) Try.underlying26 rfl (by exact rfl) (h.cell 0 rfl)) ?_
 simp only [lay]
 refine te 4 (.int .i64 (N : Int)) hS rfl (by intro _ _; exact ex_len (by exact rfl) Try.underlying26 (by exact rfl)) ?_
 simp only [lay]
 refine te 5 (.pointer (some ⟨gr, 0, none⟩)) hS rfl (by intro _ _; exact rfl) ?_
 simp only [lay]
 refine te 6 (.pointer (some ⟨gr, 0, none⟩)) hS rfl (by intro _ _; exact ex_nilc (by exact rfl) (by exact rfl)) ?_
 simp only [lay]
 refine te 7 (.pointer (some ⟨gr, 1, none⟩)) hS rfl (by intro _ _; exact ex_field 1 0 (by exact rfl) Try.underlying156 (by exact rfl) rfl (by kernel_rfl) (by exact rfl)) ?_
 simp only [lay]
 refine te 8 (.int .i64 (k : Int)) hS rfl (by intro _ h; exact ex_cell (by exact rfl) Try.underlying3 rfl (by exact rfl) (h.cell 1 rfl)) ?_
 simp only [lay]
 refine te 9 (.int .i64 ((N : Int) - (k : Int))) hS rfl (by intro _ _; exact ex_bin (by exact rfl) (by exact rfl) (by exact rfl) (by decide) (b_sub _ _ rfl (by omega) _)) ?_
 simp only [lay]
 refine te 10 (.bool true) hS rfl (by intro _ _; exact ex_bin (by exact rfl) (by exact rfl) (by exact rfl) (by decide) (b_lss _ _ (decide_eq_true (by omega)) _)) ?_
 simp only [lay]
 refine wpAnyH_done (by kernel_rfl) ?_ _
 have h1 : RT B G gr gv W0 w.drew A N c k bad pos D ⟨hA, hc, ps, bA, bc⟩ := h.drew
 have k1 := h1.rd.cell 1 (v := .int .i64 (k : Int)) rfl
 have hcf := Lib.hid (rfail_any (e := 50) (q := (k : Int)) h1 hBr hGr hne)
 clear h h1 hS
 go_wp2_with fail
 refine hcf.out.mono ?_
 rintro e w2 ⟨rfl, h2⟩
 go_wp2
 go_ret2
 exact ⟨rfl, h2⟩

set_option maxRecDepth 100000 in
set_option maxHeartbeats 4000000 in
theorem rhead_frag {B G gr gv : Nat} {W0 w : World} {A hA bA : Option Addr} {N c k hc bc : Nat} {bad pos : Int} {D : D6} {ps : List Kd} {l : List Int} (h : RT B G gr gv W0 w A N c k bad pos D ⟨hA, hc, ps, bA, bc⟩) (hy : By B W0 A N c l) (hBr : B ≤ gr) (hBv : B ≤ gv) (hGr : gr < G) (hGv : gv < G) (hne : gr ≠ gv) (hk : k ≤ N) (hn : k + 8 ≤ N) :
  Calls Try.prog 107 #[.pointer (some ⟨gr, 0, none⟩), .pointer (some ⟨gv, 0, none⟩), .int .u8 44] w fun e w' => e = .returned (.tuple #[.int .u8 0, .bool true]) ∧
   RT B G gr gv W0 w' A N c (k + 8) bad pos { D with frag := true, id := l.getD (k + 4) 0 * 16777216 + l.getD (k + 5) 0 * 65536 + l.getD (k + 6) 0 * 256 + l.getD (k + 7) 0, off := l.getD (k + 2) 0 * 32 + l.getD (k + 3) 0 / 8, more := decide (l.getD (k + 3) 0 % 2 = 1), pro := l.getD k 0 } ⟨hA, hc, ps, bA, bc⟩ := by
 have hlr := hy.rng
 have hN := Nat.le_trans hy.cap hy.big
 go_enter Try.func107, Try.ntmps107
 go_wp2
 refine wp_region_held_drew (S := fun W => Has W gr (.cells (rdr A N c (k : Int) bad pos) 156 (0, 0))) (by kernel_rfl) (h.rd.drew) (fun hS => ?_)
 refine te 0 (.pointer (some ⟨gr, 0, none⟩)) hS rfl (by intro _ _; exact rfl) ?_
 simp only [lay]
 refine te 1 (.pointer (some ⟨gr, 0, none⟩)) hS rfl (by intro _ _; exact ex_nilc (by exact rfl) (by exact rfl)) ?_
 simp only [lay]
 refine te 2 (.pointer (some ⟨gr, 0, none⟩)) hS rfl (by intro _ _; exact ex_field 0 0 (by exact rfl) Try.underlying156 (by exact rfl) rfl (by kernel_rfl) (by exact rfl)) ?_
 simp only [lay]
 refine te 3 (.slice A N c) hS rfl (by intro _ h; exact ex_cell (by exact rfl) Try.underlying26 rfl (by exact rfl) (h.cell 0 rfl)) ?_
 simp only [lay]
 refine te 4 (.int .i64 (N : Int)) hS rfl (by intro _ _; exact ex_len (by exact rfl) Try.underlying26 (by exact rfl)) ?_
 simp only [lay]
 refine te 5 (.pointer (some ⟨gr, 0, none⟩)) hS rfl (by intro _ _; exact rfl) ?_
 simp only [lay]
 refine te 6 (.pointer (some ⟨gr, 0, none⟩)) hS rfl (by intro _ _; exact ex_nilc (by exact rfl) (by exact rfl)) ?_
 simp only [lay]
 refine te 7 (.pointer (some ⟨gr, 1, none⟩)) hS rfl (by intro _ _; exact ex_field 1 0 (by exact rfl) Try.underlying156 (by exact rfl) rfl (by kernel_rfl) (by exact rfl)) ?_
 simp only [lay]
 refine te 8 (.int .i64 (k : Int)) hS rfl (by intro _ h; exact ex_cell (by exact rfl) Try.underlying3 rfl (by exact rfl) (h.cell 1 rfl)) ?_
 simp only [lay]
 refine te 9 (.int .i64 ((N : Int) - (k : Int))) hS rfl (by intro _ _; exact ex_bin (by exact rfl) (by exact rfl) (by exact rfl) (by decide) (b_sub _ _ rfl (by omega) _)) ?_
 simp only [lay]
 refine te 10 (.bool false) hS rfl (by intro _ _; exact ex_bin (by exact rfl) (by exact rfl) (by exact rfl) (by decide) (b_lss _ _ (decide_eq_false (by omega)) _)) ?_
 simp only [lay]
 refine wpAnyH_done (by kernel_rfl) ?_ _
 obtain ⟨A8, c8, rs, y8⟩ := hy.from_ (P := Try.prog) 26 Try.underlying26 (by kernel_rfl) (k := k) hk
 have hget : ∀ i, (l.drop k).getD i 0 = l.getD (k + i) 0 := fun i => by simp [List.getD]
 obtain ⟨R, hR⟩ : ∃ R, N - k = R := ⟨_, rfl⟩
 rw [hR] at rs y8
 have hR8 : 8 ≤ R := by omega
 have hkR : k + R = N := by omega
 clear hR
 have h1 : RT B G gr gv W0 w.drew A N c k bad pos D ⟨hA, hc, ps, bA, bc⟩ := h.drew
 obtain ⟨b, o, rfl, hb, -⟩ := y8.row.at_ (by omega)
 clear hS
 go_wp2
 refine wp_region_held_drew (S := fun W => Has W gr (.cells (rdr A N c (k : Int) bad pos) 156 (0, 0))) (by kernel_rfl) (h1.rd.drew) (fun hS => ?_)
 refine te 0 (.pointer (some ⟨gr, 0, none⟩)) hS rfl (by intro _ _; exact rfl) ?_
 simp only [lay]
 refine te 1 (.pointer (some ⟨gr, 0, none⟩)) hS rfl (by intro _ _; exact ex_nilc (by exact rfl) (by exact rfl)) ?_
 simp only [lay]
 refine te 2 (.pointer (some ⟨gr, 0, none⟩)) hS rfl (by intro _ _; exact ex_field 0 0 (by exact rfl) Try.underlying156 (by exact rfl) rfl (by kernel_rfl) (by exact rfl)) ?_
 simp only [lay]
 refine te 3 (.slice A N c) hS rfl (by intro _ h; exact ex_cell (by exact rfl) Try.underlying26 rfl (by exact rfl) (h.cell 0 rfl)) ?_
 simp only [lay]
 refine te 4 (.pointer (some ⟨gr, 0, none⟩)) hS rfl (by intro _ _; exact rfl) ?_
 simp only [lay]
 refine te 5 (.pointer (some ⟨gr, 0, none⟩)) hS rfl (by intro _ _; exact ex_nilc (by exact rfl) (by exact rfl)) ?_
 simp only [lay]
 refine te 6 (.pointer (some ⟨gr, 1, none⟩)) hS rfl (by intro _ _; exact ex_field 1 0 (by exact rfl) Try.underlying156 (by exact rfl) rfl (by kernel_rfl) (by exact rfl)) ?_
 simp only [lay]
 refine te 7 (.int .i64 (k : Int)) hS rfl (by intro _ h; exact ex_cell (by exact rfl) Try.underlying3 rfl (by exact rfl) (h.cell 1 rfl)) ?_
 simp only [lay]
 refine te 8 (.slice (some ⟨b, o, none⟩) R c8) hS rfl (by intro _ _; exact ex_slice (by exact rfl) (by exact rfl) (rs _)) ?_
 simp only [lay]
 refine te 9 (.slice (some ⟨b, o, none⟩) R c8) hS rfl (by intro _ _; exact rfl) ?_
 simp only [lay]
 refine wpAnyH_done (by kernel_rfl) ?_ _
 have h2 : RT B G gr gv W0 w.drew.drew A N c k bad pos D ⟨hA, hc, ps, bA, bc⟩ := h1.drew
 clear h h1 hS
 generalize w.drew.drew = w2 at h2 ⊢
 obtain ⟨x0, hx0⟩ : ∃ x, l.getD k 0 = x := ⟨_, rfl⟩
 have e0 : W0.cell? ⟨b, o, none⟩ = some (.int .u8 x0) := by
  have h := y8.atO (k := 0) (by omega)
  rw [hget, show k + 0 = k from rfl, hx0] at h
  exact h
 have g0 := getD_byte hlr k
 rw [hx0] at g0
 obtain ⟨x2, hx2⟩ : ∃ x, l.getD (k + 2) 0 = x := ⟨_, rfl⟩
 have e2 : W0.cell? ⟨b, o + 2, none⟩ = some (.int .u8 x2) := by
  have h := y8.atO (k := 2) (by omega)
  rw [hget, hx2] at h
  exact h
 have g2 := getD_byte hlr (k + 2)
 rw [hx2] at g2
 obtain ⟨x3, hx3⟩ : ∃ x, l.getD (k + 3) 0 = x := ⟨_, rfl⟩
 have e3 : W0.cell? ⟨b, o + 3, none⟩ = some (.int .u8 x3) := by
  have h := y8.atO (k := 3) (by omega)
  rw [hget, hx3] at h
  exact h
 have g3 := getD_byte hlr (k + 3)
 rw [hx3] at g3
 obtain ⟨x4, hx4⟩ : ∃ x, l.getD (k + 4) 0 = x := ⟨_, rfl⟩
 have e4 : W0.cell? ⟨b, o + 4, none⟩ = some (.int .u8 x4) := by
  have h := y8.atO (k := 4) (by omega)
  rw [hget, hx4] at h
  exact h
 have g4 := getD_byte hlr (k + 4)
 rw [hx4] at g4
 obtain ⟨x5, hx5⟩ : ∃ x, l.getD (k + 5) 0 = x := ⟨_, rfl⟩
 have e5 : W0.cell? ⟨b, o + 5, none⟩ = some (.int .u8 x5) := by
  have h := y8.atO (k := 5) (by omega)
  rw [hget, hx5] at h
  exact h
 have g5 := getD_byte hlr (k + 5)
 rw [hx5] at g5
 obtain ⟨x6, hx6⟩ : ∃ x, l.getD (k + 6) 0 = x := ⟨_, rfl⟩
 have e6 : W0.cell? ⟨b, o + 6, none⟩ = some (.int .u8 x6) := by
  have h := y8.atO (k := 6) (by omega)
  rw [hget, hx6] at h
  exact h
 have g6 := getD_byte hlr (k + 6)
 rw [hx6] at g6
 obtain ⟨x7, hx7⟩ : ∃ x, l.getD (k + 7) 0 = x := ⟨_, rfl⟩
 have e7 : W0.cell? ⟨b, o + 7, none⟩ = some (.int .u8 x7) := by
  have h := y8.atO (k := 7) (by omega)
  rw [hget, hx7] at h
  exact h
 have g7 := getD_byte hlr (k + 7)
 rw [hx7] at g7
 obtain ⟨I, hI⟩ : ∃ I, x4 * 16777216 + x5 * 65536 + x6 * 256 + x7 = I := ⟨_, rfl⟩
 obtain ⟨M, hM⟩ : ∃ M : Bool, decide (x3 % 2 = 1) = M := ⟨_, rfl⟩
 have hM2 : (x3 % 2 == 1) = M := by rw [← hM, Bool.eq_iff_iff, beq_iff_eq, decide_eq_true_eq]
 have hxs := Lib.hid (show l.getD k 0 = x0 ∧ l.getD (k + 4) 0 * 16777216 + l.getD (k + 5) 0 * 65536 + l.getD (k + 6) 0 * 256 + l.getD (k + 7) 0 = I ∧ l.getD (k + 2) 0 * 32 + l.getD (k + 3) 0 / 8 = x2 * 32 + x3 / 8 ∧ decide (l.getD (k + 3) 0 % 2 = 1) = M from ⟨hx0, by rw [hx4, hx5, hx6, hx7, hI], by rw [hx2, hx3], by rw [hx3, hM]⟩)
 clear hx0 hx2 hx3 hx4 hx5 hx6 hx7 hM hget y8 rs
 have d0 := (h2.bel.cell (p := ⟨b, o, none⟩) hb).trans e0
 have k36 := h2.vv.cell 36 (v := .bool D.frag) rfl
 have k40 := h2.vv.cell 40 (v := .int .u8 D.pro) rfl
 have f36 := h2.vv.free 36
 have f40 := h2.vv.free 40
 have h3 := (h2.setV (j := 36) (v := .bool true) (D' := { D with frag := true }) (p' := ⟨hA, hc, ps, bA, bc⟩) hBv hGv hne rfl rfl rfl rfl rfl).setV (j := 40) (v := .int .u8 x0) (D' := { D with frag := true, pro := x0 }) (p' := ⟨hA, hc, ps, bA, bc⟩) hBv hGv hne rfl rfl rfl rfl rfl
 obtain ⟨w3, hw3⟩ : ∃ W, (w2.setCell ⟨gv, 36, none⟩ (.bool true)).setCell ⟨gv, 40, none⟩ (.int .u8 x0) = W := ⟨_, rfl⟩
 rw [hw3] at h3
 clear h2
 go_wp2
 refine wp_region_held_drew (S := fun W => Below B W0 W) (by kernel_rfl) (h3.bel.trans (below_drew _ _)) (fun hS => ?_)
 have h4 := h3.drew
 have hZ := h4.vv
 clear h3 hw3 k36 k40 f36 f40 d0
 generalize w3.drew = w4 at hS h4 hZ ⊢
 refine te 0 (.pointer (some ⟨gv, 0, none⟩)) hS rfl (by intro _ _; exact rfl) ?_
 simp only [lay]
 refine te 1 (.pointer (some ⟨gv, 0, none⟩)) hS rfl (by intro _ _; exact rfl) ?_
 simp only [lay]
 refine te 2 (.slice (some ⟨b, o, none⟩) R c8) hS rfl (by intro _ _; exact rfl) ?_
 simp only [lay]
 refine te 3 (.pointer (some ⟨b, o + 2, none⟩)) hS rfl (by intro _ _; exact ex_index (by exact rfl) Try.underlying26 (by kernel_rfl) (by exact rfl) (by exact rfl) ((by omega))) ?_
 simp only [lay]
 refine te 4 (.int .u8 x2) hS rfl (by intro _ h; exact ex_cell (by exact rfl) Try.underlying5 rfl (by exact rfl) ((Below.cell h (p := ⟨b, o + 2, none⟩) hb).trans e2)) ?_
 simp only [lay]
 refine te 5 (.int .i64 x2) hS rfl (by intro _ h; exact ex_conv (by exact rfl) (by exact rfl) (conv_i64 _ _ _ _ rfl rfl (by omega) _)) ?_
 simp only [lay]
 refine te 6 (.int .i64 (x2 * 32)) hS rfl (by intro _ _; exact ex_bin (by exact rfl) (by exact rfl) (by exact rfl) (by decide) (b_mul _ _ rfl (by omega) _)) ?_
 simp only [lay]
 refine te 7 (.slice (some ⟨b, o, none⟩) R c8) hS rfl (by intro _ _; exact rfl) ?_
 simp only [lay]
 refine te 8 (.pointer (some ⟨b, o + 3, none⟩)) hS rfl (by intro _ _; exact ex_index (by exact rfl) Try.underlying26 (by kernel_rfl) (by exact rfl) (by exact rfl) ((by omega))) ?_
 simp only [lay]
 refine te 9 (.int .u8 x3) hS rfl (by intro _ h; exact ex_cell (by exact rfl) Try.underlying5 rfl (by exact rfl) ((Below.cell h (p := ⟨b, o + 3, none⟩) hb).trans e3)) ?_
 simp only [lay]
 refine te 10 (.int .u8 (x3 / 8)) hS rfl (by intro _ _; exact ex_bin (by exact rfl) (by exact rfl) (by exact rfl) (by decide) (b_quo8 _ g3 _)) ?_
 simp only [lay]
 refine te 11 (.int .i64 (x3 / 8)) hS rfl (by intro _ h; exact ex_conv (by exact rfl) (by exact rfl) (conv_i64 _ _ _ _ rfl rfl (by omega) _)) ?_
 simp only [lay]
 refine te 12 (.int .i64 (x2 * 32 + x3 / 8)) hS rfl (by intro _ _; exact ex_bin (by exact rfl) (by exact rfl) (by exact rfl) (by decide) (b_add _ _ rfl (by omega) _)) ?_
 simp only [lay]
 refine te 13 (.slice (some ⟨b, o, none⟩) R c8) hS rfl (by intro _ _; exact rfl) ?_
 simp only [lay]
 refine te 14 (.pointer (some ⟨b, o + 3, none⟩)) hS rfl (by intro _ _; exact ex_index (by exact rfl) Try.underlying26 (by kernel_rfl) (by exact rfl) (by exact rfl) ((by omega))) ?_
 simp only [lay]
 refine te 15 (.int .u8 x3) hS rfl (by intro _ h; exact ex_cell (by exact rfl) Try.underlying5 rfl (by exact rfl) ((Below.cell h (p := ⟨b, o + 3, none⟩) hb).trans e3)) ?_
 simp only [lay]
 refine te 16 (.int .u8 (x3 % 2)) hS rfl (by intro _ _; exact ex_bin (by exact rfl) (by exact rfl) (by exact rfl) (by decide) (b_rem2 _ g3 _)) ?_
 simp only [lay]
 refine te 17 (.bool M) hS rfl (by intro _ _; exact ex_eq_u8q (by exact rfl) (by exact rfl) (by exact rfl) hM2) ?_
 simp only [lay]
 refine te 18 (.pointer (some ⟨gv, 0, none⟩)) hS rfl (by intro _ _; exact ex_nilc (by exact rfl) (by exact rfl)) ?_
 simp only [lay]
 refine te 19 (.pointer (some ⟨gv, 38, none⟩)) hS rfl (by intro _ _; exact ex_field 38 0 (by exact rfl) Try.underlying28 (by exact rfl) rfl (by kernel_rfl) (by exact rfl)) ?_
 simp only [lay]
 refine tk_cell (i := 20) (v := .int .i64 (x2 * 32 + x3 / 8)) (by kernel_rfl) rfl (by kernel_rfl) rfl rfl rfl rfl (by kernel_rfl) hZ (show 38 < 42 by decide) rfl (below_setCell hS hBv 38 _) ?_
 simp only [lay]
 refine tk (i := 21) (.pointer (some ⟨gv, 0, none⟩)) (below_setCell hS hBv 38 (.int .i64 (x2 * 32 + x3 / 8))) rfl (by kernel_rfl) (by kernel_rfl) (by kernel_rfl) (fun _ _ _ h => h) (by kernel_rfl) (by intro _ _; exact ex_nilc (by exact rfl) (by exact rfl)) ?_
 simp only [lay]
 refine tk (i := 22) (.pointer (some ⟨gv, 39, none⟩)) (below_setCell hS hBv 38 (.int .i64 (x2 * 32 + x3 / 8))) rfl (by kernel_rfl) (by kernel_rfl) (by kernel_rfl) (fun _ _ _ h => h) (by kernel_rfl) (by intro _ _; exact ex_field 39 0 (by exact rfl) Try.underlying28 (by exact rfl) rfl (by kernel_rfl) (by exact rfl)) ?_
 simp only [lay]
 refine tk_cell (i := 23) (v := .bool M) (by kernel_rfl) rfl (by kernel_rfl) rfl rfl rfl rfl (by kernel_rfl) (hZ.setCell 38 (.int .i64 (x2 * 32 + x3 / 8))) (show 39 < 42 by decide) rfl (below_setCell (below_setCell hS hBv 38 (.int .i64 (x2 * 32 + x3 / 8))) hBv 39 _) ?_
 simp only [lay]
 refine wpAnyH_done (by kernel_rfl) ?_ _
 have h5 := (h4.setV (j := 38) (v := .int .i64 (x2 * 32 + x3 / 8)) (D' := { D with frag := true, pro := x0, off := x2 * 32 + x3 / 8 }) (p' := ⟨hA, hc, ps, bA, bc⟩) hBv hGv hne rfl rfl rfl rfl rfl).setV (j := 39) (v := .bool M) (D' := { D with frag := true, pro := x0, off := x2 * 32 + x3 / 8, more := M }) (p' := ⟨hA, hc, ps, bA, bc⟩) hBv hGv hne rfl rfl rfl rfl rfl
 clear hZ h4 hS
 generalize (w4.setCell ⟨gv, 38, none⟩ (.int .i64 (x2 * 32 + x3 / 8))).setCell ⟨gv, 39, none⟩ (.bool M) = w5 at h5 ⊢
 go_wp2
 refine wp_region_held_drew (S := fun W => Below B W0 W) (by kernel_rfl) (h5.bel.trans (below_drew _ _)) (fun hS => ?_)
 have h6 := h5.drew
 have hZ := h6.vv
 clear h5
 generalize w5.drew = w6 at hS h6 hZ ⊢
 refine te 0 (.pointer (some ⟨gv, 0, none⟩)) hS rfl (by intro _ _; exact rfl) ?_
 simp only [lay]
 refine te 1 (.slice (some ⟨b, o, none⟩) R c8) hS rfl (by intro _ _; exact rfl) ?_
 simp only [lay]
 refine te 2 (.pointer (some ⟨b, o + 4, none⟩)) hS rfl (by intro _ _; exact ex_index (by exact rfl) Try.underlying26 (by kernel_rfl) (by exact rfl) (by exact rfl) ((by omega))) ?_
 simp only [lay]
 refine te 3 (.int .u8 x4) hS rfl (by intro _ h; exact ex_cell (by exact rfl) Try.underlying5 rfl (by exact rfl) ((Below.cell h (p := ⟨b, o + 4, none⟩) hb).trans e4)) ?_
 simp only [lay]
 refine te 4 (.int .u32 x4) hS rfl (by intro _ h; exact ex_conv (by exact rfl) (by exact rfl) (conv_u32 _ _ _ _ rfl rfl (by omega) (by omega) _)) ?_
 simp only [lay]
 refine te 5 (.int .u32 (x4 * 16777216)) hS rfl (by intro _ _; exact ex_bin (by exact rfl) (by exact rfl) (by exact rfl) (by decide) (b_shl32 _ 24 _ (by exact rfl) (by omega) (by decide) _)) ?_
 simp only [lay]
 refine te 6 (.slice (some ⟨b, o, none⟩) R c8) hS rfl (by intro _ _; exact rfl) ?_
 simp only [lay]
 refine te 7 (.pointer (some ⟨b, o + 5, none⟩)) hS rfl (by intro _ _; exact ex_index (by exact rfl) Try.underlying26 (by kernel_rfl) (by exact rfl) (by exact rfl) ((by omega))) ?_
 simp only [lay]
 refine te 8 (.int .u8 x5) hS rfl (by intro _ h; exact ex_cell (by exact rfl) Try.underlying5 rfl (by exact rfl) ((Below.cell h (p := ⟨b, o + 5, none⟩) hb).trans e5)) ?_
 simp only [lay]
 refine te 9 (.int .u32 x5) hS rfl (by intro _ h; exact ex_conv (by exact rfl) (by exact rfl) (conv_u32 _ _ _ _ rfl rfl (by omega) (by omega) _)) ?_
 simp only [lay]
 refine te 10 (.int .u32 (x5 * 65536)) hS rfl (by intro _ _; exact ex_bin (by exact rfl) (by exact rfl) (by exact rfl) (by decide) (b_shl32 _ 16 _ (by exact rfl) (by omega) (by decide) _)) ?_
 simp only [lay]
 refine te 11 (.int .u32 (x4 * 16777216 + x5 * 65536)) hS rfl (by intro _ _; exact ex_bin (by exact rfl) (by exact rfl) (by exact rfl) (by decide) (b_add32 _ _ rfl (by omega) _)) ?_
 simp only [lay]
 refine te 12 (.slice (some ⟨b, o, none⟩) R c8) hS rfl (by intro _ _; exact rfl) ?_
 simp only [lay]
 refine te 13 (.pointer (some ⟨b, o + 6, none⟩)) hS rfl (by intro _ _; exact ex_index (by exact rfl) Try.underlying26 (by kernel_rfl) (by exact rfl) (by exact rfl) ((by omega))) ?_
 simp only [lay]
 refine te 14 (.int .u8 x6) hS rfl (by intro _ h; exact ex_cell (by exact rfl) Try.underlying5 rfl (by exact rfl) ((Below.cell h (p := ⟨b, o + 6, none⟩) hb).trans e6)) ?_
 simp only [lay]
 refine te 15 (.int .u32 x6) hS rfl (by intro _ h; exact ex_conv (by exact rfl) (by exact rfl) (conv_u32 _ _ _ _ rfl rfl (by omega) (by omega) _)) ?_
 simp only [lay]
 refine te 16 (.int .u32 (x6 * 256)) hS rfl (by intro _ _; exact ex_bin (by exact rfl) (by exact rfl) (by exact rfl) (by decide) (b_shl32 _ 8 _ (by exact rfl) (by omega) (by decide) _)) ?_
 simp only [lay]
 refine te 17 (.int .u32 (x4 * 16777216 + x5 * 65536 + x6 * 256)) hS rfl (by intro _ _; exact ex_bin (by exact rfl) (by exact rfl) (by exact rfl) (by decide) (b_add32 _ _ rfl (by omega) _)) ?_
 simp only [lay]
 refine te 18 (.slice (some ⟨b, o, none⟩) R c8) hS rfl (by intro _ _; exact rfl) ?_
 simp only [lay]
 refine te 19 (.pointer (some ⟨b, o + 7, none⟩)) hS rfl (by intro _ _; exact ex_index (by exact rfl) Try.underlying26 (by kernel_rfl) (by exact rfl) (by exact rfl) ((by omega))) ?_
 simp only [lay]
 refine te 20 (.int .u8 x7) hS rfl (by intro _ h; exact ex_cell (by exact rfl) Try.underlying5 rfl (by exact rfl) ((Below.cell h (p := ⟨b, o + 7, none⟩) hb).trans e7)) ?_
 simp only [lay]
 refine te 21 (.int .u32 x7) hS rfl (by intro _ h; exact ex_conv (by exact rfl) (by exact rfl) (conv_u32 _ _ _ _ rfl rfl (by omega) (by omega) _)) ?_
 simp only [lay]
 refine te 22 (.int .u32 I) hS rfl (by intro _ _; exact ex_bin (by exact rfl) (by exact rfl) (by exact rfl) (by decide) (b_add32 _ _ hI (by omega) _)) ?_
 simp only [lay]
 refine te 23 (.pointer (some ⟨gv, 0, none⟩)) hS rfl (by intro _ _; exact ex_nilc (by exact rfl) (by exact rfl)) ?_
 simp only [lay]
 refine te 24 (.pointer (some ⟨gv, 37, none⟩)) hS rfl (by intro _ _; exact ex_field 37 0 (by exact rfl) Try.underlying28 (by exact rfl) rfl (by kernel_rfl) (by exact rfl)) ?_
 simp only [lay]
 refine tk_cell (i := 25) (v := .int .u32 I) (by kernel_rfl) rfl (by kernel_rfl) rfl rfl rfl rfl (by kernel_rfl) hZ (show 37 < 42 by decide) rfl (below_setCell hS hBv 37 _) ?_
 simp only [lay]
 refine wpAnyH_done (by kernel_rfl) ?_ _
 have h7 := h6.setV (j := 37) (v := .int .u32 I) (D' := { D with frag := true, pro := x0, off := x2 * 32 + x3 / 8, more := M, id := I }) (p' := ⟨hA, hc, ps, bA, bc⟩) hBv hGv hne rfl rfl rfl rfl rfl
 clear hZ h6 hS
 generalize w6.setCell ⟨gv, 37, none⟩ (.int .u32 I) = w7 at h7 ⊢
 have k1 := h7.rd.cell 1 (v := .int .i64 (k : Int)) rfl
 have f1 := h7.rd.free 1
 have h8 := h7.setR (j := 1) (v := .int .i64 ((k : Int) + 8)) (k' := k + 8) (bad' := bad) (pos' := pos) hBr hGr hne rfl
 clear h7 hI
 go_wp2
 go_ret2
 obtain ⟨q1, q2, q3, q4⟩ := hxs.out
 rw [q1, q2, q3, q4]
 exact ⟨rfl, h8⟩
end Go.Proofs.Ytjnphelfloiadaa
