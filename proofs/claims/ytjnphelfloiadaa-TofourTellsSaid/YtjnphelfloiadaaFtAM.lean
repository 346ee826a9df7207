/-
  Lemmas and walks for the row of TofourTells (part 13 of 37).
-/
import Derived.Test.YtjnphelfloiadaaFtAI
import Derived.Test.YtjnphelfloiadaaFtAL
set_option linter.unusedVariables false
set_option linter.unusedSimpArgs false
namespace Go.Proofs.Ytjnphelfloiadaa
open Go.RowKit Go.Shelf

theorem hd_full : (Try.prog.info? 108).map (fun i => (i.zero, i.size, i.bytes)) = some (some (.agg #[.int .u8 0, .slice none 0 0]), 2, 32) := by kernel_rfl
theorem hd_zero : (Try.prog.info? 108).map (fun i => (i.zero, i.size)) = some (some (.agg #[.int .u8 0, .slice none 0 0]), 2) := by kernel_rfl
section
variable {P : Program} {ops : Array Oper} {Q : Exit → Act → World → Prop} {K : Act → World → Prop}
/-- a call that panics -/
theorem op_callp {i k : Nat} {o : Oper} {args : Array Value} (c : List PanicEntry) {a : Act} {w : World} (hi : ops.toList[i]? = some o) (hw : Region.wanted o (yielded ops a.tmps) = true)
  (hrun : (execOp a.eval o).run P w = .ok (.enter k args) w) (hc : Calls P k args w fun e w' => e = .panicked c ∧ Q (.panic c) a w') : wpOp P ops Q i K a w := by
 have hi : ops[i]? = some o := by simpa using hi
 unfold wpOp
 rw [hi]
 simp only [hw, if_true]
 left
 unfold Oper.wp
 rw [hrun, Oper.upon_enter]
 refine hc.mono fun e w' ⟨he, hq⟩ => ?_
 subst he
 exact hq
end
theorem parts2 {w : World} {g : Nat} {t : TypeId} {fz : Nat × Nat} {B : Nat} {A1 A2 : Option Addr} {n1 n2 c1 c2 : Nat} {l1 l2 : List Int} (h : Has w g (.cells [Value.slice A1 n1 c1, .slice A2 n2 c2].toArray t fz)) (hB : w.heap.size ≤ B) (y1 : By B w A1 n1 c1 l1) (y2 : By B w A2 n2 c2 l2) :
  Parts B w (some ⟨g, 0, none⟩) 2 2 [(A1, c1, l1), (A2, c2, l2)] := by
 obtain rfl := y1.len
 obtain rfl := y2.len
 exact Parts.blk (t := t) (fz := fz) h hB rfl (all2 y1 y2) (by simp)

set_option maxRecDepth 100000 in
set_option maxHeartbeats 4000000 in
theorem head_short2 {B g : Nat} {W0 w : World} {A hA bA : Option Addr} {N c k hc2 bc : Nat} {D : D6} {ps : List Kd} {l : List Int} (kind : Int) (h : RS B g W0 w A N c k D ⟨hA, hc2, ps, bA, bc⟩) (hy : By B W0 A N c l) (hB : B ≤ g) (hn : k + 8 ≤ N) (h44 : kind ≠ 44) (hn2 : N < k + 8 + g6len l k) :
  Calls Try.prog 102 #[.pointer (some ⟨g, 0, none⟩), .int .u8 kind] w fun e w' => e = Fault6 (k : Int) 50 ∧ Below B W0 w' := by
 have hc1 := h.has.cell 1 (v := .int .i64 (k : Int)) rfl
 have hc := Lib.hid (take_rs (q := (k : Int)) 8 (z := 8) rfl h hy hB hn)
 have hlr := hy.rng
 have hll := hy.len
 have hN := Nat.le_trans hy.cap hy.big
 have hget : ∀ i, i < 8 → ((l.drop k).take 8).getD i 0 = l.getD (k + i) 0 := fun i hi => by simp [List.getD, hi]
 have g1 := getD_byte hlr (k + 1)
 have hk44 : (kind == 44) = false := by simpa using h44
 go_enter Try.func102, Try.ntmps102
 go_wp2_with fail
 refine hc.out.mono ?_
 rintro e w1 ⟨A1, c1, rfl, y1, h1⟩
 obtain ⟨b, o, rfl, hb, -⟩ := y1.row.at_ (by decide)
 have e0 : W0.cell? ⟨b, o, none⟩ = _ := y1.atO (k := 0) (by decide)
 have e1 := y1.atO (k := 1) (by decide)
 rw [hget _ (by decide)] at e0 e1
 obtain ⟨x0, hx0⟩ : ∃ x, l.getD k 0 = x := ⟨_, rfl⟩
 obtain ⟨x1, hx1⟩ : ∃ x, l.getD (k + 1) 0 = x := ⟨_, rfl⟩
 have e0 : W0.cell? ⟨b, o, none⟩ = some (.int .u8 x0) := by rw [e0, Nat.add_zero, hx0]
 rw [hx1] at e1 g1
 obtain ⟨m8, hm⟩ : ∃ m, g6len l k = m := ⟨_, rfl⟩
 have hm8 : 8 * x1 = (m8 : Int) := by rw [← hm, g6len, hx1]; omega
 have hm8b : m8 ≤ 2040 := by omega
 rw [hm] at hn2
 have hmH := Lib.hid hm
 have hx0H := Lib.hid hx0
 have h2 : RS B g W0 w1.drew A N c (k + 8) D ⟨hA, hc2, ps, bA, bc⟩ := ⟨h1.has.drew, h1.own.below (below_drew _ _), h1.hl, h1.bel.trans (below_drew _ _)⟩
 have hb1 := h1.bel
 clear hx0 hx1 hget hc h hc1 h1 hm
 go_wp2
 refine wp_region_held_drew (S := fun W => Below B W0 W) (by kernel_rfl) (hb1.trans (below_drew _ _)) (fun hS => ?_)
 generalize w1.drew = W2 at hS h2 ⊢
 refine te 0 (.pointer (some ⟨g, 0, none⟩)) hS rfl (by intro _ _; exact rfl) ?_
 simp only [lay]
 refine te 1 (.pointer (some ⟨g, 0, none⟩)) hS rfl (by intro _ _; exact ex_nilc (by exact rfl) (by exact rfl)) ?_
 simp only [lay]
 refine te 2 (.pointer (some ⟨g, 0, none⟩)) hS rfl (by intro _ _; exact ex_field 0 1 (by exact rfl) Try.underlying147 (by exact rfl) rfl (by kernel_rfl) (by exact rfl)) ?_
 simp only [lay]
 refine te 3 (.slice (some ⟨b, o, none⟩) 8 c1) hS rfl (by intro _ _; exact rfl) ?_
 simp only [lay]
 refine te 4 (.pointer (some ⟨b, o + 1, none⟩)) hS rfl (by intro _ _; exact ex_index (by exact rfl) Try.underlying26 (by kernel_rfl) (by exact rfl) (by exact rfl) ((by decide))) ?_
 simp only [lay]
 refine te 5 (.int .u8 x1) hS rfl (by intro _ h; exact ex_cell (by exact rfl) Try.underlying5 rfl (by exact rfl) ((h.cell (p := ⟨b, o + 1, none⟩) hb).trans e1)) ?_
 simp only [lay]
 refine te 6 (.int .i64 x1) hS rfl (by intro _ h; exact ex_conv (by exact rfl) (by exact rfl) (conv_i64 _ _ _ _ rfl rfl (by omega) _)) ?_
 simp only [lay]
 refine te 7 (.int .i64 (m8 : Int)) hS rfl (by intro _ _; exact ex_bin (by exact rfl) (by exact rfl) (by exact rfl) (by decide) (b_mul _ _ hm8 (by omega) _)) ?_
 simp only [lay]
 refine te 8 (.int .i64 (k : Int)) hS rfl (by intro _ _; exact rfl) ?_
 simp only [lay]
 refine tk_one (by kernel_rfl) (op_callp (i := 9) [{ v := .iface 141 (.agg #[.int .i64 (k : Int), .int .i64 50]), recovered := false }] rfl (by kernel_rfl) (by exact ex_call (by exact rfl) Try.func101 (by kernel_rfl) (by kernel_rfl) (by simp only [List.map_toArray, List.map_cons, List.map_nil] <;> rfl)) ((take_rs_bad (q := (k : Int)) m8 rfl h2 hN (by omega) hn2 (by omega)).mono ?_))
 rintro e W3 ⟨rfl, hb3⟩
 exact ⟨rfl, rfl, rfl, hb3⟩

set_option maxRecDepth 100000 in
set_option maxHeartbeats 4000000 in
theorem head_full {B g : Nat} {W0 w : World} {A hA bA : Option Addr} {N c k hc2 bc : Nat} {D : D6} {ps : List Kd} {l : List Int} (kind : Int) (h : RS B g W0 w A N c k D ⟨hA, hc2, ps, bA, bc⟩) (hy : By B W0 A N c l) (hB : B ≤ g) (hn : k + 8 ≤ N) (h44 : kind ≠ 44) (hn2 : k + 8 + g6len l k ≤ N) (hf : (kind = 0 ∧ 0 < D.hs.length) ∨ D.hs.length = 8) :
  Calls Try.prog 102 #[.pointer (some ⟨g, 0, none⟩), .int .u8 kind] w fun e w' => e = Fault6 (k : Int) 53 ∧ Below B W0 w' := by
 have hc1 := h.has.cell 1 (v := .int .i64 (k : Int)) rfl
 have hc := Lib.hid (take_rs (q := (k : Int)) 8 (z := 8) rfl h hy hB hn)
 have hlr := hy.rng
 have hll := hy.len
 have hN := Nat.le_trans hy.cap hy.big
 have hget : ∀ i, i < 8 → ((l.drop k).take 8).getD i 0 = l.getD (k + i) 0 := fun i hi => by simp [List.getD, hi]
 have g1 := getD_byte hlr (k + 1)
 have hk44 : (kind == 44) = false := by simpa using h44
 go_enter Try.func102, Try.ntmps102
 go_wp2_with fail
 refine hc.out.mono ?_
 rintro e w1 ⟨A1, c1, rfl, y1, h1⟩
 obtain ⟨b, o, rfl, hb, -⟩ := y1.row.at_ (by decide)
 have e0 : W0.cell? ⟨b, o, none⟩ = _ := y1.atO (k := 0) (by decide)
 have e1 := y1.atO (k := 1) (by decide)
 rw [hget _ (by decide)] at e0 e1
 obtain ⟨x0, hx0⟩ : ∃ x, l.getD k 0 = x := ⟨_, rfl⟩
 obtain ⟨x1, hx1⟩ : ∃ x, l.getD (k + 1) 0 = x := ⟨_, rfl⟩
 have e0 : W0.cell? ⟨b, o, none⟩ = some (.int .u8 x0) := by rw [e0, Nat.add_zero, hx0]
 rw [hx1] at e1 g1
 obtain ⟨m8, hm⟩ : ∃ m, g6len l k = m := ⟨_, rfl⟩
 have hm8 : 8 * x1 = (m8 : Int) := by rw [← hm, g6len, hx1]; omega
 have hm8b : m8 ≤ 2040 := by omega
 rw [hm] at hn2
 have hmH := Lib.hid hm
 have hx0H := Lib.hid hx0
 have h2 : RS B g W0 w1.drew A N c (k + 8) D ⟨hA, hc2, ps, bA, bc⟩ := ⟨h1.has.drew, h1.own.below (below_drew _ _), h1.hl, h1.bel.trans (below_drew _ _)⟩
 have hb1 := h1.bel
 clear hx0 hx1 hget hc h hc1 h1 hm
 go_wp2
 refine wp_region_held_drew (S := fun W => Below B W0 W) (by kernel_rfl) (hb1.trans (below_drew _ _)) (fun hS => ?_)
 generalize w1.drew = W2 at hS h2 ⊢
 refine te 0 (.pointer (some ⟨g, 0, none⟩)) hS rfl (by intro _ _; exact rfl) ?_
 simp only [lay]
 refine te 1 (.pointer (some ⟨g, 0, none⟩)) hS rfl (by intro _ _; exact ex_nilc (by exact rfl) (by exact rfl)) ?_
 simp only [lay]
 refine te 2 (.pointer (some ⟨g, 0, none⟩)) hS rfl (by intro _ _; exact ex_field 0 1 (by exact rfl) Try.underlying147 (by exact rfl) rfl (by kernel_rfl) (by exact rfl)) ?_
 simp only [lay]
 refine te 3 (.slice (some ⟨b, o, none⟩) 8 c1) hS rfl (by intro _ _; exact rfl) ?_
 simp only [lay]
 refine te 4 (.pointer (some ⟨b, o + 1, none⟩)) hS rfl (by intro _ _; exact ex_index (by exact rfl) Try.underlying26 (by kernel_rfl) (by exact rfl) (by exact rfl) ((by decide))) ?_
 simp only [lay]
 refine te 5 (.int .u8 x1) hS rfl (by intro _ h; exact ex_cell (by exact rfl) Try.underlying5 rfl (by exact rfl) ((h.cell (p := ⟨b, o + 1, none⟩) hb).trans e1)) ?_
 simp only [lay]
 refine te 6 (.int .i64 x1) hS rfl (by intro _ h; exact ex_conv (by exact rfl) (by exact rfl) (conv_i64 _ _ _ _ rfl rfl (by omega) _)) ?_
 simp only [lay]
 refine te 7 (.int .i64 (m8 : Int)) hS rfl (by intro _ _; exact ex_bin (by exact rfl) (by exact rfl) (by exact rfl) (by decide) (b_mul _ _ hm8 (by omega) _)) ?_
 simp only [lay]
 refine te 8 (.int .i64 (k : Int)) hS rfl (by intro _ _; exact rfl) ?_
 simp only [lay]
 refine tk_one (by kernel_rfl) (op_callx (i := 9) (fun v W' => (∃ A2 c2, v = .slice A2 m8 c2 ∧ By B W0 A2 m8 c2 ((l.drop (k + 8)).take m8)) ∧ RS B g W0 W' A N c (k + 8 + m8) D ⟨hA, hc2, ps, bA, bc⟩) rfl (by kernel_rfl) (by exact ex_call (by exact rfl) Try.func101 (by kernel_rfl) (by kernel_rfl) (by simp only [List.map_toArray, List.map_cons, List.map_nil] <;> rfl)) ((take_rs (q := (k : Int)) m8 rfl h2 hy hB hn2).mono (fun e w' ⟨A2, c2, he, hy2, hr⟩ => ⟨_, he, ⟨⟨A2, c2, rfl, hy2⟩, hr⟩, hr.bel⟩)) ?_)
 rintro v W3 ⟨⟨A2, c2, rfl, y2⟩, h3⟩ hS3
 simp only [lay]
 refine te 10 (.slice A2 m8 c2) hS3 rfl (by intro _ _; exact rfl) ?_
 simp only [lay]
 refine wpAnyH_done (by kernel_rfl) ?_ _

 have c37 := h3.has.cell 37 (v := .slice hA D.hs.length hc2) rfl
 clear h3 y2 h2
 obtain ⟨HL, hHL⟩ : ∃ n, D.hs.length = n := ⟨_, rfl⟩
 rw [hHL] at hf c37
 clear hHL
 by_cases h0 : kind = 0 ∧ 0 < HL
 ·obtain ⟨rfl, h1⟩ := h0
  have h1 : (0 : Int) < (HL : Int) := by omega
  clear hf hk44 h44
  go_wp2
  exact ⟨rfl, rfl, hS3⟩
 ·obtain rfl : HL = 8 := hf.resolve_left h0
  have h0 : (kind == 0) = false := by
   have : kind ≠ 0 := fun e => h0 ⟨e, by decide⟩
   simpa using this
  clear hf
  go_wp2
  exact ⟨rfl, rfl, hS3⟩

set_option maxRecDepth 100000 in
set_option maxHeartbeats 8000000 in
theorem head_ok {B g : Nat} {W0 w : World} {A hA bA : Option Addr} {N c k hc2 bc : Nat} {D : D6} {ps : List Kd} {l : List Int} (kind : Int) (h : RS B g W0 w A N c k D ⟨hA, hc2, ps, bA, bc⟩) (hy : By B W0 A N c l) (hB : B ≤ g) (hn : k + 8 ≤ N) (h44 : kind ≠ 44) (hn2 : k + 8 + g6len l k ≤ N) (hf : ¬ ((kind = 0 ∧ 0 < D.hs.length) ∨ D.hs.length = 8)) (h8 : D.hs.length ≤ 8) (hkr : 0 ≤ kind ∧ kind ≤ 255) (hB0 : B ≤ W0.heap.size) :
  Calls Try.prog 102 #[.pointer (some ⟨g, 0, none⟩), .int .u8 kind] w fun e w' => Byt (l.getD k 0) e ∧
   ∃ p', RS B g W0 w' A N c (k + 8 + g6len l k) { D with hs := D.hs ++ [(kind, (l.drop (k + 2)).take (6 + g6len l k))] } p' := by
 have hc1 := h.has.cell 1 (v := .int .i64 (k : Int)) rfl
 have hc := Lib.hid (take_rs (q := (k : Int)) 8 (z := 8) rfl h hy hB hn)
 have hlr := hy.rng
 have hll := hy.len
 have hN := Nat.le_trans hy.cap hy.big
 have hget : ∀ i, i < 8 → ((l.drop k).take 8).getD i 0 = l.getD (k + i) 0 := fun i hi => by simp [List.getD, hi]
 have g1 := getD_byte hlr (k + 1)
 have hk44 : (kind == 44) = false := by simpa using h44
 go_enter Try.func102, Try.ntmps102
 go_wp2_with fail
 refine hc.out.mono ?_
 rintro e w1 ⟨A1, c1, rfl, y1, h1⟩
 obtain ⟨b, o, rfl, hb, -⟩ := y1.row.at_ (by decide)
 have e0 : W0.cell? ⟨b, o, none⟩ = _ := y1.atO (k := 0) (by decide)
 have e1 := y1.atO (k := 1) (by decide)
 rw [hget _ (by decide)] at e0 e1
 obtain ⟨x0, hx0⟩ : ∃ x, l.getD k 0 = x := ⟨_, rfl⟩
 obtain ⟨x1, hx1⟩ : ∃ x, l.getD (k + 1) 0 = x := ⟨_, rfl⟩
 have e0 : W0.cell? ⟨b, o, none⟩ = some (.int .u8 x0) := by rw [e0, Nat.add_zero, hx0]
 rw [hx1] at e1 g1
 obtain ⟨m8, hm⟩ : ∃ m, g6len l k = m := ⟨_, rfl⟩
 have hm8 : 8 * x1 = (m8 : Int) := by rw [← hm, g6len, hx1]; omega
 have hm8b : m8 ≤ 2040 := by omega
 rw [hm] at hn2
 have hmH := Lib.hid hm
 have hx0H := Lib.hid hx0
 have h2 : RS B g W0 w1.drew A N c (k + 8) D ⟨hA, hc2, ps, bA, bc⟩ := ⟨h1.has.drew, h1.own.below (below_drew _ _), h1.hl, h1.bel.trans (below_drew _ _)⟩
 have hb1 := h1.bel
 clear hx0 hx1 hget hc h hc1 h1 hm
 go_wp2
 refine wp_region_held_drew (S := fun W => Below B W0 W) (by kernel_rfl) (hb1.trans (below_drew _ _)) (fun hS => ?_)
 generalize w1.drew = W2 at hS h2 ⊢
 refine te 0 (.pointer (some ⟨g, 0, none⟩)) hS rfl (by intro _ _; exact rfl) ?_
 simp only [lay]
 refine te 1 (.pointer (some ⟨g, 0, none⟩)) hS rfl (by intro _ _; exact ex_nilc (by exact rfl) (by exact rfl)) ?_
 simp only [lay]
 refine te 2 (.pointer (some ⟨g, 0, none⟩)) hS rfl (by intro _ _; exact ex_field 0 1 (by exact rfl) Try.underlying147 (by exact rfl) rfl (by kernel_rfl) (by exact rfl)) ?_
 simp only [lay]
 refine te 3 (.slice (some ⟨b, o, none⟩) 8 c1) hS rfl (by intro _ _; exact rfl) ?_
 simp only [lay]
 refine te 4 (.pointer (some ⟨b, o + 1, none⟩)) hS rfl (by intro _ _; exact ex_index (by exact rfl) Try.underlying26 (by kernel_rfl) (by exact rfl) (by exact rfl) ((by decide))) ?_
 simp only [lay]
 refine te 5 (.int .u8 x1) hS rfl (by intro _ h; exact ex_cell (by exact rfl) Try.underlying5 rfl (by exact rfl) ((h.cell (p := ⟨b, o + 1, none⟩) hb).trans e1)) ?_
 simp only [lay]
 refine te 6 (.int .i64 x1) hS rfl (by intro _ h; exact ex_conv (by exact rfl) (by exact rfl) (conv_i64 _ _ _ _ rfl rfl (by omega) _)) ?_
 simp only [lay]
 refine te 7 (.int .i64 (m8 : Int)) hS rfl (by intro _ _; exact ex_bin (by exact rfl) (by exact rfl) (by exact rfl) (by decide) (b_mul _ _ hm8 (by omega) _)) ?_
 simp only [lay]
 refine te 8 (.int .i64 (k : Int)) hS rfl (by intro _ _; exact rfl) ?_
 simp only [lay]
 refine tk_one (by kernel_rfl) (op_callx (i := 9) (fun v W' => (∃ A2 c2, v = .slice A2 m8 c2 ∧ By B W0 A2 m8 c2 ((l.drop (k + 8)).take m8)) ∧ RS B g W0 W' A N c (k + 8 + m8) D ⟨hA, hc2, ps, bA, bc⟩) rfl (by kernel_rfl) (by exact ex_call (by exact rfl) Try.func101 (by kernel_rfl) (by kernel_rfl) (by simp only [List.map_toArray, List.map_cons, List.map_nil] <;> rfl)) ((take_rs (q := (k : Int)) m8 rfl h2 hy hB hn2).mono (fun e w' ⟨A2, c2, he, hy2, hr⟩ => ⟨_, he, ⟨⟨A2, c2, rfl, hy2⟩, hr⟩, hr.bel⟩)) ?_)
 rintro v W3 ⟨⟨A2, c2, rfl, y2⟩, h3⟩ hS3
 simp only [lay]
 refine te 10 (.slice A2 m8 c2) hS3 rfl (by intro _ _; exact rfl) ?_
 simp only [lay]
 refine wpAnyH_done (by kernel_rfl) ?_ _

 have c37 := h3.has.cell 37 (v := .slice hA D.hs.length hc2) rfl
 obtain ⟨HL, hHL⟩ : ∃ n, D.hs.length = n := ⟨_, rfl⟩
 rw [hHL] at hf h8 c37
 have hpl : ps.length = HL := by rw [← hHL, ← h3.hl, kdL_len]
 obtain ⟨A3, c3, r3, y3⟩ := y1.from_ (P := Try.prog) 26 Try.underlying26 (by kernel_rfl) (k := 2) (by decide)
 have hfl : flat [(A3, c3, ((l.drop k).take 8).drop 2), (A2, c2, (l.drop (k + 8)).take m8)] = (l.drop (k + 2)).take (6 + m8) := by
  simp only [flat, List.map_cons, List.map_nil, List.flatten_cons, List.flatten_nil, List.append_nil]
  rw [List.drop_take, List.drop_drop, List.take_add, List.drop_drop]
 have hbl : ((l.drop (k + 2)).take (6 + m8)).length = 6 + m8 := by rw [List.length_take, List.length_drop]; omega
 have hflen : (flat [(A3, c3, ((l.drop k).take 8).drop 2), (A2, c2, (l.drop (k + 8)).take m8)]).length ≤ 140737488355328 := by rw [hfl, hbl]; omega
 have hZ : Has W3.drew g (.cells (rcells A N c ((k + 8 + m8 : Nat) : Int) D ⟨hA, hc2, ps, bA, bc⟩) 147 (0, 0)) := h3.has.drew
 have hK := h3.own.below (below_drew _ _)
 have hkl := h3.hl
 dsimp only at hK hkl
 clear h3 y1 h2
 have hc00 : (kind == 0) = decide (kind = 0) := by rw [Bool.eq_iff_iff]; simp
 obtain ⟨qk, hqk⟩ : ∃ q, (kind == 0) = q := ⟨_, rfl⟩
 have h88 : ((HL : Int) == 8) = false := by simp; omega
 have hHz : qk = true → ¬ ((0 : Int) < (HL : Int)) := fun e => by rw [← hqk, hc00, decide_eq_true_eq] at e; omega
 clear hc00
 cases qk with
 | true =>
  have hHz := hHz rfl
  go_wp2
  refine wp_region_held_drew (S := fun W => Below B W0 W) (by kernel_rfl) (hS3.trans (below_drew _ _)) (fun hS => ?_)
  generalize W3.drew = W4 at hS hZ hK ⊢
  have hg4 := hZ.lt
  apply wpAnyH_rest6 (R := fun A8 c8 A5 c5 _ _ W9 => Has W9 g (.cells ((rcells A N c ((k + 8 + m8 : Nat) : Int) D ⟨hA, hc2, ps, bA, bc⟩).setIfInBounds 37 (.slice A8 (ps ++ [(kind, A5, c5, ((l.drop (k + 2)).take (6 + m8)))]).length c8)) 147 (0, 0)) ∧ OwnK W9 (g + 1) 108 (.slice A8 (ps ++ [(kind, A5, c5, ((l.drop (k + 2)).take (6 + m8)))]).length c8) (ps ++ [(kind, A5, c5, ((l.drop (k + 2)).take (6 + m8)))]) ∧ Below B W0 W9)
  case h1 =>
   intro hrest
   refine te 0 (.pointer (some ⟨g, 0, none⟩)) hS rfl (by intro _ _; exact rfl) ?_
   simp only [lay]
   refine te 1 (.pointer (some ⟨g, 0, none⟩)) hS rfl (by intro _ _; exact rfl) ?_
   simp only [lay]
   refine te 2 (.pointer (some ⟨g, 0, none⟩)) hS rfl (by intro _ _; exact ex_nilc (by exact rfl) (by exact rfl)) ?_
   simp only [lay]
   refine te 3 (.pointer (some ⟨g, 2, none⟩)) hS rfl (by intro _ _; exact ex_field 2 41 (by exact rfl) Try.underlying147 (by exact rfl) rfl (by kernel_rfl) (by exact rfl)) ?_
   simp only [lay]
   refine te 4 (.pointer (some ⟨g, 37, none⟩)) hS rfl (by intro _ _; exact ex_fieldO 35 0 (by exact rfl) Try.underlying28 (by exact rfl) rfl (by kernel_rfl) (by exact rfl)) ?_
   simp only [lay]
   refine te 6 (.int .u8 kind) hS rfl (by intro _ _; exact rfl) ?_
   simp only [lay]
   refine te 7 (.slice (some ⟨b, o, none⟩) 8 c1) hS rfl (by intro _ _; exact rfl) ?_
   simp only [lay]
   refine te 8 (.slice A3 6 c3) hS rfl (by intro _ _; exact ex_slice (by exact rfl) (by exact rfl) (r3 _)) ?_
   simp only [lay]
   refine te 9 (.slice A2 m8 c2) hS rfl (by intro _ _; exact rfl) ?_
   simp only [lay]
   refine tk_two (by kernel_rfl) (op_val (i := 5) (.slice hA D.hs.length hc2) rfl (by kernel_rfl) (ex_cell (by exact rfl) Try.underlying25 rfl (by exact rfl) (hZ.cell 37 (v := .slice hA D.hs.length hc2) rfl)) hS ?L1) (op_build (i := 10) [.slice A3 6 c3, .slice A2 m8 c2] rfl (by kernel_rfl) rfl Try.underlying100 (by kernel_rfl) (by kernel_rfl) rfl (by decide) (by decide) (by first | rfl | (simp only [List.map_toArray, List.map_cons, List.map_nil] <;> rfl)) (all2 rfl rfl) (fun _ hb => hS.trans (hb.mono (Nat.le_trans hB0 (Below.size hS)))) ?R1)
   case' L1 =>
    simp only [lay]
    refine tk_one (by kernel_rfl) (op_build (i := 10) [.slice A3 6 c3, .slice A2 m8 c2] rfl (by kernel_rfl) rfl Try.underlying100 (by kernel_rfl) (by kernel_rfl) rfl (by decide) (by decide) (by first | rfl | (simp only [List.map_toArray, List.map_cons, List.map_nil] <;> rfl)) (all2 rfl rfl) (fun _ hb => hS.trans (hb.mono (Nat.le_trans hB0 (Below.size hS)))) ?_)
    intro g7 W5 hQ7 hge7 hsz7 hb5 hS5
    have hZ := hZ.below hb5 hZ.lt
    have hK := hK.below hb5
    have p7 := parts2 hQ7 (Nat.le_refl _) ((y3.below hS5 (Nat.le_refl _)).more (Nat.le_trans hB0 (Below.size hS5))) ((y2.below hS5 (Nat.le_refl _)).more (Nat.le_trans hB0 (Below.size hS5)))
    simp only [lay]
    refine tk_one (by kernel_rfl) (op_callx (i := 11) (fun v W => OwnB W (World.heap W5).size v ((l.drop (k + 2)).take (6 + m8)) ∧ Below (World.heap W5).size W5 W) rfl (by kernel_rfl) (by exact ex_call (by exact rfl) Try.func81 (by kernel_rfl) (by kernel_rfl) (by simp only [List.map_toArray, List.map_cons, List.map_nil] <;> rfl)) ((concat_any _ _ [(A3, c3, ((l.drop k).take 8).drop 2), (A2, c2, (l.drop (k + 8)).take m8)] _ p7 hflen).mono (fun e w' ⟨v, he, ho, hb⟩ => ⟨v, he, ⟨by rw [hfl] at ho; exact ho, hb⟩, hS5.trans (hb.mono (Nat.le_trans hB0 (Below.size hS5)))⟩)) ?_)
    rintro v W6 ⟨o6, hb6⟩ hS6
    have hne := hK.apart o6 (Nat.le_refl _)
    have hZ := hZ.below hb6 hZ.lt
    have hK := hK.below hb6
    have o6 := o6.more (Nat.le_trans (Nat.succ_le_of_lt hg4) (hb5.size))
    obtain ⟨A5, c5, rfl, _⟩ := own_shape o6.own
    rw [hbl] at o6 hne ⊢
    simp only [lay]
    refine te 12 (.agg #[.int .u8 kind, .slice A5 (6 + m8) c5]) hS6 rfl (by intro _ _; go_simp) ?_
    simp only [lay]
    refine tk_one (by kernel_rfl) (op_build_kd (i := 13) 25 108 (.tmp 123) rfl (by kernel_rfl) rfl Try.underlying25 hd_zero kind (.slice A5 (6 + m8) c5) rfl (fun _ hb => hS6.trans (hb.mono (Nat.le_trans hB0 (Below.size hS6)))) ?_)
    intro g8 W7 hQ8 hge8 hb7 hS7
    have hZ := hZ.below hb7 hZ.lt
    have hK := hK.below hb7
    have o7 := o6.below hb7
    simp only [lay]
    refine tk_one (by kernel_rfl) (op_append_kd (i := 14) _ _ 25 rfl (by kernel_rfl) rfl (g + 1) 108 _ 32 Try.underlying25 hd_full rfl _ ps rfl hK g8 1 (kind, A5, c5, ((l.drop (k + 2)).take (6 + m8))) rfl (hQ8.cell 0 rfl) (by rw [kdV, hbl]; exact hQ8.cell 1 rfl) hkr.1 hkr.2 (by rw [kdV, hbl]; exact o7) (by rw [kdV, hbl]; exact hne) (by omega) (by simp only [maxLen]; omega) (Nat.le_trans (Nat.succ_le_of_lt hZ.lt) (Nat.le_refl _)) (fun _ hb => hS7.trans (hb.mono (Nat.le_succ_of_le hB))) ?_)
    intro v8 W8 hK8 hb8 hS8
    obtain ⟨A8, c8, rfl, _⟩ := hK8.kds
    have hZ8 := hZ.below hb8 (Nat.lt_succ_self g)
    simp only [lay]
    refine te 15 (.pointer (some ⟨g, 0, none⟩)) hS8 rfl (by intro _ _; exact ex_nilc (by exact rfl) (by exact rfl)) ?_
    simp only [lay]
    refine te 16 (.pointer (some ⟨g, 2, none⟩)) hS8 rfl (by intro _ _; exact ex_field 2 41 (by exact rfl) Try.underlying147 (by exact rfl) rfl (by kernel_rfl) (by exact rfl)) ?_
    simp only [lay]
    refine te 17 (.pointer (some ⟨g, 37, none⟩)) hS8 rfl (by intro _ _; exact ex_fieldO 35 0 (by exact rfl) Try.underlying28 (by exact rfl) rfl (by kernel_rfl) (by exact rfl)) ?_
    simp only [lay]
    refine tk_cell (i := 18) (v := .slice A8 (ps ++ [(kind, A5, c5, ((l.drop (k + 2)).take (6 + m8)))]).length c8) (by kernel_rfl) rfl (by kernel_rfl) rfl rfl rfl rfl (by kernel_rfl) hZ8 (show 37 < 44 by decide) rfl (below_setCell hS8 hB 37 _) ?_
    simp only [lay]
    refine wpAnyH_done (by kernel_rfl) ?_ _
    exact hrest A8 c8 A5 c5 g7 g8 _ ⟨hZ8.setCell 37 _, hK8.but6 (But6.setCell g 37 W8 _) (Nat.lt_succ_self g), below_setCell hS8 hB 37 _⟩
   case' R1 =>
    intro g7 W5 hQ7 hge7 hsz7 hb5 hS5
    have hZ := hZ.below hb5 hZ.lt
    have hK := hK.below hb5
    have p7 := parts2 hQ7 (Nat.le_refl _) ((y3.below hS5 (Nat.le_refl _)).more (Nat.le_trans hB0 (Below.size hS5))) ((y2.below hS5 (Nat.le_refl _)).more (Nat.le_trans hB0 (Below.size hS5)))
    simp only [lay]
    refine tk_two (by kernel_rfl) (op_val (i := 5) (.slice hA D.hs.length hc2) rfl (by kernel_rfl) (ex_cell (by exact rfl) Try.underlying25 rfl (by exact rfl) (hZ.cell 37 (v := .slice hA D.hs.length hc2) rfl)) hS5 ?L2) (op_callx (i := 11) (fun v W => OwnB W (World.heap W5).size v ((l.drop (k + 2)).take (6 + m8)) ∧ Below (World.heap W5).size W5 W) rfl (by kernel_rfl) (by exact ex_call (by exact rfl) Try.func81 (by kernel_rfl) (by kernel_rfl) (by simp only [List.map_toArray, List.map_cons, List.map_nil] <;> rfl)) ((concat_any _ _ [(A3, c3, ((l.drop k).take 8).drop 2), (A2, c2, (l.drop (k + 8)).take m8)] _ p7 hflen).mono (fun e w' ⟨v, he, ho, hb⟩ => ⟨v, he, ⟨by rw [hfl] at ho; exact ho, hb⟩, hS5.trans (hb.mono (Nat.le_trans hB0 (Below.size hS5)))⟩)) ?R2)
    case' L2 =>
     simp only [lay]
     refine tk_one (by kernel_rfl) (op_callx (i := 11) (fun v W => OwnB W (World.heap W5).size v ((l.drop (k + 2)).take (6 + m8)) ∧ Below (World.heap W5).size W5 W) rfl (by kernel_rfl) (by exact ex_call (by exact rfl) Try.func81 (by kernel_rfl) (by kernel_rfl) (by simp only [List.map_toArray, List.map_cons, List.map_nil] <;> rfl)) ((concat_any _ _ [(A3, c3, ((l.drop k).take 8).drop 2), (A2, c2, (l.drop (k + 8)).take m8)] _ p7 hflen).mono (fun e w' ⟨v, he, ho, hb⟩ => ⟨v, he, ⟨by rw [hfl] at ho; exact ho, hb⟩, hS5.trans (hb.mono (Nat.le_trans hB0 (Below.size hS5)))⟩)) ?_)
     rintro v W6 ⟨o6, hb6⟩ hS6
     have hne := hK.apart o6 (Nat.le_refl _)
     have hZ := hZ.below hb6 hZ.lt
     have hK := hK.below hb6
     have o6 := o6.more (Nat.le_trans (Nat.succ_le_of_lt hg4) (hb5.size))
     obtain ⟨A5, c5, rfl, _⟩ := own_shape o6.own
     rw [hbl] at o6 hne ⊢
     simp only [lay]
     refine te 12 (.agg #[.int .u8 kind, .slice A5 (6 + m8) c5]) hS6 rfl (by intro _ _; go_simp) ?_
     simp only [lay]
     refine tk_one (by kernel_rfl) (op_build_kd (i := 13) 25 108 (.tmp 123) rfl (by kernel_rfl) rfl Try.underlying25 hd_zero kind (.slice A5 (6 + m8) c5) rfl (fun _ hb => hS6.trans (hb.mono (Nat.le_trans hB0 (Below.size hS6)))) ?_)
     intro g8 W7 hQ8 hge8 hb7 hS7
     have hZ := hZ.below hb7 hZ.lt
     have hK := hK.below hb7
     have o7 := o6.below hb7
     simp only [lay]
     refine tk_one (by kernel_rfl) (op_append_kd (i := 14) _ _ 25 rfl (by kernel_rfl) rfl (g + 1) 108 _ 32 Try.underlying25 hd_full rfl _ ps rfl hK g8 1 (kind, A5, c5, ((l.drop (k + 2)).take (6 + m8))) rfl (hQ8.cell 0 rfl) (by rw [kdV, hbl]; exact hQ8.cell 1 rfl) hkr.1 hkr.2 (by rw [kdV, hbl]; exact o7) (by rw [kdV, hbl]; exact hne) (by omega) (by simp only [maxLen]; omega) (Nat.le_trans (Nat.succ_le_of_lt hZ.lt) (Nat.le_refl _)) (fun _ hb => hS7.trans (hb.mono (Nat.le_succ_of_le hB))) ?_)
     intro v8 W8 hK8 hb8 hS8
     obtain ⟨A8, c8, rfl, _⟩ := hK8.kds
     have hZ8 := hZ.below hb8 (Nat.lt_succ_self g)
     simp only [lay]
     refine te 15 (.pointer (some ⟨g, 0, none⟩)) hS8 rfl (by intro _ _; exact ex_nilc (by exact rfl) (by exact rfl)) ?_
     simp only [lay]
     refine te 16 (.pointer (some ⟨g, 2, none⟩)) hS8 rfl (by intro _ _; exact ex_field 2 41 (by exact rfl) Try.underlying147 (by exact rfl) rfl (by kernel_rfl) (by exact rfl)) ?_
     simp only [lay]
     refine te 17 (.pointer (some ⟨g, 37, none⟩)) hS8 rfl (by intro _ _; exact ex_fieldO 35 0 (by exact rfl) Try.underlying28 (by exact rfl) rfl (by kernel_rfl) (by exact rfl)) ?_
     simp only [lay]
     refine tk_cell (i := 18) (v := .slice A8 (ps ++ [(kind, A5, c5, ((l.drop (k + 2)).take (6 + m8)))]).length c8) (by kernel_rfl) rfl (by kernel_rfl) rfl rfl rfl rfl (by kernel_rfl) hZ8 (show 37 < 44 by decide) rfl (below_setCell hS8 hB 37 _) ?_
     simp only [lay]
     refine wpAnyH_done (by kernel_rfl) ?_ _
     exact hrest A8 c8 A5 c5 g7 g8 _ ⟨hZ8.setCell 37 _, hK8.but6 (But6.setCell g 37 W8 _) (Nat.lt_succ_self g), below_setCell hS8 hB 37 _⟩
    case' R2 =>
     rintro v W6 ⟨o6, hb6⟩ hS6
     have hne := hK.apart o6 (Nat.le_refl _)
     have hZ := hZ.below hb6 hZ.lt
     have hK := hK.below hb6
     have o6 := o6.more (Nat.le_trans (Nat.succ_le_of_lt hg4) (hb5.size))
     obtain ⟨A5, c5, rfl, _⟩ := own_shape o6.own
     rw [hbl] at o6 hne ⊢
     simp only [lay]
     refine te 12 (.agg #[.int .u8 kind, .slice A5 (6 + m8) c5]) hS6 rfl (by intro _ _; go_simp) ?_
     simp only [lay]
     refine tk_two (by kernel_rfl) (op_val (i := 5) (.slice hA D.hs.length hc2) rfl (by kernel_rfl) (ex_cell (by exact rfl) Try.underlying25 rfl (by exact rfl) (hZ.cell 37 (v := .slice hA D.hs.length hc2) rfl)) hS6 ?L3) (op_build_kd (i := 13) 25 108 (.tmp 123) rfl (by kernel_rfl) rfl Try.underlying25 hd_zero kind (.slice A5 (6 + m8) c5) rfl (fun _ hb => hS6.trans (hb.mono (Nat.le_trans hB0 (Below.size hS6)))) ?R3)
     case' L3 =>
      simp only [lay]
      refine tk_one (by kernel_rfl) (op_build_kd (i := 13) 25 108 (.tmp 123) rfl (by kernel_rfl) rfl Try.underlying25 hd_zero kind (.slice A5 (6 + m8) c5) rfl (fun _ hb => hS6.trans (hb.mono (Nat.le_trans hB0 (Below.size hS6)))) ?_)
      intro g8 W7 hQ8 hge8 hb7 hS7
      have hZ := hZ.below hb7 hZ.lt
      have hK := hK.below hb7
      have o7 := o6.below hb7
      simp only [lay]
      refine tk_one (by kernel_rfl) (op_append_kd (i := 14) _ _ 25 rfl (by kernel_rfl) rfl (g + 1) 108 _ 32 Try.underlying25 hd_full rfl _ ps rfl hK g8 1 (kind, A5, c5, ((l.drop (k + 2)).take (6 + m8))) rfl (hQ8.cell 0 rfl) (by rw [kdV, hbl]; exact hQ8.cell 1 rfl) hkr.1 hkr.2 (by rw [kdV, hbl]; exact o7) (by rw [kdV, hbl]; exact hne) (by omega) (by simp only [maxLen]; omega) (Nat.le_trans (Nat.succ_le_of_lt hZ.lt) (Nat.le_refl _)) (fun _ hb => hS7.trans (hb.mono (Nat.le_succ_of_le hB))) ?_)
      intro v8 W8 hK8 hb8 hS8
      obtain ⟨A8, c8, rfl, _⟩ := hK8.kds
      have hZ8 := hZ.below hb8 (Nat.lt_succ_self g)
      simp only [lay]
      refine te 15 (.pointer (some ⟨g, 0, none⟩)) hS8 rfl (by intro _ _; exact ex_nilc (by exact rfl) (by exact rfl)) ?_
      simp only [lay]
      refine te 16 (.pointer (some ⟨g, 2, none⟩)) hS8 rfl (by intro _ _; exact ex_field 2 41 (by exact rfl) Try.underlying147 (by exact rfl) rfl (by kernel_rfl) (by exact rfl)) ?_
      simp only [lay]
      refine te 17 (.pointer (some ⟨g, 37, none⟩)) hS8 rfl (by intro _ _; exact ex_fieldO 35 0 (by exact rfl) Try.underlying28 (by exact rfl) rfl (by kernel_rfl) (by exact rfl)) ?_
      simp only [lay]
      refine tk_cell (i := 18) (v := .slice A8 (ps ++ [(kind, A5, c5, ((l.drop (k + 2)).take (6 + m8)))]).length c8) (by kernel_rfl) rfl (by kernel_rfl) rfl rfl rfl rfl (by kernel_rfl) hZ8 (show 37 < 44 by decide) rfl (below_setCell hS8 hB 37 _) ?_
      simp only [lay]
      refine wpAnyH_done (by kernel_rfl) ?_ _
      exact hrest A8 c8 A5 c5 g7 g8 _ ⟨hZ8.setCell 37 _, hK8.but6 (But6.setCell g 37 W8 _) (Nat.lt_succ_self g), below_setCell hS8 hB 37 _⟩
     case' R3 =>
      intro g8 W7 hQ8 hge8 hb7 hS7
      have hZ := hZ.below hb7 hZ.lt
      have hK := hK.below hb7
      have o7 := o6.below hb7
      simp only [lay]
      refine tk_one (by kernel_rfl) (op_val (i := 5) (.slice hA D.hs.length hc2) rfl (by kernel_rfl) (ex_cell (by exact rfl) Try.underlying25 rfl (by exact rfl) (hZ.cell 37 (v := .slice hA D.hs.length hc2) rfl)) hS7 ?_)
      simp only [lay]
      refine tk_one (by kernel_rfl) (op_append_kd (i := 14) _ _ 25 rfl (by kernel_rfl) rfl (g + 1) 108 _ 32 Try.underlying25 hd_full rfl _ ps rfl hK g8 1 (kind, A5, c5, ((l.drop (k + 2)).take (6 + m8))) rfl (hQ8.cell 0 rfl) (by rw [kdV, hbl]; exact hQ8.cell 1 rfl) hkr.1 hkr.2 (by rw [kdV, hbl]; exact o7) (by rw [kdV, hbl]; exact hne) (by omega) (by simp only [maxLen]; omega) (Nat.le_trans (Nat.succ_le_of_lt hZ.lt) (Nat.le_refl _)) (fun _ hb => hS7.trans (hb.mono (Nat.le_succ_of_le hB))) ?_)
      intro v8 W8 hK8 hb8 hS8
      obtain ⟨A8, c8, rfl, _⟩ := hK8.kds
      have hZ8 := hZ.below hb8 (Nat.lt_succ_self g)
      simp only [lay]
      refine te 15 (.pointer (some ⟨g, 0, none⟩)) hS8 rfl (by intro _ _; exact ex_nilc (by exact rfl) (by exact rfl)) ?_
      simp only [lay]
      refine te 16 (.pointer (some ⟨g, 2, none⟩)) hS8 rfl (by intro _ _; exact ex_field 2 41 (by exact rfl) Try.underlying147 (by exact rfl) rfl (by kernel_rfl) (by exact rfl)) ?_
      simp only [lay]
      refine te 17 (.pointer (some ⟨g, 37, none⟩)) hS8 rfl (by intro _ _; exact ex_fieldO 35 0 (by exact rfl) Try.underlying28 (by exact rfl) rfl (by kernel_rfl) (by exact rfl)) ?_
      simp only [lay]
      refine tk_cell (i := 18) (v := .slice A8 (ps ++ [(kind, A5, c5, ((l.drop (k + 2)).take (6 + m8)))]).length c8) (by kernel_rfl) rfl (by kernel_rfl) rfl rfl rfl rfl (by kernel_rfl) hZ8 (show 37 < 44 by decide) rfl (below_setCell hS8 hB 37 _) ?_
      simp only [lay]
      refine wpAnyH_done (by kernel_rfl) ?_ _
      exact hrest A8 c8 A5 c5 g7 g8 _ ⟨hZ8.setCell 37 _, hK8.but6 (But6.setCell g 37 W8 _) (Nat.lt_succ_self g), below_setCell hS8 hB 37 _⟩
  case h2 =>
   rintro A8 c8 A5 c5 ga gb W9 ⟨hZ9, hK9, hb9⟩
   have e0' := (hb9.cell (p := ⟨b, o, none⟩) hb).trans e0
   go_wp2
   go_ret
   rw [hmH.out, hx0H.out]
   have hlen : (D.hs ++ [(kind, ((l.drop (k + 2)).take (6 + m8)))]).length = (ps ++ [(kind, A5, c5, ((l.drop (k + 2)).take (6 + m8)))]).length := by rw [List.length_append, List.length_append, List.length_singleton, List.length_singleton, ← hkl, kdL_len]
   refine ⟨Byt.mk rfl, ⟨A8, c8, ps ++ [(kind, A5, c5, ((l.drop (k + 2)).take (6 + m8)))], bA, bc⟩, ?_, ?_, ?_, hb9⟩
   ·have e : rcells A N c ((k + 8 + m8 : Nat) : Int) { D with hs := D.hs ++ [(kind, ((l.drop (k + 2)).take (6 + m8)))] } ⟨A8, c8, ps ++ [(kind, A5, c5, ((l.drop (k + 2)).take (6 + m8)))], bA, bc⟩ = (rcells A N c ((k + 8 + m8 : Nat) : Int) D ⟨hA, hc2, ps, bA, bc⟩).setIfInBounds 37 (.slice A8 (ps ++ [(kind, A5, c5, ((l.drop (k + 2)).take (6 + m8)))]).length c8) := by
     rw [← hlen]
     rfl
    rw [e]
    exact hZ9
   ·show OwnK W9 (g + 1) _ (.slice A8 (D.hs ++ [(kind, ((l.drop (k + 2)).take (6 + m8)))]).length c8) _
    rw [hlen]
    exact hK9
   ·show kdL (ps ++ [_]) = D.hs ++ [_]
    rw [kdL_append, hkl]
    rfl
 | false =>
  clear hHz
  go_wp2
  refine wp_region_held_drew (S := fun W => Below B W0 W) (by kernel_rfl) (hS3.trans (below_drew _ _)) (fun hS => ?_)
  generalize W3.drew = W4 at hS hZ hK ⊢
  have hg4 := hZ.lt
  apply wpAnyH_rest6 (R := fun A8 c8 A5 c5 _ _ W9 => Has W9 g (.cells ((rcells A N c ((k + 8 + m8 : Nat) : Int) D ⟨hA, hc2, ps, bA, bc⟩).setIfInBounds 37 (.slice A8 (ps ++ [(kind, A5, c5, ((l.drop (k + 2)).take (6 + m8)))]).length c8)) 147 (0, 0)) ∧ OwnK W9 (g + 1) 108 (.slice A8 (ps ++ [(kind, A5, c5, ((l.drop (k + 2)).take (6 + m8)))]).length c8) (ps ++ [(kind, A5, c5, ((l.drop (k + 2)).take (6 + m8)))]) ∧ Below B W0 W9)
  case h1 =>
   intro hrest
   refine te 0 (.pointer (some ⟨g, 0, none⟩)) hS rfl (by intro _ _; exact rfl) ?_
   simp only [lay]
   refine te 1 (.pointer (some ⟨g, 0, none⟩)) hS rfl (by intro _ _; exact rfl) ?_
   simp only [lay]
   refine te 2 (.pointer (some ⟨g, 0, none⟩)) hS rfl (by intro _ _; exact ex_nilc (by exact rfl) (by exact rfl)) ?_
   simp only [lay]
   refine te 3 (.pointer (some ⟨g, 2, none⟩)) hS rfl (by intro _ _; exact ex_field 2 41 (by exact rfl) Try.underlying147 (by exact rfl) rfl (by kernel_rfl) (by exact rfl)) ?_
   simp only [lay]
   refine te 4 (.pointer (some ⟨g, 37, none⟩)) hS rfl (by intro _ _; exact ex_fieldO 35 0 (by exact rfl) Try.underlying28 (by exact rfl) rfl (by kernel_rfl) (by exact rfl)) ?_
   simp only [lay]
   refine te 6 (.int .u8 kind) hS rfl (by intro _ _; exact rfl) ?_
   simp only [lay]
   refine te 7 (.slice (some ⟨b, o, none⟩) 8 c1) hS rfl (by intro _ _; exact rfl) ?_
   simp only [lay]
   refine te 8 (.slice A3 6 c3) hS rfl (by intro _ _; exact ex_slice (by exact rfl) (by exact rfl) (r3 _)) ?_
   simp only [lay]
   refine te 9 (.slice A2 m8 c2) hS rfl (by intro _ _; exact rfl) ?_
   simp only [lay]
   refine tk_two (by kernel_rfl) (op_val (i := 5) (.slice hA D.hs.length hc2) rfl (by kernel_rfl) (ex_cell (by exact rfl) Try.underlying25 rfl (by exact rfl) (hZ.cell 37 (v := .slice hA D.hs.length hc2) rfl)) hS ?Lx1) (op_build (i := 10) [.slice A3 6 c3, .slice A2 m8 c2] rfl (by kernel_rfl) rfl Try.underlying100 (by kernel_rfl) (by kernel_rfl) rfl (by decide) (by decide) (by first | rfl | (simp only [List.map_toArray, List.map_cons, List.map_nil] <;> rfl)) (all2 rfl rfl) (fun _ hb => hS.trans (hb.mono (Nat.le_trans hB0 (Below.size hS)))) ?Rx1)
   case' Lx1 =>
    simp only [lay]
    refine tk_one (by kernel_rfl) (op_build (i := 10) [.slice A3 6 c3, .slice A2 m8 c2] rfl (by kernel_rfl) rfl Try.underlying100 (by kernel_rfl) (by kernel_rfl) rfl (by decide) (by decide) (by first | rfl | (simp only [List.map_toArray, List.map_cons, List.map_nil] <;> rfl)) (all2 rfl rfl) (fun _ hb => hS.trans (hb.mono (Nat.le_trans hB0 (Below.size hS)))) ?_)
    intro g7 W5 hQ7 hge7 hsz7 hb5 hS5
    have hZ := hZ.below hb5 hZ.lt
    have hK := hK.below hb5
    have p7 := parts2 hQ7 (Nat.le_refl _) ((y3.below hS5 (Nat.le_refl _)).more (Nat.le_trans hB0 (Below.size hS5))) ((y2.below hS5 (Nat.le_refl _)).more (Nat.le_trans hB0 (Below.size hS5)))
    simp only [lay]
    refine tk_one (by kernel_rfl) (op_callx (i := 11) (fun v W => OwnB W (World.heap W5).size v ((l.drop (k + 2)).take (6 + m8)) ∧ Below (World.heap W5).size W5 W) rfl (by kernel_rfl) (by exact ex_call (by exact rfl) Try.func81 (by kernel_rfl) (by kernel_rfl) (by simp only [List.map_toArray, List.map_cons, List.map_nil] <;> rfl)) ((concat_any _ _ [(A3, c3, ((l.drop k).take 8).drop 2), (A2, c2, (l.drop (k + 8)).take m8)] _ p7 hflen).mono (fun e w' ⟨v, he, ho, hb⟩ => ⟨v, he, ⟨by rw [hfl] at ho; exact ho, hb⟩, hS5.trans (hb.mono (Nat.le_trans hB0 (Below.size hS5)))⟩)) ?_)
    rintro v W6 ⟨o6, hb6⟩ hS6
    have hne := hK.apart o6 (Nat.le_refl _)
    have hZ := hZ.below hb6 hZ.lt
    have hK := hK.below hb6
    have o6 := o6.more (Nat.le_trans (Nat.succ_le_of_lt hg4) (hb5.size))
    obtain ⟨A5, c5, rfl, _⟩ := own_shape o6.own
    rw [hbl] at o6 hne ⊢
    simp only [lay]
    refine te 12 (.agg #[.int .u8 kind, .slice A5 (6 + m8) c5]) hS6 rfl (by intro _ _; go_simp) ?_
    simp only [lay]
    refine tk_one (by kernel_rfl) (op_build_kd (i := 13) 25 108 (.tmp 123) rfl (by kernel_rfl) rfl Try.underlying25 hd_zero kind (.slice A5 (6 + m8) c5) rfl (fun _ hb => hS6.trans (hb.mono (Nat.le_trans hB0 (Below.size hS6)))) ?_)
    intro g8 W7 hQ8 hge8 hb7 hS7
    have hZ := hZ.below hb7 hZ.lt
    have hK := hK.below hb7
    have o7 := o6.below hb7
    simp only [lay]
    refine tk_one (by kernel_rfl) (op_append_kd (i := 14) _ _ 25 rfl (by kernel_rfl) rfl (g + 1) 108 _ 32 Try.underlying25 hd_full rfl _ ps rfl hK g8 1 (kind, A5, c5, ((l.drop (k + 2)).take (6 + m8))) rfl (hQ8.cell 0 rfl) (by rw [kdV, hbl]; exact hQ8.cell 1 rfl) hkr.1 hkr.2 (by rw [kdV, hbl]; exact o7) (by rw [kdV, hbl]; exact hne) (by omega) (by simp only [maxLen]; omega) (Nat.le_trans (Nat.succ_le_of_lt hZ.lt) (Nat.le_refl _)) (fun _ hb => hS7.trans (hb.mono (Nat.le_succ_of_le hB))) ?_)
    intro v8 W8 hK8 hb8 hS8
    obtain ⟨A8, c8, rfl, _⟩ := hK8.kds
    have hZ8 := hZ.below hb8 (Nat.lt_succ_self g)
    simp only [lay]
    refine te 15 (.pointer (some ⟨g, 0, none⟩)) hS8 rfl (by intro _ _; exact ex_nilc (by exact rfl) (by exact rfl)) ?_
    simp only [lay]
    refine te 16 (.pointer (some ⟨g, 2, none⟩)) hS8 rfl (by intro _ _; exact ex_field 2 41 (by exact rfl) Try.underlying147 (by exact rfl) rfl (by kernel_rfl) (by exact rfl)) ?_
    simp only [lay]
    refine te 17 (.pointer (some ⟨g, 37, none⟩)) hS8 rfl (by intro _ _; exact ex_fieldO 35 0 (by exact rfl) Try.underlying28 (by exact rfl) rfl (by kernel_rfl) (by exact rfl)) ?_
    simp only [lay]
    refine tk_cell (i := 18) (v := .slice A8 (ps ++ [(kind, A5, c5, ((l.drop (k + 2)).take (6 + m8)))]).length c8) (by kernel_rfl) rfl (by kernel_rfl) rfl rfl rfl rfl (by kernel_rfl) hZ8 (show 37 < 44 by decide) rfl (below_setCell hS8 hB 37 _) ?_
    simp only [lay]
    refine wpAnyH_done (by kernel_rfl) ?_ _
    exact hrest A8 c8 A5 c5 g7 g8 _ ⟨hZ8.setCell 37 _, hK8.but6 (But6.setCell g 37 W8 _) (Nat.lt_succ_self g), below_setCell hS8 hB 37 _⟩
   case' Rx1 =>
    intro g7 W5 hQ7 hge7 hsz7 hb5 hS5
    have hZ := hZ.below hb5 hZ.lt
    have hK := hK.below hb5
    have p7 := parts2 hQ7 (Nat.le_refl _) ((y3.below hS5 (Nat.le_refl _)).more (Nat.le_trans hB0 (Below.size hS5))) ((y2.below hS5 (Nat.le_refl _)).more (Nat.le_trans hB0 (Below.size hS5)))
    simp only [lay]
    refine tk_two (by kernel_rfl) (op_val (i := 5) (.slice hA D.hs.length hc2) rfl (by kernel_rfl) (ex_cell (by exact rfl) Try.underlying25 rfl (by exact rfl) (hZ.cell 37 (v := .slice hA D.hs.length hc2) rfl)) hS5 ?Lx2) (op_callx (i := 11) (fun v W => OwnB W (World.heap W5).size v ((l.drop (k + 2)).take (6 + m8)) ∧ Below (World.heap W5).size W5 W) rfl (by kernel_rfl) (by exact ex_call (by exact rfl) Try.func81 (by kernel_rfl) (by kernel_rfl) (by simp only [List.map_toArray, List.map_cons, List.map_nil] <;> rfl)) ((concat_any _ _ [(A3, c3, ((l.drop k).take 8).drop 2), (A2, c2, (l.drop (k + 8)).take m8)] _ p7 hflen).mono (fun e w' ⟨v, he, ho, hb⟩ => ⟨v, he, ⟨by rw [hfl] at ho; exact ho, hb⟩, hS5.trans (hb.mono (Nat.le_trans hB0 (Below.size hS5)))⟩)) ?Rx2)
    case' Lx2 =>
     simp only [lay]
     refine tk_one (by kernel_rfl) (op_callx (i := 11) (fun v W => OwnB W (World.heap W5).size v ((l.drop (k + 2)).take (6 + m8)) ∧ Below (World.heap W5).size W5 W) rfl (by kernel_rfl) (by exact ex_call (by exact rfl) Try.func81 (by kernel_rfl) (by kernel_rfl) (by simp only [List.map_toArray, List.map_cons, List.map_nil] <;> rfl)) ((concat_any _ _ [(A3, c3, ((l.drop k).take 8).drop 2), (A2, c2, (l.drop (k + 8)).take m8)] _ p7 hflen).mono (fun e w' ⟨v, he, ho, hb⟩ => ⟨v, he, ⟨by rw [hfl] at ho; exact ho, hb⟩, hS5.trans (hb.mono (Nat.le_trans hB0 (Below.size hS5)))⟩)) ?_)
     rintro v W6 ⟨o6, hb6⟩ hS6
     have hne := hK.apart o6 (Nat.le_refl _)
     have hZ := hZ.below hb6 hZ.lt
     have hK := hK.below hb6
     have o6 := o6.more (Nat.le_trans (Nat.succ_le_of_lt hg4) (hb5.size))
     obtain ⟨A5, c5, rfl, _⟩ := own_shape o6.own
     rw [hbl] at o6 hne ⊢
     simp only [lay]
     refine te 12 (.agg #[.int .u8 kind, .slice A5 (6 + m8) c5]) hS6 rfl (by intro _ _; go_simp) ?_
     simp only [lay]
     refine tk_one (by kernel_rfl) (op_build_kd (i := 13) 25 108 (.tmp 123) rfl (by kernel_rfl) rfl Try.underlying25 hd_zero kind (.slice A5 (6 + m8) c5) rfl (fun _ hb => hS6.trans (hb.mono (Nat.le_trans hB0 (Below.size hS6)))) ?_)
     intro g8 W7 hQ8 hge8 hb7 hS7
     have hZ := hZ.below hb7 hZ.lt
     have hK := hK.below hb7
     have o7 := o6.below hb7
     simp only [lay]
     refine tk_one (by kernel_rfl) (op_append_kd (i := 14) _ _ 25 rfl (by kernel_rfl) rfl (g + 1) 108 _ 32 Try.underlying25 hd_full rfl _ ps rfl hK g8 1 (kind, A5, c5, ((l.drop (k + 2)).take (6 + m8))) rfl (hQ8.cell 0 rfl) (by rw [kdV, hbl]; exact hQ8.cell 1 rfl) hkr.1 hkr.2 (by rw [kdV, hbl]; exact o7) (by rw [kdV, hbl]; exact hne) (by omega) (by simp only [maxLen]; omega) (Nat.le_trans (Nat.succ_le_of_lt hZ.lt) (Nat.le_refl _)) (fun _ hb => hS7.trans (hb.mono (Nat.le_succ_of_le hB))) ?_)
     intro v8 W8 hK8 hb8 hS8
     obtain ⟨A8, c8, rfl, _⟩ := hK8.kds
     have hZ8 := hZ.below hb8 (Nat.lt_succ_self g)
     simp only [lay]
     refine te 15 (.pointer (some ⟨g, 0, none⟩)) hS8 rfl (by intro _ _; exact ex_nilc (by exact rfl) (by exact rfl)) ?_
     simp only [lay]
     refine te 16 (.pointer (some ⟨g, 2, none⟩)) hS8 rfl (by intro _ _; exact ex_field 2 41 (by exact rfl) Try.underlying147 (by exact rfl) rfl (by kernel_rfl) (by exact rfl)) ?_
     simp only [lay]
     refine te 17 (.pointer (some ⟨g, 37, none⟩)) hS8 rfl (by intro _ _; exact ex_fieldO 35 0 (by exact rfl) Try.underlying28 (by exact rfl) rfl (by kernel_rfl) (by exact rfl)) ?_
     simp only [lay]
     refine tk_cell (i := 18) (v := .slice A8 (ps ++ [(kind, A5, c5, ((l.drop (k + 2)).take (6 + m8)))]).length c8) (by kernel_rfl) rfl (by kernel_rfl) rfl rfl rfl rfl (by kernel_rfl) hZ8 (show 37 < 44 by decide) rfl (below_setCell hS8 hB 37 _) ?_
     simp only [lay]
     refine wpAnyH_done (by kernel_rfl) ?_ _
     exact hrest A8 c8 A5 c5 g7 g8 _ ⟨hZ8.setCell 37 _, hK8.but6 (But6.setCell g 37 W8 _) (Nat.lt_succ_self g), below_setCell hS8 hB 37 _⟩
    case' Rx2 =>
     rintro v W6 ⟨o6, hb6⟩ hS6
     have hne := hK.apart o6 (Nat.le_refl _)
     have hZ := hZ.below hb6 hZ.lt
     have hK := hK.below hb6
     have o6 := o6.more (Nat.le_trans (Nat.succ_le_of_lt hg4) (hb5.size))
     obtain ⟨A5, c5, rfl, _⟩ := own_shape o6.own
     rw [hbl] at o6 hne ⊢
     simp only [lay]
     refine te 12 (.agg #[.int .u8 kind, .slice A5 (6 + m8) c5]) hS6 rfl (by intro _ _; go_simp) ?_
     simp only [lay]
     refine tk_two (by kernel_rfl) (op_val (i := 5) (.slice hA D.hs.length hc2) rfl (by kernel_rfl) (ex_cell (by exact rfl) Try.underlying25 rfl (by exact rfl) (hZ.cell 37 (v := .slice hA D.hs.length hc2) rfl)) hS6 ?Lx3) (op_build_kd (i := 13) 25 108 (.tmp 123) rfl (by kernel_rfl) rfl Try.underlying25 hd_zero kind (.slice A5 (6 + m8) c5) rfl (fun _ hb => hS6.trans (hb.mono (Nat.le_trans hB0 (Below.size hS6)))) ?Rx3)
     case' Lx3 =>
      simp only [lay]
      refine tk_one (by kernel_rfl) (op_build_kd (i := 13) 25 108 (.tmp 123) rfl (by kernel_rfl) rfl Try.underlying25 hd_zero kind (.slice A5 (6 + m8) c5) rfl (fun _ hb => hS6.trans (hb.mono (Nat.le_trans hB0 (Below.size hS6)))) ?_)
      intro g8 W7 hQ8 hge8 hb7 hS7
      have hZ := hZ.below hb7 hZ.lt
      have hK := hK.below hb7
      have o7 := o6.below hb7
      simp only [lay]
      refine tk_one (by kernel_rfl) (op_append_kd (i := 14) _ _ 25 rfl (by kernel_rfl) rfl (g + 1) 108 _ 32 Try.underlying25 hd_full rfl _ ps rfl hK g8 1 (kind, A5, c5, ((l.drop (k + 2)).take (6 + m8))) rfl (hQ8.cell 0 rfl) (by rw [kdV, hbl]; exact hQ8.cell 1 rfl) hkr.1 hkr.2 (by rw [kdV, hbl]; exact o7) (by rw [kdV, hbl]; exact hne) (by omega) (by simp only [maxLen]; omega) (Nat.le_trans (Nat.succ_le_of_lt hZ.lt) (Nat.le_refl _)) (fun _ hb => hS7.trans (hb.mono (Nat.le_succ_of_le hB))) ?_)
      intro v8 W8 hK8 hb8 hS8
      obtain ⟨A8, c8, rfl, _⟩ := hK8.kds
      have hZ8 := hZ.below hb8 (Nat.lt_succ_self g)
      simp only [lay]
      refine te 15 (.pointer (some ⟨g, 0, none⟩)) hS8 rfl (by intro _ _; exact ex_nilc (by exact rfl) (by exact rfl)) ?_
      simp only [lay]
      refine te 16 (.pointer (some ⟨g, 2, none⟩)) hS8 rfl (by intro _ _; exact ex_field 2 41 (by exact rfl) Try.underlying147 (by exact rfl) rfl (by kernel_rfl) (by exact rfl)) ?_
      simp only [lay]
      refine te 17 (.pointer (some ⟨g, 37, none⟩)) hS8 rfl (by intro _ _; exact ex_fieldO 35 0 (by exact rfl) Try.underlying28 (by exact rfl) rfl (by kernel_rfl) (by exact rfl)) ?_
      simp only [lay]
      refine tk_cell (i := 18) (v := .slice A8 (ps ++ [(kind, A5, c5, ((l.drop (k + 2)).take (6 + m8)))]).length c8) (by kernel_rfl) rfl (by kernel_rfl) rfl rfl rfl rfl (by kernel_rfl) hZ8 (show 37 < 44 by decide) rfl (below_setCell hS8 hB 37 _) ?_
      simp only [lay]
      refine wpAnyH_done (by kernel_rfl) ?_ _
      exact hrest A8 c8 A5 c5 g7 g8 _ ⟨hZ8.setCell 37 _, hK8.but6 (But6.setCell g 37 W8 _) (Nat.lt_succ_self g), below_setCell hS8 hB 37 _⟩
     case' Rx3 =>
      intro g8 W7 hQ8 hge8 hb7 hS7
      have hZ := hZ.below hb7 hZ.lt
      have hK := hK.below hb7
      have o7 := o6.below hb7
      simp only [lay]
      refine tk_one (by kernel_rfl) (op_val (i := 5) (.slice hA D.hs.length hc2) rfl (by kernel_rfl) (ex_cell (by exact rfl) Try.underlying25 rfl (by exact rfl) (hZ.cell 37 (v := .slice hA D.hs.length hc2) rfl)) hS7 ?_)
      simp only [lay]
      refine tk_one (by kernel_rfl) (op_append_kd (i := 14) _ _ 25 rfl (by kernel_rfl) rfl (g + 1) 108 _ 32 Try.underlying25 hd_full rfl _ ps rfl hK g8 1 (kind, A5, c5, ((l.drop (k + 2)).take (6 + m8))) rfl (hQ8.cell 0 rfl) (by rw [kdV, hbl]; exact hQ8.cell 1 rfl) hkr.1 hkr.2 (by rw [kdV, hbl]; exact o7) (by rw [kdV, hbl]; exact hne) (by omega) (by simp only [maxLen]; omega) (Nat.le_trans (Nat.succ_le_of_lt hZ.lt) (Nat.le_refl _)) (fun _ hb => hS7.trans (hb.mono (Nat.le_succ_of_le hB))) ?_)
      intro v8 W8 hK8 hb8 hS8
      obtain ⟨A8, c8, rfl, _⟩ := hK8.kds
      have hZ8 := hZ.below hb8 (Nat.lt_succ_self g)
      simp only [lay]
      refine te 15 (.pointer (some ⟨g, 0, none⟩)) hS8 rfl (by intro _ _; exact ex_nilc (by exact rfl) (by exact rfl)) ?_
      simp only [lay]
      refine te 16 (.pointer (some ⟨g, 2, none⟩)) hS8 rfl (by intro _ _; exact ex_field 2 41 (by exact rfl) Try.underlying147 (by exact rfl) rfl (by kernel_rfl) (by exact rfl)) ?_
      simp only [lay]
      refine te 17 (.pointer (some ⟨g, 37, none⟩)) hS8 rfl (by intro _ _; exact ex_fieldO 35 0 (by exact rfl) Try.underlying28 (by exact rfl) rfl (by kernel_rfl) (by exact rfl)) ?_
      simp only [lay]
      refine tk_cell (i := 18) (v := .slice A8 (ps ++ [(kind, A5, c5, ((l.drop (k + 2)).take (6 + m8)))]).length c8) (by kernel_rfl) rfl (by kernel_rfl) rfl rfl rfl rfl (by kernel_rfl) hZ8 (show 37 < 44 by decide) rfl (below_setCell hS8 hB 37 _) ?_
      simp only [lay]
      refine wpAnyH_done (by kernel_rfl) ?_ _
      exact hrest A8 c8 A5 c5 g7 g8 _ ⟨hZ8.setCell 37 _, hK8.but6 (But6.setCell g 37 W8 _) (Nat.lt_succ_self g), below_setCell hS8 hB 37 _⟩
  case h2 =>
   rintro A8 c8 A5 c5 ga gb W9 ⟨hZ9, hK9, hb9⟩
   have e0' := (hb9.cell (p := ⟨b, o, none⟩) hb).trans e0
   go_wp2
   go_ret
   rw [hmH.out, hx0H.out]
   have hlen : (D.hs ++ [(kind, ((l.drop (k + 2)).take (6 + m8)))]).length = (ps ++ [(kind, A5, c5, ((l.drop (k + 2)).take (6 + m8)))]).length := by rw [List.length_append, List.length_append, List.length_singleton, List.length_singleton, ← hkl, kdL_len]
   refine ⟨Byt.mk rfl, ⟨A8, c8, ps ++ [(kind, A5, c5, ((l.drop (k + 2)).take (6 + m8)))], bA, bc⟩, ?_, ?_, ?_, hb9⟩
   ·have e : rcells A N c ((k + 8 + m8 : Nat) : Int) { D with hs := D.hs ++ [(kind, ((l.drop (k + 2)).take (6 + m8)))] } ⟨A8, c8, ps ++ [(kind, A5, c5, ((l.drop (k + 2)).take (6 + m8)))], bA, bc⟩ = (rcells A N c ((k + 8 + m8 : Nat) : Int) D ⟨hA, hc2, ps, bA, bc⟩).setIfInBounds 37 (.slice A8 (ps ++ [(kind, A5, c5, ((l.drop (k + 2)).take (6 + m8)))]).length c8) := by
     rw [← hlen]
     rfl
    rw [e]
    exact hZ9
   ·show OwnK W9 (g + 1) _ (.slice A8 (D.hs ++ [(kind, ((l.drop (k + 2)).take (6 + m8)))]).length c8) _
    rw [hlen]
    exact hK9
   ·show kdL (ps ++ [_]) = D.hs ++ [_]
    rw [kdL_append, hkl]
    rfl
end Go.Proofs.Ytjnphelfloiadaa
