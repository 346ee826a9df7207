/-
  Lemmas and walks for the row of TofourTells (part 10 of 37).
-/
import Derived.Test.YtjnphelfloiadaaFtAB
import Derived.Test.YtjnphelfloiadaaFtAE
import Derived.Test.YtjnphelfloiadaaFtAI
import Derived.Laws.MakeOwn
set_option linter.unusedVariables false
set_option linter.unusedSimpArgs false
namespace Go.Proofs.Ytjnphelfloiadaa
open Go.RowKit Go.Shelf

section
variable {P : Program}
theorem ex_nilc {ρ : Operand → Value} {o : Oper} {x : Operand} {ad : Addr} {w : World} (ho : o.op = .nilCheck x) (hx : ρ x = .pointer (some ad)) : (execOp ρ o).run P w = .ok (.value (.pointer (some ad))) w := by
 unfold execOp
 simp only [ho, hx]
 rfl
theorem ex_fieldO {ρ : Operand → Value} {o : Oper} {s : TypeId} {x : Operand} {k g q : Nat} {fs : Array Field} {f : Field} {w : World} (off m : Nat) (ho : o.op = .fieldAddr s x k) (hs : P.underlying s = some (.struct fs)) (hf : fs[k]? = some f) (hoff : f.offset = off) (hz : (P.info? f.type).map (·.size) = some (m + 1)) (hx : ρ x = .pointer (some ⟨g, q, none⟩)) :
  (execOp ρ o).run P w = .ok (.value (.pointer (some ⟨g, q + off, none⟩))) w := by
 have hsz : (sizeOf f.type).run P w = .ok (m + 1) w := by
  cases hq : P.info? f.type with
  | none => simp [hq] at hz
  | some i => simp [hq] at hz; simp [sizeOf, typeInfo, hq, hz]
 subst hoff
 unfold execOp
 simp [ho, hx, Instr.fieldAt, run_underlying hs, hf, Instr.sureAddr, fieldPlace, hsz, Go.WideShapes.add_plain]
end
/-- all blocks but g lie as they lay -/
structure But6 (g : Nat) (w w' : World) : Prop where
 size : w'.heap.size = w.heap.size
 has : ∀ j, j ≠ g → w'.heap[j]? = w.heap[j]?
theorem But6.refl (g : Nat) (w : World) : But6 g w w := ⟨rfl, fun _ _ => rfl⟩
theorem But6.trans {g : Nat} {w w' w'' : World} (h : But6 g w w') (h' : But6 g w' w'') : But6 g w w'' := ⟨h'.size.trans h.size, fun j hj => (h'.has j hj).trans (h.has j hj)⟩
theorem But6.setCell (g k : Nat) (w : World) (v : Value) : But6 g w (w.setCell ⟨g, k, none⟩ v) := ⟨by simp [World.setCell], fun j hj => by simp [World.setCell, Array.getElem?_modify]; intro h; omega⟩
theorem But6.setRow (g : Nat) (w : World) (cs : Array Value) : But6 g w (w.setRow g cs) := ⟨by simp [World.setRow], fun j hj => Go.setRow_other w g j cs hj⟩
theorem But6.drew (g : Nat) (w : World) : But6 g w w.drew := ⟨rfl, fun _ _ => rfl⟩
theorem Has.but6 {w w' : World} {g j : Nat} {o : Obj} (h : Has w j o) (hb : But6 g w w') (hj : j ≠ g) : Has w' j o := (hb.has j hj).trans h
theorem OwnB.but6 {w w' : World} {base g : Nat} {v : Value} {l : List Int} (h : OwnB w base v l) (hb : But6 g w w') (hg : g < base) : OwnB w' base v l := by
 refine ⟨⟨h.own.1, ?_⟩, h.rng⟩
 rcases h.own.2 with h0 | ⟨g', cap, cur, h0, hb', hh, rest⟩
 ·exact .inl h0
 ·exact .inr ⟨g', cap, cur, h0, hb', Has.but6 hh hb (by omega), rest⟩
theorem OwnK.but6 {w w' : World} {base g : Nat} {e : TypeId} {v : Value} {ps : List Kd} (h : OwnK w base e v ps) (hb : But6 g w w') (hg : g < base) : OwnK w' base e v ps := by
 refine ⟨⟨h.own.1, ?_⟩, fun p hp => ⟨(h.each p hp).1, (h.each p hp).2.1, (h.each p hp).2.2.1.but6 hb hg, (h.each p hp).2.2.2⟩⟩
 rcases h.own.2 with h0 | ⟨g', cap, cur, h0, hb', hh, rest⟩
 ·exact .inl h0
 ·exact .inr ⟨g', cap, cur, h0, hb', Has.but6 hh hb (by omega), rest⟩
def Fault6 (p s : Int) : Ending := .panicked [{ v := .iface 141 (.agg #[.int .i64 p, .int .i64 s]), recovered := false }]

set_option maxRecDepth 100000 in
theorem take6_bad {B g : Nat} {t : TypeId} {Z : Array Value} {w : World} {A : Option Addr} {N c k n : Nat} {q : Int} (hH : Has w g (.cells Z t (0, 0))) (hz0 : Z[0]? = some (.slice A N c)) (hz1 : Z[1]? = some (.int .i64 (k : Int))) (hN : N ≤ 9223372036854775807) (hk : k ≤ N) (hn : N < k + n) (hnn : n ≤ 9223372036854775807) :
  Calls Try.prog 101 #[.pointer (some ⟨g, 0, none⟩), .int .i64 (n : Int), .int .i64 q] w fun e w' => e = Fault6 q 50 ∧ Below B w w' := by
 go_enter Try.func101, Try.ntmps101
 go_wp2
 refine wp_region_held_drew (S := fun W => Has W g (.cells Z t (0, 0)) ∧ Below B w W) (by kernel_rfl) (⟨hH.drew, below_drew _ _⟩) (fun hS => ?_)
 refine te 0 (.pointer (some ⟨g, 0, none⟩)) hS rfl (by intro _ _; exact rfl) ?_
 simp only [lay]
 refine te 1 (.pointer (some ⟨g, 0, none⟩)) hS rfl (by intro _ _; exact ex_nilc (by exact rfl) (by exact rfl)) ?_
 simp only [lay]
 refine te 2 (.pointer (some ⟨g, 0, none⟩)) hS rfl (by intro _ _; exact ex_field 0 0 (by exact rfl) Try.underlying145 (by exact rfl) rfl (by kernel_rfl) (by exact rfl)) ?_
 simp only [lay]
 refine te 3 (.slice A N c) hS rfl (by intro _ h; exact ex_cell (by exact rfl) Try.underlying26 rfl (by exact rfl) (h.1.cell 0 hz0)) ?_
 simp only [lay]
 refine te 4 (.int .i64 (N : Int)) hS rfl (by intro _ _; exact ex_len (by exact rfl) Try.underlying26 (by exact rfl)) ?_
 simp only [lay]
 refine te 5 (.pointer (some ⟨g, 0, none⟩)) hS rfl (by intro _ _; exact rfl) ?_
 simp only [lay]
 refine te 6 (.pointer (some ⟨g, 0, none⟩)) hS rfl (by intro _ _; exact ex_nilc (by exact rfl) (by exact rfl)) ?_
 simp only [lay]
 refine te 7 (.pointer (some ⟨g, 1, none⟩)) hS rfl (by intro _ _; exact ex_field 1 0 (by exact rfl) Try.underlying145 (by exact rfl) rfl (by kernel_rfl) (by exact rfl)) ?_
 simp only [lay]
 refine te 8 (.int .i64 (k : Int)) hS rfl (by intro _ h; exact ex_cell (by exact rfl) Try.underlying3 rfl (by exact rfl) (h.1.cell 1 hz1)) ?_
 simp only [lay]
 refine te 9 (.int .i64 ((N : Int) - (k : Int))) hS rfl (by intro _ _; exact ex_bin (by exact rfl) (by exact rfl) (by exact rfl) (by decide) (b_sub _ _ rfl (by omega) _)) ?_
 simp only [lay]
 refine te 10 (.int .i64 (n : Int)) hS rfl (by intro _ _; exact rfl) ?_
 simp only [lay]
 refine te 11 (.bool true) hS rfl (by intro _ _; exact ex_bin (by exact rfl) (by exact rfl) (by exact rfl) (by decide) (b_lss _ _ (decide_eq_true (by omega)) _)) ?_
 simp only [lay]
 refine wpAnyH_done (by kernel_rfl) ?_ _
 go_wp2
 exact ⟨rfl, rfl, hS.2⟩

set_option maxRecDepth 100000 in
theorem take6_ok {B g : Nat} {t : TypeId} {Z : Array Value} {W0 w : World} {A : Option Addr} {N c k n : Nat} {q : Int} {l : List Int} (hH : Has w g (.cells Z t (0, 0))) (hz0 : Z[0]? = some (.slice A N c)) (hz1 : Z[1]? = some (.int .i64 (k : Int))) (hy : By B W0 A N c l) (hB : B ≤ g) (hn : k + n ≤ N) :
  Calls Try.prog 101 #[.pointer (some ⟨g, 0, none⟩), .int .i64 (n : Int), .int .i64 q] w fun e w' => ∃ A1 c1, e = .returned (.slice A1 n c1) ∧ By B W0 A1 n c1 ((l.drop k).take n) ∧ Has w' g (.cells (Z.setIfInBounds 1 (.int .i64 ((k + n : Nat) : Int))) t (0, 0)) ∧ But6 g w w' ∧ Below B w w' := by
 have hN := Nat.le_trans hy.cap hy.big
 obtain ⟨A2, c2, r2, y2⟩ := hy.mid (P := Try.prog) 26 Try.underlying26 (by kernel_rfl) (k := k) (m := k + n) (by omega) hn
 rw [List.drop_take, Nat.add_sub_cancel_left] at y2
 simp only [Nat.add_sub_cancel_left] at r2
 have hsz : 1 < Z.size := (Array.getElem?_eq_some_iff.1 hz1).1
 have hy0 : (Z.setIfInBounds 1 (.int .i64 ((k + n : Nat) : Int)))[0]? = some (.slice A N c) := by rw [Array.getElem?_setIfInBounds_ne (by decide)]; exact hz0
 have hy1 : (Z.setIfInBounds 1 (.int .i64 ((k + n : Nat) : Int)))[1]? = some (.int .i64 ((k + n : Nat) : Int)) := by rw [Array.getElem?_setIfInBounds_self_of_lt hsz]
 obtain ⟨J, hJ⟩ : ∃ J, ((k + n : Nat) : Int) = J := ⟨_, rfl⟩
 have hpc : ((k : Int) + (n : Int)) = J := by omega
 rw [hJ] at hy0 hy1 r2 ⊢
 have hJH := Lib.hid hJ
 clear hJ
 go_enter Try.func101, Try.ntmps101
 go_wp2
 refine wp_region_held_drew (S := fun W => Has W g (.cells Z t (0, 0)) ∧ But6 g w W ∧ Below B w W) (by kernel_rfl) (⟨hH.drew, But6.drew g w, below_drew _ _⟩) (fun hS => ?_)
 refine te 0 (.pointer (some ⟨g, 0, none⟩)) hS rfl (by intro _ _; exact rfl) ?_
 simp only [lay]
 refine te 1 (.pointer (some ⟨g, 0, none⟩)) hS rfl (by intro _ _; exact ex_nilc (by exact rfl) (by exact rfl)) ?_
 simp only [lay]
 refine te 2 (.pointer (some ⟨g, 0, none⟩)) hS rfl (by intro _ _; exact ex_field 0 0 (by exact rfl) Try.underlying145 (by exact rfl) rfl (by kernel_rfl) (by exact rfl)) ?_
 simp only [lay]
 refine te 3 (.slice A N c) hS rfl (by intro _ h; exact ex_cell (by exact rfl) Try.underlying26 rfl (by exact rfl) (h.1.cell 0 hz0)) ?_
 simp only [lay]
 refine te 4 (.int .i64 (N : Int)) hS rfl (by intro _ _; exact ex_len (by exact rfl) Try.underlying26 (by exact rfl)) ?_
 simp only [lay]
 refine te 5 (.pointer (some ⟨g, 0, none⟩)) hS rfl (by intro _ _; exact rfl) ?_
 simp only [lay]
 refine te 6 (.pointer (some ⟨g, 0, none⟩)) hS rfl (by intro _ _; exact ex_nilc (by exact rfl) (by exact rfl)) ?_
 simp only [lay]
 refine te 7 (.pointer (some ⟨g, 1, none⟩)) hS rfl (by intro _ _; exact ex_field 1 0 (by exact rfl) Try.underlying145 (by exact rfl) rfl (by kernel_rfl) (by exact rfl)) ?_
 simp only [lay]
 refine te 8 (.int .i64 (k : Int)) hS rfl (by intro _ h; exact ex_cell (by exact rfl) Try.underlying3 rfl (by exact rfl) (h.1.cell 1 hz1)) ?_
 simp only [lay]
 refine te 9 (.int .i64 ((N : Int) - (k : Int))) hS rfl (by intro _ _; exact ex_bin (by exact rfl) (by exact rfl) (by exact rfl) (by decide) (b_sub _ _ rfl (by omega) _)) ?_
 simp only [lay]
 refine te 10 (.int .i64 (n : Int)) hS rfl (by intro _ _; exact rfl) ?_
 simp only [lay]
 refine te 11 (.bool false) hS rfl (by intro _ _; exact ex_bin (by exact rfl) (by exact rfl) (by exact rfl) (by decide) (b_lss _ _ (decide_eq_false (by omega)) _)) ?_
 simp only [lay]
 refine wpAnyH_done (by kernel_rfl) ?_ _
 have k1 := hS.1.cell 1 hz1
 have f1 := hS.1.free 1
 have hH2 := (hS.1.setCell 1 (.int .i64 J)).drew
 have hbut := (hS.2.1.trans (But6.setCell g 1 _ (.int .i64 J))).trans (But6.drew g _)
 have hbel := (below_setCell hS.2.2 hB 1 (.int .i64 J)).trans (below_drew B _)
 clear hS
 go_wp2
 refine wp_region_held_drew (S := fun W => Has W g (.cells (Z.setIfInBounds 1 (.int .i64 J)) t (0, 0)) ∧ But6 g w W ∧ Below B w W) (by kernel_rfl) (⟨hH2, hbut, hbel⟩) (fun hS => ?_)
 refine te 0 (.pointer (some ⟨g, 0, none⟩)) hS rfl (by intro _ _; exact rfl) ?_
 simp only [lay]
 refine te 1 (.pointer (some ⟨g, 0, none⟩)) hS rfl (by intro _ _; exact ex_nilc (by exact rfl) (by exact rfl)) ?_
 simp only [lay]
 refine te 2 (.pointer (some ⟨g, 0, none⟩)) hS rfl (by intro _ _; exact ex_field 0 0 (by exact rfl) Try.underlying145 (by exact rfl) rfl (by kernel_rfl) (by exact rfl)) ?_
 simp only [lay]
 refine te 3 (.slice A N c) hS rfl (by intro _ h; exact ex_cell (by exact rfl) Try.underlying26 rfl (by exact rfl) (h.1.cell 0 hy0)) ?_
 simp only [lay]
 refine te 4 (.pointer (some ⟨g, 0, none⟩)) hS rfl (by intro _ _; exact rfl) ?_
 simp only [lay]
 refine te 5 (.pointer (some ⟨g, 0, none⟩)) hS rfl (by intro _ _; exact ex_nilc (by exact rfl) (by exact rfl)) ?_
 simp only [lay]
 refine te 6 (.pointer (some ⟨g, 1, none⟩)) hS rfl (by intro _ _; exact ex_field 1 0 (by exact rfl) Try.underlying145 (by exact rfl) rfl (by kernel_rfl) (by exact rfl)) ?_
 simp only [lay]
 refine te 7 (.int .i64 J) hS rfl (by intro _ h; exact ex_cell (by exact rfl) Try.underlying3 rfl (by exact rfl) (h.1.cell 1 hy1)) ?_
 simp only [lay]
 refine te 8 (.int .i64 (n : Int)) hS rfl (by intro _ _; exact rfl) ?_
 simp only [lay]
 refine te 9 (.int .i64 (k : Int)) hS rfl (by intro _ _; exact ex_bin (by exact rfl) (by exact rfl) (by exact rfl) (by decide) (b_sub _ _ (by have := hJH.out; omega) (by omega) _)) ?_
 simp only [lay]
 refine te 10 (.pointer (some ⟨g, 0, none⟩)) hS rfl (by intro _ _; exact rfl) ?_
 simp only [lay]
 refine te 11 (.pointer (some ⟨g, 0, none⟩)) hS rfl (by intro _ _; exact ex_nilc (by exact rfl) (by exact rfl)) ?_
 simp only [lay]
 refine te 12 (.pointer (some ⟨g, 1, none⟩)) hS rfl (by intro _ _; exact ex_field 1 0 (by exact rfl) Try.underlying145 (by exact rfl) rfl (by kernel_rfl) (by exact rfl)) ?_
 simp only [lay]
 refine te 13 (.int .i64 J) hS rfl (by intro _ h; exact ex_cell (by exact rfl) Try.underlying3 rfl (by exact rfl) (h.1.cell 1 hy1)) ?_
 simp only [lay]
 refine te 14 (.slice A2 n c2) hS rfl (by intro _ _; exact ex_slice (by exact rfl) (by exact rfl) (r2 _)) ?_
 simp only [lay]
 refine te 15 (.slice A2 n c2) hS rfl (by intro _ _; exact rfl) ?_
 simp only [lay]
 refine wpAnyH_done (by kernel_rfl) ?_ _
 go_wp2
 go_ret
 exact ⟨A2, c2, rfl, y2, hS.1, hS.2.1, hS.2.2⟩
end Go.Proofs.Ytjnphelfloiadaa
namespace Go.Proofs.Ytjnphelfloiadaa
open Go.RowKit

theorem madeCells_one (v : Value) (n : Nat) : (madeCells #[v] n).toList = List.replicate n v := by
 refine List.ext_getElem (by simp [madeCells]) fun i h1 h2 => ?_
 simp [madeCells, Nat.mod_one]
theorem OwnB.zeros (w : World) (base l c : Nat) (hb : base ≤ w.heap.size) (hlc : l ≤ c) (hc : c ≤ 140737488355328) : OwnB (w.alloc (.cells (madeCells #[.int .u8 0] c) 5)) base (.slice (some ⟨w.heap.size, 0, none⟩) l c) (List.replicate l 0) := by
 refine ⟨⟨by simp [u8s], .inr ⟨w.heap.size, c, _, ?_, hb, World.alloc_heap_new _ _, ?_, by simp only [maxLen]; omega, by rw [size_madeCells, Nat.mul_one], ?_⟩⟩, fun x hx => ?_⟩
 ·rw [List.length_replicate]
 ·rw [List.length_replicate]; exact hlc
 ·rw [madeCells_one, List.length_replicate, Nat.mul_one, List.take_replicate, Nat.min_eq_left hlc]; simp [u8s]
 ·rw [List.mem_replicate] at hx; omega
end Go.Proofs.Ytjnphelfloiadaa
