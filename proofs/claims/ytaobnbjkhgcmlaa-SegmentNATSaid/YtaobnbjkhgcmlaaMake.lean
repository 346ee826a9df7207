/-
  make([]byte, l, c): an own row of zeros.
-/
import Derived.Test.YtaobnbjkhgcmlaaMem2
import Derived.Laws.MakeOwn
namespace Go.Proofs.Ytaobnbjkhgcmlaa
open Go.RowKit

theorem madeCells_one (v : Value) (n : Nat) : (madeCells #[v] n).toList = List.replicate n v := by
  refine List.ext_getElem (by simp [madeCells]) fun i h1 h2 => ?_
  simp [madeCells, Nat.mod_one]
theorem OwnB.zeros (w : World) (base l c : Nat) (hb : base ≤ w.heap.size) (hlc : l ≤ c) (hc : c ≤ 140737488355328) : OwnB (w.alloc (.cells (madeCells #[.int .u8 0] c) 5)) base (.slice (some ⟨w.heap.size, 0, none⟩) l c) (List.replicate l 0) := by
  refine ⟨⟨by simp [u8s], .inr ⟨w.heap.size, c, _, ?_, hb, World.alloc_heap_new _ _, ?_, by simp only [maxLen]; omega, by rw [size_madeCells, Nat.mul_one], ?_⟩⟩, fun x hx => ?_⟩
  · rw [List.length_replicate]
  · rw [List.length_replicate]; exact hlc
  · rw [madeCells_one, List.length_replicate, Nat.mul_one, List.take_replicate, Nat.min_eq_left hlc]; simp [u8s]
  · rw [List.mem_replicate] at hx; omega
theorem wpList_makeB {P : Program} {ops : Array Oper} {rest : List Oper} {o : Oper} {a : Act} {w : World} {Q : Exit → Act → World → Prop} (hgd : o.guard = none) (t : TypeId) (x y : Operand) (ho : o.op = .makeSlice t x y)
    (l c : Nat) (hx : a.eval x = .int .i64 (l : Int)) (hy : a.eval y = .int .i64 (c : Int)) (ht : P.underlying t = some (.slice 5)) (hinfo : (P.info? 5).map (fun i => (i.zero, i.size, i.bytes)) = some (some (.int .u8 0), 1, 1))
    (hlc : l ≤ c) (hc : c ≤ 140737488355328) (base : Nat) (hb : base ≤ w.heap.size)
    (h : ∀ w', OwnB w' base (.slice (some ⟨w.heap.size, 0, none⟩) l c) (List.replicate l 0) → Below w.heap.size w w' → w.heap.size < w'.heap.size → wpList P ops Q rest (a.put o.dst (.slice (some ⟨w.heap.size, 0, none⟩) l c)) w') : wpList P ops Q (o :: rest) a w :=
  wpList_plain hgd fun _ hK => by
    obtain ⟨i, hi, hz, hsz, hby⟩ := info_parts hinfo
    have hr := run_make (P := P) w t 5 i (.int .u8 0) ht hi hz .i64 .i64 (l : Int) (c : Int) (by omega) (by omega) (by rw [hby]; omega) (by omega)
    simp only [Int.toNat_natCast, hsz, Nat.mul_one] at hr
    unfold Oper.wp execOp
    simp only [ho, hx, hy, Sem.run_bind, Sem.run_pure, hr, Result.andThen_ok]
    exact hK _ _ (h _ (OwnB.zeros w base l c hb hlc hc) ((Below.refl _ _).alloc (Nat.le_refl _) _) (by simp))
end Go.Proofs.Ytaobnbjkhgcmlaa
