/-
  Lemmas and walks for the row of TosixLong (part 10 of 37).
-/
import Derived.Test.YtijnifbpbgckgaaTlAB
import Derived.Test.YtijnifbpbgckgaaTlAC
import Derived.Test.YtijnifbpbgckgaaTlAH
import Derived.Test.YtijnifbpbgckgaaTlAI
import Derived.Laws.MakeOwn
import Derived.Lib.SliceRun
set_option linter.unusedVariables false
set_option linter.unusedSimpArgs false
namespace Go.Proofs.Ytijnifbpbgckgaa
open Go.RowKit Go.Shelf

section
variable {P : Program}
end
/-- all blocks but g lie as they lay -/
structure But6 (g : Nat) (w w' : World) : Prop where
  size : w'.heap.size = w.heap.size
  has : ∀ j, j ≠ g → w'.heap[j]? = w.heap[j]?
theorem But6.refl (g : Nat) (w : World) : But6 g w w := ⟨rfl, fun _ _ => rfl⟩
theorem But6.trans {g : Nat} {w w' w'' : World} (h : But6 g w w') (h' : But6 g w' w'') : But6 g w w'' := ⟨h'.size.trans h.size, fun j hj => (h'.has j hj).trans (h.has j hj)⟩
theorem But6.setCell (g k : Nat) (w : World) (v : Value) : But6 g w (w.setCell ⟨g, k, none⟩ v) := ⟨by simp [World.setCell], fun j hj => by simp [World.setCell, Array.getElem?_modify]; intro h; omega⟩
theorem But6.setRow (g : Nat) (w : World) (cs : Array Value) : But6 g w (w.setRow g cs) := ⟨by simp [World.setRow], fun j hj => Go.setRow_other w g j cs hj⟩
theorem But6.drew (g : Nat) (w : World) : But6 g w w.drew := ⟨rfl, fun _ _ => rfl⟩
theorem Has.but6 {w w' : World} {g j : Nat} {o : Obj} (h : Has w j o) (hb : But6 g w w') (hj : j ≠ g) : Has w' j o := (hb.has j hj).trans h
theorem OwnB.but6 {w w' : World} {base g : Nat} {v : Value} {l : List Int} (h : OwnB w base v l) (hb : But6 g w w') (hg : g < base) : OwnB w' base v l := by
  refine ⟨⟨h.own.1, ?_⟩, h.rng⟩
  rcases h.own.2 with h0 | ⟨g', cap, cur, h0, hb', hh, rest⟩
  · exact .inl h0
  · exact .inr ⟨g', cap, cur, h0, hb', Has.but6 hh hb (by omega), rest⟩
theorem OwnK.but6 {w w' : World} {base g : Nat} {e : TypeId} {v : Value} {ps : List Kd} (h : OwnK w base e v ps) (hb : But6 g w w') (hg : g < base) : OwnK w' base e v ps := by
  refine ⟨⟨h.own.1, ?_⟩, fun p hp => ⟨(h.each p hp).1, (h.each p hp).2.1, (h.each p hp).2.2.1.but6 hb hg, (h.each p hp).2.2.2⟩⟩
  rcases h.own.2 with h0 | ⟨g', cap, cur, h0, hb', hh, rest⟩
  · exact .inl h0
  · exact .inr ⟨g', cap, cur, h0, hb', Has.but6 hh hb (by omega), rest⟩
end Go.Proofs.Ytijnifbpbgckgaa
namespace Go.Proofs.Ytijnifbpbgckgaa
open Go.RowKit

theorem madeCells_one (v : Value) (n : Nat) : (madeCells #[v] n).toList = List.replicate n v := by
  refine List.ext_getElem (by simp [madeCells]) fun i h1 h2 => ?_
  simp [madeCells, Nat.mod_one]
theorem OwnB.zeros (w : World) (base l c : Nat) (hb : base ≤ w.heap.size) (hlc : l ≤ c) (hc : c ≤ 140737488355328) : OwnB (w.alloc (.cells (madeCells #[.int .u8 0] c) 5)) base (.slice (some ⟨w.heap.size, 0, none⟩) l c) (List.replicate l 0) := by
  refine ⟨⟨by simp [u8s], .inr ⟨w.heap.size, c, _, ?_, hb, World.alloc_heap_new _ _, ?_, by simp only [maxLen]; omega, by rw [size_madeCells, Nat.mul_one], ?_⟩⟩, fun x hx => ?_⟩
  · rw [List.length_replicate]
  · rw [List.length_replicate]; exact hlc
  · rw [madeCells_one, List.length_replicate, Nat.mul_one, List.take_replicate, Nat.min_eq_left hlc]; simp [u8s]
  · rw [List.mem_replicate] at hx; omega
end Go.Proofs.Ytijnifbpbgckgaa
namespace Go.Proofs.Ytijnifbpbgckgaa
open Go.RowKit Go.Shelf

theorem OwnB.blk {w : World} {g base n : Nat} {l : List Int} (h : Has w g (.cells (u8s l).toArray 5 (0, 0))) (hg : base ≤ g) (hn : n = l.length) (hl : InB l) (hm : l.length ≤ 9223372036854775807) : OwnB w base (.slice (some ⟨g, 0, none⟩) n n) l := by
  subst hn
  exact ⟨⟨by rw [Nat.mul_one]; exact u8s_length l, .inr ⟨g, l.length, _, rfl, hg, h, Nat.le_refl _, by simp only [maxLen]; omega, by simp [u8s_length], by rw [Nat.mul_one, List.take_of_length_le (by simp [u8s_length])]⟩⟩, hl⟩

theorem clone_any (A : Option Addr) (c : Nat) (l : List Int) (w : World) (hy : By w.heap.size w A l.length c l) (hb : l.length ≤ 140737488355328) :
    Calls Try.prog 51 #[.slice A l.length c] w fun e w' => ∃ v, e = .returned v ∧ OwnB w' w.heap.size v l ∧ Below w.heap.size w w' := by
  have q22 : ∀ (w : World) (a : Option Addr) (n c n' c' : Nat), (binOp .eql 25 (.slice a n c) (.slice none n' c')).run Try.prog w = .ok (.bool a.isNone) w := fun w a n c n' c' => Lib.run_eql_slice_nil w _ _ a n c n' c' Try.underlying25
  cases A with
  | none =>
    have h0 : l.length = 0 := by
      rcases Nat.eq_zero_or_pos l.length with h | h
      · exact h
      · obtain ⟨_, _, e, _⟩ := hy.row.at_ h; cases e
    have hl : l = [] := List.eq_nil_of_length_eq_zero h0
    subst hl
    go_enter Try.func51, Try.ntmps51
    go_wp2
    go_ret
    exact ⟨_, rfl, OwnB.nil _ _, Below.refl _ _⟩
  | some ad =>
    go_enter Try.func51, Try.ntmps51
    go_wp2_with (at_builtin; refine wpList_appB _ rfl _ _ _ rfl Try.underlying25 info8 w.heap.size _ _ rfl (OwnB.made w w.heap.size (Nat.le_refl _)) _ (some ad) l.length c l rfl (hy.alloc (Nat.le_refl _) _) (by simpa using hb) (by simp) ?_; intro v' w1 own hg hat; have hbel := below_app (OwnB.made w w.heap.size (Nat.le_refl _)) hg (by simp); obtain ⟨A', c', rfl, _⟩ := own_shape own.own)
    go_ret
    exact ⟨_, rfl, by simpa using own, ((Below.refl _ _).alloc (Nat.le_refl _) _).trans hbel⟩

theorem clone_n (A : Option Addr) (c n : Nat) (l : List Int) (w : World) (hy : By w.heap.size w A n c l) (hb : l.length ≤ 140737488355328) :
    Calls Try.prog 51 #[.slice A n c] w fun e w' => ∃ v, e = .returned v ∧ OwnB w' w.heap.size v l ∧ Below w.heap.size w w' := by
  have := hy.len
  subst this
  exact clone_any A c l w hy hb

end Go.Proofs.Ytijnifbpbgckgaa
