/-
  Rows of pairs in a region that draws its order: a literal of one, an append of one.
-/
import Derived.Test.YtndmmkadceobjaaOpt
import Derived.Test.YtndmmkadceobjaaReg6
namespace Go.Proofs.Ytndmmkadceobjaa
open Go.RowKit

section
variable {P : Program} {md : Region.Mode} {ops : Array Oper} {Q : Exit → Act → World → Prop} {S : World → Prop}
theorem op_build_kd {i : Nat} {o : Oper} {fuel : Nat} {listed : Array Bool} {a : Act} {w : World} (t e : TypeId) (x : Operand) (hi : ops.toList[i]? = some o) (hw : Region.wanted o (yielded ops a.tmps) = true)
    (ho : o.op = .buildSlice t 1 #[(0, x)]) (hu : P.underlying t = some (.slice e))
    (hinfo : (P.info? e).map (fun i => (i.zero, i.size)) = some (some (.agg #[.int .u8 0, .slice none 0 0]), 2)) (k : Int) (u : Value) (hx : a.eval x = .agg #[.int .u8 k, u])
    (hS : ∀ w', Below w.heap.size w w' → S w')
    (h : ∀ g w', Has w' g (.cells #[.int .u8 k, u] e (0, 0)) → w.heap.size ≤ g → Below w.heap.size w w' → S w' → wpAnyH P md ops Q S fuel (listed.setIfInBounds i true) (a.put o.dst (.slice (some ⟨g, 0, none⟩) 1 1)) w') :
    wpOp P ops Q i (fun a' w' => S w' ∧ wpAnyH P md ops Q S fuel (listed.setIfInBounds i true) a' w') a w := by
  have hi : ops[i]? = some o := by simpa using hi
  unfold wpOp
  rw [hi]
  simp only [hw, if_true]
  left
  cases hie : P.info? e with
  | none => rw [hie] at hinfo; simp at hinfo
  | some ie =>
    rw [hie] at hinfo
    simp only [Option.map_some, Option.some.injEq, Prod.mk.injEq] at hinfo
    obtain ⟨hz, hsz⟩ := hinfo
    have hb : Below w.heap.size w (w.alloc (.cells #[.int .u8 k, u] e)) := (Below.refl _ _).alloc (Nat.le_refl _) _
    refine wp_buildSlice t e 1 #[(0, x)] ho #[.int .u8 k, u] ie _ hu hie hz (by rw [hsz]; decide) (by rw [hsz]; decide) ?_ ⟨hS _ hb, h _ _ (Has.newAt rfl) (Nat.le_refl _) hb (hS _ hb)⟩
    have e1 : ((#[(0, x)] : Array (Nat × Operand)).map fun (i, x) => (i, a.eval x)).toList = [(0, .agg #[.int .u8 k, u])] := by simp [hx]
    rw [e1, hsz]
    obtain ⟨r, hr, hrs, hrk⟩ := Great.fill_dense (s := 2) (by decide) [.agg #[.int .u8 k, u]] 0 ((Array.range (1 * 2)).map fun i => (Value.agg #[.int .u8 0, .slice none 0 0]).cells[i % (Value.agg #[.int .u8 0, .slice none 0 0]).cells.size]!) (all1 rfl) (by simp)
    refine hr.trans (congrArg some (Array.ext_getElem? fun i => ?_))
    rw [hrk]
    match i with
    | 0 => rfl
    | 1 => rfl
    | i + 2 =>
      rw [if_neg (by simp), Array.getElem?_eq_none (by simp), Array.getElem?_eq_none (by simp)]
theorem op_append_kd {i : Nat} {o : Oper} {fuel : Nat} {listed : Array Bool} {a : Act} {w : World} (s x : Operand) (t : TypeId) (hi : ops.toList[i]? = some o) (hw : Region.wanted o (yielded ops a.tmps) = true)
    (ho : o.op = .call { callee := .builtin .append, args := #[s, x], argTypes := #[t, t] })
    (base : Nat) (e : TypeId) (z : Value) (bytes : Nat) (ht : P.underlying t = some (.slice e)) (hinfo : (P.info? e).map (fun i => (i.zero, i.size, i.bytes)) = some (some z, 2, bytes)) (hzs : z.cells.size = 2)
    (v : Value) (ps : List Kd) (hs : a.eval s = v) (hown : OwnK w base e v ps)
    (g c : Nat) (p : Kd) (hx : a.eval x = .slice (some ⟨g, 0, none⟩) 1 c) (h0 : w.cell? ⟨g, 0, none⟩ = some (.int .u8 p.1)) (h1 : w.cell? ⟨g, 1, none⟩ = some (kdV p))
    (r0 : 0 ≤ p.1) (r1 : p.1 ≤ 255) (hp : OwnB w base (kdV p) p.2.2.2) (hne : NeB v (kdV p))
    (hbytes : (ps.length + 1) * bytes ≤ 140737488355328) (h63 : ps.length + 1 ≤ maxLen) (hbase : base ≤ w.heap.size)
    (hS : ∀ w', Below base w w' → S w')
    (h : ∀ v' w', OwnK w' base e v' (ps ++ [p]) → Below base w w' → S w' → wpAnyH P md ops Q S fuel (listed.setIfInBounds i true) (a.put o.dst v') w') :
    wpOp P ops Q i (fun a' w' => S w' ∧ wpAnyH P md ops Q S fuel (listed.setIfInBounds i true) a' w') a w := by
  have hi : ops[i]? = some o := by simpa using hi
  unfold wpOp
  rw [hi]
  simp only [hw, if_true]
  left
  exact wp_append_kd w s x t ho base e z bytes ht hinfo hzs v ps hs hown g c p hx h0 h1 r0 r1 hp hne hbytes h63 hbase fun v' w' h2 h3 _ =>
    have hb := below_own hown.own h3 hbase
    ⟨hS _ hb, h v' w' h2 hb (hS _ hb)⟩
/-- an append of bytes: all blocks but the row's own stay -/
theorem op_appS {i : Nat} {o : Oper} {fuel : Nat} {listed : Array Bool} {a : Act} {w : World} (s x : Operand) (t : TypeId) (hi : ops.toList[i]? = some o) (hw : Region.wanted o (yielded ops a.tmps) = true)
    (ho : o.op = .call { callee := .builtin .append, args := #[s, x], argTypes := #[t, t] })
    (ht : P.underlying t = some (.slice 5)) (hinfo : (P.info? 5).map (fun i => (i.zero, i.size, i.bytes)) = some (some (.int .u8 0), 1, 1))
    (base : Nat) (v : Value) (l : List Int) (hs : a.eval s = v) (hown : OwnB w base v l)
    (B : Nat) (A : Option Addr) (m c : Nat) (l' : List Int) (hx : a.eval x = .slice A m c) (hy : By B w A m c l')
    (hbytes : l.length + m ≤ 140737488355328) (hbase : base ≤ w.heap.size)
    (hS : ∀ w', w.grownBy w' v.ownBlock → S w')
    (h : ∀ v' w', OwnB w' base v' (l ++ l') → w.grownBy w' v.ownBlock → (v'.ownBlock = v.ownBlock ∨ v'.ownBlock = some w.heap.size) → S w' → wpAnyH P md ops Q S fuel (listed.setIfInBounds i true) (a.put o.dst v') w') : wpOp P ops Q i (fun a' w' => S w' ∧ wpAnyH P md ops Q S fuel (listed.setIfInBounds i true) a' w') a w := by
  have hi : ops[i]? = some o := by simpa using hi
  unfold wpOp
  rw [hi]
  simp only [hw, if_true]
  left
  exact wp_append_row w s x t ho base _ _ 1 ht hinfo rfl v l.length (u8s l) hs hown.own B A m c (u8s l') hx hy.row (fun u hu => by
      obtain ⟨y, _, rfl⟩ := List.mem_map.1 hu; rfl) (by simp only [maxLen]; omega) (by omega) hbase
      fun v' w' h2 h3 h4 => by
        have ho' : OwnB w' base v' (l ++ l') := ⟨by rw [List.length_append, hy.len, u8s_append]; exact h2, hown.rng.app hy.rng⟩
        exact ⟨hS w' h3, h v' w' ho' h3 h4 (hS w' h3)⟩
end
end Go.Proofs.Ytndmmkadceobjaa
