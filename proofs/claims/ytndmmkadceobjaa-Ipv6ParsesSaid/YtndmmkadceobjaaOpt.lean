/-
  Rows of pairs: a kind, and bytes. Where they lie, and an append of one onto a row of the call's own.
-/
import Derived.Test.YtndmmkadceobjaaMem3
import Derived.Great.BuildSlice
namespace Go.Proofs.Ytndmmkadceobjaa
open Go.RowKit

/-- an option (a head): its kind, where its bytes lie, their capacity, the bytes -/
abbrev Kd := Int × Option Addr × Nat × List Int
def kdV (p : Kd) : Value := .slice p.2.1 p.2.2.2.length p.2.2.1
def kdC (ps : List Kd) : List Value := ps.flatMap fun p => [.int .u8 p.1, kdV p]
def kdL (ps : List Kd) : List (Int × List Int) := ps.map fun p => (p.1, p.2.2.2)
theorem kdC_len (ps : List Kd) : (kdC ps).length = ps.length * 2 := by
  induction ps with
  | nil => rfl
  | cons p ps ih => simp only [kdC, List.flatMap_cons, List.length_append, List.length_cons, List.length_nil] at ih ⊢; omega
theorem kdC_append (ps qs : List Kd) : kdC (ps ++ qs) = kdC ps ++ kdC qs := by simp [kdC]
theorem kdL_append (ps qs : List Kd) : kdL (ps ++ qs) = kdL ps ++ kdL qs := by simp [kdL]
theorem kdL_len (ps : List Kd) : (kdL ps).length = ps.length := by simp [kdL]
theorem kdC_get {ps : List Kd} {k : Nat} {p : Kd} (h : ps[k]? = some p) : (kdC ps)[k * 2]? = some (.int .u8 p.1) ∧ (kdC ps)[k * 2 + 1]? = some (kdV p) := by
  induction ps generalizing k with
  | nil => simp at h
  | cons q ps ih =>
    have hc : kdC (q :: ps) = .int .u8 q.1 :: kdV q :: kdC ps := rfl
    cases k with
    | zero =>
      rw [List.getElem?_cons_zero, Option.some.injEq] at h
      subst h
      exact ⟨rfl, rfl⟩
    | succ k =>
      rw [List.getElem?_cons_succ] at h
      have := ih h
      rw [hc]
      rw [show (k + 1) * 2 = k * 2 + 1 + 1 from by omega, List.getElem?_cons_succ, List.getElem?_cons_succ, List.getElem?_cons_succ, List.getElem?_cons_succ]
      exact this

theorem By.atO {B : Nat} {w : World} {b off n c k : Nat} {l : List Int} (h : By B w (some ⟨b, off, none⟩) n c l) (hk : k < n) : w.cell? ⟨b, off + k, none⟩ = some (.int .u8 (l.getD k 0)) := by
  obtain ⟨b', off', x, e, _, hx, hc, _⟩ := h.get hk
  injection e with e
  injection e with e1 e2 e3
  subst e1 e2
  rw [hc, List.getD_eq_getElem?_getD, hx]
  rfl
/-- the slice holds these -/
structure Kds (B : Nat) (w : World) (A : Option Addr) (n c : Nat) (ps : List Kd) : Prop where
  len : ps.length = n
  cap : n ≤ c
  big : c ≤ 9223372036854775807
  at_ : ∀ k p, ps[k]? = some p → ∃ b off, A = some ⟨b, off, none⟩ ∧ b < B ∧ w.cell? ⟨b, off + k * 2, none⟩ = some (.int .u8 p.1) ∧ w.cell? ⟨b, off + k * 2 + 1, none⟩ = some (kdV p) ∧ 0 ≤ p.1 ∧ p.1 ≤ 255 ∧ By B w p.2.1 p.2.2.2.length p.2.2.1 p.2.2.2
theorem Kds.below {B B' : Nat} {w w' : World} {A : Option Addr} {n c : Nat} {ps : List Kd} (h : Kds B w A n c ps) (hb : Below B' w w') (hB : B ≤ B') : Kds B w' A n c ps :=
  ⟨h.len, h.cap, h.big, fun k l hk => by
    obtain ⟨b, off, e, hlt, hc, hc2, r1, r2, hy⟩ := h.at_ k l hk
    exact ⟨b, off, e, hlt, (hb.cell (p := ⟨b, off + k * 2, none⟩) (Nat.lt_of_lt_of_le hlt hB)).trans hc, (hb.cell (p := ⟨b, off + k * 2 + 1, none⟩) (Nat.lt_of_lt_of_le hlt hB)).trans hc2, r1, r2, hy.below hb hB⟩⟩
theorem Kds.more {B B' : Nat} {w : World} {A : Option Addr} {n c : Nat} {ps : List Kd} (h : Kds B w A n c ps) (hB : B ≤ B') : Kds B' w A n c ps :=
  ⟨h.len, h.cap, h.big, fun k l hk => by
    obtain ⟨b, off, e, hlt, hc, hc2, r1, r2, hy⟩ := h.at_ k l hk
    exact ⟨b, off, e, Nat.lt_of_lt_of_le hlt hB, hc, hc2, r1, r2, hy.more hB⟩⟩
theorem Kds.nil (B : Nat) (w : World) : Kds B w none 0 0 [] := ⟨rfl, Nat.le_refl _, by decide, fun _ _ hk => by simp at hk⟩

/-- a row of the call's own of these, their bytes own too -/
structure OwnK (w : World) (base : Nat) (e : TypeId) (v : Value) (ps : List Kd) : Prop where
  own : w.ownsRow base e 2 v ps.length (kdC ps)
  each : ∀ p ∈ ps, 0 ≤ p.1 ∧ p.1 ≤ 255 ∧ OwnB w base (kdV p) p.2.2.2 ∧ NeB v (kdV p)
theorem OwnK.nil (w : World) (base : Nat) (e : TypeId) : OwnK w base e (.slice none 0 0) [] := ⟨World.ownsRow_nil w base _ 2, fun _ h => by cases h⟩
theorem OwnK.below {w w' : World} {base : Nat} {e : TypeId} {v : Value} {ps : List Kd} (h : OwnK w base e v ps) (hb : Below w.heap.size w w') : OwnK w' base e v ps :=
  ⟨own_below h.own hb, fun p hp => ⟨(h.each p hp).1, (h.each p hp).2.1, (h.each p hp).2.2.1.below hb, (h.each p hp).2.2.2⟩⟩
theorem OwnK.more {w : World} {base base' : Nat} {e : TypeId} {v : Value} {ps : List Kd} (h : OwnK w base e v ps) (hb : base' ≤ base) : OwnK w base' e v ps := by
  refine ⟨⟨h.own.1, ?_⟩, fun p hp => ⟨(h.each p hp).1, (h.each p hp).2.1, (h.each p hp).2.2.1.more hb, (h.each p hp).2.2.2⟩⟩
  rcases h.own.2 with h0 | ⟨g, cap, cur, h0, hg, rest⟩
  · exact .inl h0
  · exact .inr ⟨g, cap, cur, h0, Nat.le_trans hb hg, rest⟩
/-- a row of the call's own, read -/
theorem OwnK.kds {w : World} {base : Nat} {e : TypeId} {v : Value} {ps : List Kd} (h : OwnK w base e v ps) : ∃ A c, v = .slice A ps.length c ∧ Kds w.heap.size w A ps.length c ps := by
  have hy : ∀ p ∈ ps, By w.heap.size w p.2.1 p.2.2.2.length p.2.2.1 p.2.2.2 := fun p hp => by
    obtain ⟨A, c, he, hr⟩ := (h.each p hp).2.2.1.by_
    unfold kdV at he
    injection he with h1 h2 h3
    rw [h1, h3]; exact hr
  rcases h.own.2 with ⟨rfl, h0⟩ | ⟨g, cap, cur, rfl, _, hh, hnc, h1, hsz, htk⟩
  · have hn : ps = [] := List.eq_nil_of_length_eq_zero h0
    subst hn
    exact ⟨none, 0, rfl, Kds.nil _ _⟩
  · refine ⟨_, cap, rfl, rfl, hnc, h1, fun k p hk => ?_⟩
    have hkl : k < ps.length := (List.getElem?_eq_some_iff.1 hk).1
    obtain ⟨g1, g2⟩ := kdC_get hk
    have hm := List.mem_of_getElem? hk
    have hat : ∀ j v, j < ps.length * 2 → (kdC ps)[j]? = some v → w.cell? ⟨g, 0 + j, none⟩ = some v := fun j v hj hv => by
      rw [← htk, List.getElem?_take, if_pos hj] at hv
      simp only [World.cell?, hh, Option.isSome_none, Bool.false_eq_true, if_false, Nat.zero_add]
      simpa using hv
    exact ⟨g, 0, rfl, (Array.getElem?_eq_some_iff.1 hh).1, hat _ _ (by omega) g1, by have := hat (k * 2 + 1) _ (by omega) g2; rwa [← Nat.add_assoc] at this, (h.each p hm).1, (h.each p hm).2.1, hy p hm⟩

section
variable {P : Program} (w : World)
/-- append of one: it lies in a literal's block -/
theorem wp_append_kd {o : Oper} {a : Act} {K : Act → World → Prop} {Q : Exit → Act → World → Prop} (s x : Operand) (t : TypeId)
    (ho : o.op = .call { callee := .builtin .append, args := #[s, x], argTypes := #[t, t] })
    (base : Nat) (e : TypeId) (z : Value) (bytes : Nat) (ht : P.underlying t = some (.slice e)) (hinfo : (P.info? e).map (fun i => (i.zero, i.size, i.bytes)) = some (some z, 2, bytes)) (hzs : z.cells.size = 2)
    (v : Value) (ps : List Kd) (hs : a.eval s = v) (hown : OwnK w base e v ps)
    (g c : Nat) (p : Kd) (hx : a.eval x = .slice (some ⟨g, 0, none⟩) 1 c) (h0 : w.cell? ⟨g, 0, none⟩ = some (.int .u8 p.1)) (h1 : w.cell? ⟨g, 1, none⟩ = some (kdV p))
    (r0 : 0 ≤ p.1) (r1 : p.1 ≤ 255) (hp : OwnB w base (kdV p) p.2.2.2) (hne : NeB v (kdV p))
    (hbytes : (ps.length + 1) * bytes ≤ 140737488355328) (h63 : ps.length + 1 ≤ maxLen) (hbase : base ≤ w.heap.size)
    (h : ∀ v' w', OwnK w' base e v' (ps ++ [p]) → w.grownBy w' v.ownBlock → (v'.ownBlock = v.ownBlock ∨ v'.ownBlock = some w.heap.size) → K (a.put o.dst v') w') : o.wp P a w K Q := by
  obtain ⟨i, hi, hz, hsize, hby⟩ := info_parts hinfo
  obtain ⟨v', w', hrun, h2, h3, _, h5⟩ := run_append_own_at (P := P) w base t o.type e i z 2 bytes ht hi hz hsize hby hzs (by decide) v ps.length (kdC ps) hown.own ⟨g, 0, none⟩ 1 c [.int .u8 p.1, kdV p] rfl (fun j u hu => by
    rw [Go.WideShapes.add_plain]
    match j, hu with
    | 0, hu => injection hu with hu; subst hu; exact h0
    | 1, hu => injection hu with hu; subst hu; exact h1) (all2 rfl rfl) h63 hbytes hbase
  unfold Oper.wp execOp
  simp only [ho, resolve, invoke, builtin, Sem.run_bind, Sem.run_pure, Result.andThen_ok, List.map_toArray, List.map_cons, List.map_nil, hs, hx, hrun]
  have keep : ∀ q : Kd, OwnB w base (kdV q) q.2.2.2 → NeB v (kdV q) → OwnB w' base (kdV q) q.2.2.2 ∧ NeB v' (kdV q) := fun q hq hn =>
    ⟨⟨own_keep2 hq.own hn h3, hq.rng⟩, ne_app hq.own hn (Nat.le_refl _) h5⟩
  refine h v' w' ⟨by rw [List.length_append, kdC_append]; exact h2, fun q hq => ?_⟩ h3 h5
  rcases List.mem_append.1 hq with hq | hq
  · obtain ⟨e1, e2, e3, e4⟩ := hown.each q hq
    exact ⟨e1, e2, keep q e3 e4⟩
  · rw [List.mem_singleton] at hq
    subst hq
    exact ⟨r0, r1, keep q hp hne⟩
/-- a slice literal of one -/
theorem wpList_build_kd {ops : Array Oper} {rest : List Oper} {o : Oper} {a : Act} {Q : Exit → Act → World → Prop} (hg : o.guard = none) (t e : TypeId) (x : Operand) (ho : o.op = .buildSlice t 1 #[(0, x)]) (hu : P.underlying t = some (.slice e))
    (hinfo : (P.info? e).map (fun i => (i.zero, i.size)) = some (some (.agg #[.int .u8 0, .slice none 0 0]), 2)) (k : Int) (u : Value) (hx : a.eval x = .agg #[.int .u8 k, u])
    (h : wpList P ops Q rest (a.put o.dst (.slice (some ⟨w.heap.size, 0, none⟩) 1 1)) (w.alloc (.cells #[.int .u8 k, u] e))) : wpList P ops Q (o :: rest) a w := by
  cases hie : P.info? e with
  | none => rw [hie] at hinfo; simp at hinfo
  | some ie =>
    rw [hie] at hinfo
    simp only [Option.map_some, Option.some.injEq, Prod.mk.injEq] at hinfo
    obtain ⟨hz, hsz⟩ := hinfo
    refine wpList_buildSlice hg t e 1 #[(0, x)] ho #[.int .u8 k, u] ie _ hu hie hz (by rw [hsz]; decide) (by rw [hsz]; decide) ?_ h
    have e1 : ((#[(0, x)] : Array (Nat × Operand)).map fun (i, x) => (i, a.eval x)).toList = [(0, .agg #[.int .u8 k, u])] := by simp [hx]
    rw [e1, hsz]
    obtain ⟨r, hr, hrs, hrk⟩ := Great.fill_dense (s := 2) (by decide) [.agg #[.int .u8 k, u]] 0 ((Array.range (1 * 2)).map fun i => (Value.agg #[.int .u8 0, .slice none 0 0]).cells[i % (Value.agg #[.int .u8 0, .slice none 0 0]).cells.size]!) (all1 rfl) (by simp)
    refine hr.trans (congrArg some (Array.ext_getElem? fun i => ?_))
    rw [hrk]
    match i with
    | 0 => rfl
    | 1 => rfl
    | i + 2 =>
      rw [if_neg (by simp), Array.getElem?_eq_none (by simp), Array.getElem?_eq_none (by simp)]
theorem wpList_append_kd {ops : Array Oper} {rest : List Oper} {o : Oper} {a : Act} {Q : Exit → Act → World → Prop} (hgd : o.guard = none) (s x : Operand) (t : TypeId)
    (ho : o.op = .call { callee := .builtin .append, args := #[s, x], argTypes := #[t, t] })
    (base : Nat) (e : TypeId) (z : Value) (bytes : Nat) (ht : P.underlying t = some (.slice e)) (hinfo : (P.info? e).map (fun i => (i.zero, i.size, i.bytes)) = some (some z, 2, bytes)) (hzs : z.cells.size = 2)
    (v : Value) (ps : List Kd) (hs : a.eval s = v) (hown : OwnK w base e v ps)
    (g c : Nat) (p : Kd) (hx : a.eval x = .slice (some ⟨g, 0, none⟩) 1 c) (h0 : w.cell? ⟨g, 0, none⟩ = some (.int .u8 p.1)) (h1 : w.cell? ⟨g, 1, none⟩ = some (kdV p))
    (r0 : 0 ≤ p.1) (r1 : p.1 ≤ 255) (hp : OwnB w base (kdV p) p.2.2.2) (hne : NeB v (kdV p))
    (hbytes : (ps.length + 1) * bytes ≤ 140737488355328) (h63 : ps.length + 1 ≤ maxLen) (hbase : base ≤ w.heap.size)
    (h : ∀ v' w', OwnK w' base e v' (ps ++ [p]) → w.grownBy w' v.ownBlock → (v'.ownBlock = v.ownBlock ∨ v'.ownBlock = some w.heap.size) → wpList P ops Q rest (a.put o.dst v') w') : wpList P ops Q (o :: rest) a w :=
  wpList_plain hgd fun _ hK => wp_append_kd w s x t ho base e z bytes ht hinfo hzs v ps hs hown g c p hx h0 h1 r0 r1 hp hne hbytes h63 hbase fun v' w' h2 h3 h4 => hK _ _ (h v' w' h2 h3 h4)
end
/-- a fresh row of bytes lies apart from a row that was there -/
theorem OwnK.apart {w w1 : World} {base base' : Nat} {e : TypeId} {v v2 : Value} {ps : List Kd} {l : List Int} (h : OwnK w base e v ps) (h2 : OwnB w1 base' v2 l) (hb : w.heap.size ≤ base') : NeB v v2 := ne_new h.own h2.own hb
end Go.Proofs.Ytndmmkadceobjaa
