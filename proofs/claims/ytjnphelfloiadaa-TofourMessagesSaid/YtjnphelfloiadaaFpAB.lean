/-
  Lemmas and walks for the row of TofourPackets,TofourMessages,TofourInside (part 2 of 42).
-/
import Derived.Test.YtjnphelfloiadaaFpAA
import Derived.Test.YtjnphelfloiadaaRows
import Derived.WalkKit
import Derived.ProofKit
import Derived.OpenShut
import Derived.ShutString
import Derived.ChangeOld
import Derived.Below
import Derived.Deep.Slices
import Derived.Laws.Tables
import Derived.Laws.CopyOwn
import Derived.Great.BuildSlice
set_option linter.unusedVariables false
set_option linter.unusedSimpArgs false
namespace Go.Proofs.Ytjnphelfloiadaa
open Go.ChangeShapes Go.WideShapes Go.ChangeAt Go.RowKit

section
variable {H : Type} {enc : TypeId × Value → H} {P : Program} {W : World} {base : Nat} {spare : Nat → Bool} {held : Bool}

theorem cell_bytes {t e : TypeId} {fuel : Nat} {cs : List Value} {x : DataW H × List MemPlace} (ht : P.underlying t = some (.slice e)) (he : P.underlying e = some (.int .u8)) (hc : P.cellsOf e = 1)
  (h : DataW.trod enc P W base spare held fuel t cs = some x) : ∃ A c l, cs = [.slice A (List.length l) c] ∧ By W.heap.size W A l.length c l := by
 rcases open_ints ht he hc h with ⟨rfl, _⟩ | ⟨a, len, cap, zs, rfl, _, hl, hm, hz, _, hcell, hwz⟩
 ·exact ⟨none, 0, [], rfl, By.nil _ _ _ (by omega)⟩
 ·have hzl : len ≤ zs.length := by rw [hz]; split <;> omega
  have hlen : (zs.take len).length = len := by rw [List.length_take]; omega
  refine ⟨some a, cap, zs.take len, by rw [hlen], ?_⟩
  rw [hlen]
  refine ⟨⟨by rw [u8s_length, hlen], hl, fun hp => ?_⟩, fun y hy => bounds_u8 (hwz y (List.mem_of_mem_take hy)), hm⟩
  obtain ⟨b, off, rfl, hc'⟩ := ints_at hcell (by omega)
  refine ⟨b, off, rfl, World.block_lt_of_cell? W _ (hc' 0 (by omega)), fun j hj => ?_⟩
  rw [hc' j (by omega)]
  have hj' : j < zs.length := by omega
  simp [u8s, List.getElem?_take, hj, List.getElem?_eq_getElem hj']

theorem open_bytes {t e : TypeId} {v : Value} {d : DataW H} {p : List MemPlace} {r : Reach} {b0 : Nat} (ht : P.underlying t = some (.slice e)) (he : P.underlying e = some (.int .u8)) (hc : P.cellsOf e = 1)
  (hv : Value.okWide P W r b0 t v) (h : DataW.Trod enc P W base spare held t v d p) : ∃ A c l, v = .slice A (List.length l) c ∧ By W.heap.size W A l.length c l := by
 obtain ⟨a, len, cap, rfl⟩ := okWide_slice ht hv
 obtain ⟨fuel, hf⟩ := h
 obtain ⟨A, c, l, hcs, hy⟩ := cell_bytes ht he hc hf
 simp [Value.cells] at hcs
 obtain ⟨rfl, rfl, rfl⟩ := hcs
 exact ⟨_, _, l, rfl, hy⟩

theorem trod_u8s {t e : TypeId} {n fuel : Nat} {cs : List Value} {x : DataW H × List MemPlace} (ht : P.underlying t = some (.array n e)) (he : P.underlying e = some (.int .u8)) (hc : P.cellsOf e = 1) (hc2 : P.cellsOf t = n)
  (h : DataW.trod enc P W base spare held fuel t cs = some x) : ∃ l, cs = u8s l ∧ List.length l = n ∧ InB l := by
 obtain ⟨xs, m, _, _, hlen, hxl, hi⟩ := DataW.trod_array ht h
 have hel : ∀ i : Nat, i < n → ∃ y : Int, cs[i]? = some (.int .u8 y) ∧ 0 ≤ y ∧ y ≤ 255 := fun i hin => by
  have h1 := hi i hin
  rw [List.getElem?_eq_getElem (by omega)] at h1
  obtain ⟨y, hy, _, hwf⟩ := DataW.trod_int he h1
  rw [hc, Nat.mul_one] at hy
  refine ⟨y, ?_, bounds_u8 hwf⟩
  have hd : cs.drop i = cs[i]'(by omega) :: cs.drop (i + 1) := List.drop_eq_getElem_cons (by omega)
  rw [hd, List.take_succ_cons, List.take_zero] at hy
  injection hy with hy _
  rw [List.getElem?_eq_getElem (by omega), hy]
 have key : ∀ cs : List Value, (∀ i, i < cs.length → ∃ y : Int, cs[i]? = some (.int .u8 y) ∧ 0 ≤ y ∧ y ≤ 255) → ∃ l, cs = u8s l ∧ InB l := fun cs => by
  induction cs with
  | nil => exact fun _ => ⟨[], rfl, InB.nil⟩
  | cons c cs ih =>
   intro h
   obtain ⟨y, hy, hy0⟩ := h 0 (by simp)
   obtain ⟨l, rfl, hl⟩ := ih (fun i hi => by
    obtain ⟨z, hz, hz0⟩ := h (i + 1) (by simp; omega)
    exact ⟨z, by simpa using hz, hz0⟩)
   refine ⟨y :: l, by simp at hy; simp [u8s, hy], fun z hz => ?_⟩
   rcases List.mem_cons.1 hz with rfl | hz
   ·exact hy0
   ·exact hl z hz
 obtain ⟨l, rfl, hl⟩ := key cs (fun i hi => hel i (by omega))
 exact ⟨l, rfl, by rw [← hc2, ← hlen, u8s_length], hl⟩

end
theorem own_ : ownKnob Try.prog.godebug = none := by kernel_rfl
theorem laidOut_ : laidOutB Try.prog = true := by kernel_rfl
end Go.Proofs.Ytjnphelfloiadaa
namespace Go.Proofs.Ytjnphelfloiadaa
open Go.RowKit

theorem Has.setRow_same {w : World} {g : Nat} {cs cs' : Array Value} {t : TypeId} {fz : Nat × Nat} (h : Has w g (.cells cs t fz)) : Has (w.setRow g cs') g (.cells cs' t fz) := Go.setRow_heap w g cs cs' t fz h
theorem Has.setRow_other {w : World} {g k : Nat} {cs' : Array Value} {o : Obj} (h : Has w k o) (hk : k ≠ g) : Has (w.setRow g cs') k o := (Go.setRow_other w g k cs' hk).trans h

theorem Has.setCell {w : World} {g : Nat} {cs : Array Value} {t : TypeId} {fz : Nat × Nat} (h : Has w g (.cells cs t fz)) (k : Nat) (v : Value) : Has (w.setCell ⟨g, k, none⟩ v) g (.cells (cs.setIfInBounds k v) t fz) := by
 have hlt := h.lt
 have hv : w.heap[g] = .cells cs t fz := (Array.getElem?_eq_some_iff.1 h).2
 unfold Has World.setCell
 rw [Array.getElem?_eq_getElem (by simpa using hlt), Array.getElem_modify]
 simp [hv]
theorem Has.setCell_other {w : World} {g j : Nat} {o : Obj} (h : Has w j o) (hj : j ≠ g) (k : Nat) (v : Value) : Has (w.setCell ⟨g, k, none⟩ v) j o := by
 unfold Has World.setCell
 simpa [Array.getElem?_modify, Ne.symm hj] using show w.heap[j]? = some o from h
theorem below_setCell {B g : Nat} {w0 w : World} (hb : Below B w0 w) (hg : B ≤ g) (k : Nat) (v : Value) : Below B w0 (w.setCell ⟨g, k, none⟩ v) :=
 hb.trans ⟨rfl, rfl, rfl, by simp [World.setCell], fun j hj => by simp [World.setCell, Array.getElem?_modify]; intro h; omega⟩
theorem OwnB.setCell {w : World} {base g : Nat} {v : Value} {l : List Int} (h : OwnB w base v l) (hg : g < base) (k : Nat) (u : Value) : OwnB (w.setCell ⟨g, k, none⟩ u) base v l := by
 refine ⟨⟨h.own.1, ?_⟩, h.rng⟩
 rcases h.own.2 with h0 | ⟨g', cap, cur, h0, hb, hh, rest⟩
 ·exact .inl h0
 ·exact .inr ⟨g', cap, cur, h0, hb, Has.setCell_other hh (by omega) k u, rest⟩
theorem below_drew (B : Nat) (w : World) : Below B w w.drew := ⟨rfl, rfl, rfl, Nat.le_refl _, fun _ _ => rfl⟩

theorem wpList_store_has {P : Program} {ops : Array Oper} {rest : List Oper} {o : Oper} {a : Act} {w : World} {Q : Exit → Act → World → Prop} (hgd : o.guard = none) (ty : TypeId) (x y : Operand) (ho : o.op = .store ty x y)
  (g : Nat) (cells : Array Value) (hx : a.eval x = .pointer (some ⟨g, 0, none⟩)) (hy : a.eval y = .agg cells)
  (t : TypeId) (old : Array Value) (hg : Has w g (.cells old t (0, 0))) (hi : (P.info? ty).map (·.size) = some cells.size)
  (hold : old.size = cells.size) (h1 : cells.all (·.oneCell') = true)
  (h : ∀ w', Has w' g (.cells cells t (0, 0)) → Below g w w' → wpList P ops Q rest (a.put o.dst undef) w') : wpList P ops Q (o :: rest) a w :=
 wpList_store_row hgd ty x y ho g cells hx hy t old hg hi hold h1 (h _ hg.setRow_same (below_setRow (Below.refl _ _) (Nat.le_refl _) _))
theorem OwnB.byte {w : World} {base n c : Nat} {A : Option Addr} {l : List Int} (h : OwnB w base (.slice A n c) l) (hn : n = l.length) {i : Nat} (hi : i < n) :
  ∃ g, A = some ⟨g, 0, none⟩ ∧ base ≤ g ∧ g < w.heap.size ∧ w.cell? ⟨g, i, none⟩ = some (.int .u8 (l.getD i 0)) ∧ w.frozen? ⟨g, i, none⟩ = false ∧
   ∀ y, 0 ≤ y ∧ y ≤ 255 → OwnB (w.setCell ⟨g, i, none⟩ (.int .u8 y)) base (.slice A n c) (l.set i y) := by
 subst hn
 rcases h.own.2 with ⟨h0, h1⟩ | ⟨g, cap, cur, h0, hb, hh, hnc, hmx, hsz, htk⟩
 ·injection h0 with e1 e2 e3
  omega
 ·injection h0 with e1 e2 e3
  subst e1 e3
  rw [Nat.mul_one] at hsz htk
  have hcur : cur[i]? = some (.int .u8 (l.getD i 0)) := by
   have h1 : (cur.toList.take l.length)[i]? = (u8s l)[i]? := by rw [htk]
   rw [List.getElem?_take, if_pos hi] at h1
   rw [← Array.getElem?_toList, h1]
   simp [u8s, List.getD, List.getElem?_eq_getElem hi]
  have hH : Has w g (.cells cur 5 (0, 0)) := hh
  refine ⟨g, rfl, hb, hH.lt, hH.cell i hcur, hH.free i, fun y hy => ⟨⟨?_, .inr ⟨g, c, cur.setIfInBounds i (.int .u8 y), ?_, hb, hH.setCell i (.int .u8 y), ?_, hmx, ?_, ?_⟩⟩, ?_⟩⟩
  ·rw [u8s_length, Nat.mul_one]
  ·rw [List.length_set]
  ·rw [List.length_set]; exact hnc
  ·rw [Nat.mul_one]; simpa using hsz
  ·rw [List.length_set, Nat.mul_one, Array.toList_setIfInBounds, List.take_set, htk]
   simp [u8s, List.map_set]
  ·intro x hx
   rcases List.mem_or_eq_of_mem_set hx with h1 | h1
   ·exact h.rng x h1
   ·rw [h1]; exact hy
abbrev Kd := Int × Option Addr × Nat × List Int
def kdV (p : Kd) : Value := .slice p.2.1 p.2.2.2.length p.2.2.1
def kdC (ps : List Kd) : List Value := ps.flatMap fun p => [.int .u8 p.1, kdV p]
def kdL (ps : List Kd) : List (Int × List Int) := ps.map fun p => (p.1, p.2.2.2)
theorem kdC_append (ps qs : List Kd) : kdC (ps ++ qs) = kdC ps ++ kdC qs := by simp [kdC]
theorem kdL_append (ps qs : List Kd) : kdL (ps ++ qs) = kdL ps ++ kdL qs := by simp [kdL]
theorem kdL_len (ps : List Kd) : (kdL ps).length = ps.length := by simp [kdL]
theorem kdC_get {ps : List Kd} {k : Nat} {p : Kd} (h : ps[k]? = some p) : (kdC ps)[k * 2]? = some (.int .u8 p.1) ∧ (kdC ps)[k * 2 + 1]? = some (kdV p) := by
 induction ps generalizing k with
 | nil => simp at h
 | cons q ps ih =>
  have hc : kdC (q :: ps) = .int .u8 q.1 :: kdV q :: kdC ps := rfl
  cases k with
  | zero =>
   rw [List.getElem?_cons_zero, Option.some.injEq] at h
   subst h
   exact ⟨rfl, rfl⟩
  | succ k =>
   rw [List.getElem?_cons_succ] at h
   have := ih h
   rw [hc]
   rw [show (k + 1) * 2 = k * 2 + 1 + 1 from by omega, List.getElem?_cons_succ, List.getElem?_cons_succ, List.getElem?_cons_succ, List.getElem?_cons_succ]
   exact this

theorem By.atO {B : Nat} {w : World} {b off n c k : Nat} {l : List Int} (h : By B w (some ⟨b, off, none⟩) n c l) (hk : k < n) : w.cell? ⟨b, off + k, none⟩ = some (.int .u8 (l.getD k 0)) := by
 obtain ⟨b', off', x, e, _, hx, hc, _⟩ := h.get hk
 injection e with e
 injection e with e1 e2 e3
 subst e1 e2
 rw [hc, List.getD_eq_getElem?_getD, hx]
 rfl
structure Kds (B : Nat) (w : World) (A : Option Addr) (n c : Nat) (ps : List Kd) : Prop where
 len : ps.length = n
 cap : n ≤ c
 big : c ≤ 9223372036854775807
 at_ : ∀ k p, ps[k]? = some p → ∃ b off, A = some ⟨b, off, none⟩ ∧ b < B ∧ w.cell? ⟨b, off + k * 2, none⟩ = some (.int .u8 p.1) ∧ w.cell? ⟨b, off + k * 2 + 1, none⟩ = some (kdV p) ∧ 0 ≤ p.1 ∧ p.1 ≤ 255 ∧ By B w p.2.1 p.2.2.2.length p.2.2.1 p.2.2.2
theorem Kds.below {B B' : Nat} {w w' : World} {A : Option Addr} {n c : Nat} {ps : List Kd} (h : Kds B w A n c ps) (hb : Below B' w w') (hB : B ≤ B') : Kds B w' A n c ps :=
 ⟨h.len, h.cap, h.big, fun k l hk => by
  obtain ⟨b, off, e, hlt, hc, hc2, r1, r2, hy⟩ := h.at_ k l hk
  exact ⟨b, off, e, hlt, (hb.cell (p := ⟨b, off + k * 2, none⟩) (Nat.lt_of_lt_of_le hlt hB)).trans hc, (hb.cell (p := ⟨b, off + k * 2 + 1, none⟩) (Nat.lt_of_lt_of_le hlt hB)).trans hc2, r1, r2, hy.below hb hB⟩⟩
theorem Kds.more {B B' : Nat} {w : World} {A : Option Addr} {n c : Nat} {ps : List Kd} (h : Kds B w A n c ps) (hB : B ≤ B') : Kds B' w A n c ps :=
 ⟨h.len, h.cap, h.big, fun k l hk => by
  obtain ⟨b, off, e, hlt, hc, hc2, r1, r2, hy⟩ := h.at_ k l hk
  exact ⟨b, off, e, Nat.lt_of_lt_of_le hlt hB, hc, hc2, r1, r2, hy.more hB⟩⟩
theorem Kds.nil (B : Nat) (w : World) : Kds B w none 0 0 [] := ⟨rfl, Nat.le_refl _, by decide, fun _ _ hk => by simp at hk⟩

structure OwnK (w : World) (base : Nat) (e : TypeId) (v : Value) (ps : List Kd) : Prop where
 own : w.ownsRow base e 2 v ps.length (kdC ps)
 each : ∀ p ∈ ps, 0 ≤ p.1 ∧ p.1 ≤ 255 ∧ OwnB w base (kdV p) p.2.2.2 ∧ NeB v (kdV p)
theorem OwnK.nil (w : World) (base : Nat) (e : TypeId) : OwnK w base e (.slice none 0 0) [] := ⟨World.ownsRow_nil w base _ 2, fun _ h => by cases h⟩
theorem OwnK.below {w w' : World} {base : Nat} {e : TypeId} {v : Value} {ps : List Kd} (h : OwnK w base e v ps) (hb : Below w.heap.size w w') : OwnK w' base e v ps :=
 ⟨own_below h.own hb, fun p hp => ⟨(h.each p hp).1, (h.each p hp).2.1, (h.each p hp).2.2.1.below hb, (h.each p hp).2.2.2⟩⟩
theorem OwnK.more {w : World} {base base' : Nat} {e : TypeId} {v : Value} {ps : List Kd} (h : OwnK w base e v ps) (hb : base' ≤ base) : OwnK w base' e v ps := by
 refine ⟨⟨h.own.1, ?_⟩, fun p hp => ⟨(h.each p hp).1, (h.each p hp).2.1, (h.each p hp).2.2.1.more hb, (h.each p hp).2.2.2⟩⟩
 rcases h.own.2 with h0 | ⟨g, cap, cur, h0, hg, rest⟩
 ·exact .inl h0
 ·exact .inr ⟨g, cap, cur, h0, Nat.le_trans hb hg, rest⟩
theorem OwnK.kds {w : World} {base : Nat} {e : TypeId} {v : Value} {ps : List Kd} (h : OwnK w base e v ps) : ∃ A c, v = .slice A ps.length c ∧ Kds w.heap.size w A ps.length c ps := by
 have hy : ∀ p ∈ ps, By w.heap.size w p.2.1 p.2.2.2.length p.2.2.1 p.2.2.2 := fun p hp => by
  obtain ⟨A, c, he, hr⟩ := (h.each p hp).2.2.1.by_
  unfold kdV at he
  injection he with h1 h2 h3
  rw [h1, h3]; exact hr
 rcases h.own.2 with ⟨rfl, h0⟩ | ⟨g, cap, cur, rfl, _, hh, hnc, h1, hsz, htk⟩
 ·have hn : ps = [] := List.eq_nil_of_length_eq_zero h0
  subst hn
  exact ⟨none, 0, rfl, Kds.nil _ _⟩
 ·refine ⟨_, cap, rfl, rfl, hnc, h1, fun k p hk => ?_⟩
  have hkl : k < ps.length := (List.getElem?_eq_some_iff.1 hk).1
  obtain ⟨g1, g2⟩ := kdC_get hk
  have hm := List.mem_of_getElem? hk
  have hat : ∀ j v, j < ps.length * 2 → (kdC ps)[j]? = some v → w.cell? ⟨g, 0 + j, none⟩ = some v := fun j v hj hv => by
   rw [← htk, List.getElem?_take, if_pos hj] at hv
   simp only [World.cell?, hh, Option.isSome_none, Bool.false_eq_true, if_false, Nat.zero_add]
   simpa using hv
  exact ⟨g, 0, rfl, (Array.getElem?_eq_some_iff.1 hh).1, hat _ _ (by omega) g1, by have := hat (k * 2 + 1) _ (by omega) g2; rwa [← Nat.add_assoc] at this, (h.each p hm).1, (h.each p hm).2.1, hy p hm⟩

section
variable {P : Program} (w : World)
theorem wp_append_kd {o : Oper} {a : Act} {K : Act → World → Prop} {Q : Exit → Act → World → Prop} (s x : Operand) (t : TypeId)
  (ho : o.op = .call { callee := .builtin .append, args := #[s, x], argTypes := #[t, t] })
  (base : Nat) (e : TypeId) (z : Value) (bytes : Nat) (ht : P.underlying t = some (.slice e)) (hinfo : (P.info? e).map (fun i => (i.zero, i.size, i.bytes)) = some (some z, 2, bytes)) (hzs : z.cells.size = 2)
  (v : Value) (ps : List Kd) (hs : a.eval s = v) (hown : OwnK w base e v ps)
  (g c : Nat) (p : Kd) (hx : a.eval x = .slice (some ⟨g, 0, none⟩) 1 c) (h0 : w.cell? ⟨g, 0, none⟩ = some (.int .u8 p.1)) (h1 : w.cell? ⟨g, 1, none⟩ = some (kdV p))
  (r0 : 0 ≤ p.1) (r1 : p.1 ≤ 255) (hp : OwnB w base (kdV p) p.2.2.2) (hne : NeB v (kdV p))
  (hbytes : (ps.length + 1) * bytes ≤ 140737488355328) (h63 : ps.length + 1 ≤ maxLen) (hbase : base ≤ w.heap.size)
  (h : ∀ v' w', OwnK w' base e v' (ps ++ [p]) → w.grownBy w' v.ownBlock → (v'.ownBlock = v.ownBlock ∨ v'.ownBlock = some w.heap.size) → K (a.put o.dst v') w') : o.wp P a w K Q := by
 obtain ⟨i, hi, hz, hsize, hby⟩ := info_parts hinfo
 obtain ⟨v', w', hrun, h2, h3, _, h5⟩ := run_append_own_at (P := P) w base t o.type e i z 2 bytes ht hi hz hsize hby hzs (by decide) v ps.length (kdC ps) hown.own ⟨g, 0, none⟩ 1 c [.int .u8 p.1, kdV p] rfl (fun j u hu => by
  rw [Go.WideShapes.add_plain]
  match j, hu with
  | 0, hu => injection hu with hu; subst hu; exact h0
  | 1, hu => injection hu with hu; subst hu; exact h1) (all2 rfl rfl) h63 hbytes hbase
 unfold Oper.wp execOp
 simp only [ho, resolve, invoke, builtin, Sem.run_bind, Sem.run_pure, Result.andThen_ok, List.map_toArray, List.map_cons, List.map_nil, hs, hx, hrun]
 have keep : ∀ q : Kd, OwnB w base (kdV q) q.2.2.2 → NeB v (kdV q) → OwnB w' base (kdV q) q.2.2.2 ∧ NeB v' (kdV q) := fun q hq hn =>
  ⟨⟨own_keep2 hq.own hn h3, hq.rng⟩, ne_app hq.own hn (Nat.le_refl _) h5⟩
 refine h v' w' ⟨by rw [List.length_append, kdC_append]; exact h2, fun q hq => ?_⟩ h3 h5
 rcases List.mem_append.1 hq with hq | hq
 ·obtain ⟨e1, e2, e3, e4⟩ := hown.each q hq
  exact ⟨e1, e2, keep q e3 e4⟩
 ·rw [List.mem_singleton] at hq
  subst hq
  exact ⟨r0, r1, keep q hp hne⟩
end
theorem OwnK.apart {w w1 : World} {base base' : Nat} {e : TypeId} {v v2 : Value} {ps : List Kd} {l : List Int} (h : OwnK w base e v ps) (h2 : OwnB w1 base' v2 l) (hb : w.heap.size ≤ base') : NeB v v2 := ne_new h.own h2.own hb
structure D6 where
 (cls lab hop : Int) (src dst : List Int) (hs : List (Int × List Int)) (frag : Bool) (id off : Int) (more : Bool) (pro : Int) (bl : List Int)
structure W6 where
 (hA : Option Addr) (hc : Nat) (ps : List Kd) (bA : Option Addr) (bc : Nat)
def l16 (s : List Int) : List Int := [s.getD 0 0, s.getD 1 0, s.getD 2 0, s.getD 3 0, s.getD 4 0, s.getD 5 0, s.getD 6 0, s.getD 7 0, s.getD 8 0, s.getD 9 0, s.getD 10 0, s.getD 11 0, s.getD 12 0, s.getD 13 0, s.getD 14 0, s.getD 15 0]
theorem l16_eq {s : List Int} (h : s.length = 16) : l16 s = s := by
 obtain ⟨x0, x1, x2, x3, x4, x5, x6, x7, x8, x9, x10, x11, x12, x13, x14, x15, rfl⟩ := len16 h
 rfl
def D6.cells (d : D6) (p : W6) : Array Value :=
 #[.int .u8 d.cls, .int .u32 d.lab, .int .u8 d.hop,
  .int .u8 (d.src.getD 0 0), .int .u8 (d.src.getD 1 0), .int .u8 (d.src.getD 2 0), .int .u8 (d.src.getD 3 0), .int .u8 (d.src.getD 4 0), .int .u8 (d.src.getD 5 0), .int .u8 (d.src.getD 6 0), .int .u8 (d.src.getD 7 0), .int .u8 (d.src.getD 8 0), .int .u8 (d.src.getD 9 0), .int .u8 (d.src.getD 10 0), .int .u8 (d.src.getD 11 0), .int .u8 (d.src.getD 12 0), .int .u8 (d.src.getD 13 0), .int .u8 (d.src.getD 14 0), .int .u8 (d.src.getD 15 0),
  .int .u8 (d.dst.getD 0 0), .int .u8 (d.dst.getD 1 0), .int .u8 (d.dst.getD 2 0), .int .u8 (d.dst.getD 3 0), .int .u8 (d.dst.getD 4 0), .int .u8 (d.dst.getD 5 0), .int .u8 (d.dst.getD 6 0), .int .u8 (d.dst.getD 7 0), .int .u8 (d.dst.getD 8 0), .int .u8 (d.dst.getD 9 0), .int .u8 (d.dst.getD 10 0), .int .u8 (d.dst.getD 11 0), .int .u8 (d.dst.getD 12 0), .int .u8 (d.dst.getD 13 0), .int .u8 (d.dst.getD 14 0), .int .u8 (d.dst.getD 15 0),
  .slice p.hA d.hs.length p.hc, .bool d.frag, .int .u32 d.id, .int .i64 d.off, .bool d.more, .int .u8 d.pro, .slice p.bA d.bl.length p.bc]
theorem D6.cells_one (d : D6) (p : W6) : (d.cells p).all (·.oneCell') = true := by simp [D6.cells, Value.oneCell']
structure D6.ok (d : D6) : Prop where
 cls : 0 ≤ d.cls ∧ d.cls ≤ 255
 lab : 0 ≤ d.lab ∧ d.lab < 4294967296
 hop : 0 ≤ d.hop ∧ d.hop ≤ 255
 srcL : d.src.length = 16
 src : InB d.src
 dstL : d.dst.length = 16
 dst : InB d.dst
 id : 0 ≤ d.id ∧ d.id < 4294967296
 off : -9223372036854775808 ≤ d.off ∧ d.off ≤ 9223372036854775807
 pro : 0 ≤ d.pro ∧ d.pro ≤ 255
structure Rd6 (B : Nat) (w : World) (d : D6) (p : W6) : Prop where
 ok : d.ok
 hl : kdL p.ps = d.hs
 hd : Kds B w p.hA d.hs.length p.hc p.ps
 body : By B w p.bA d.bl.length p.bc d.bl
theorem Rd6.below {B B' : Nat} {w w' : World} {d : D6} {p : W6} (h : Rd6 B w d p) (hb : Below B' w w') (hB : B ≤ B') : Rd6 B w' d p := ⟨h.ok, h.hl, h.hd.below hb hB, h.body.below hb hB⟩
theorem Rd6.more {B B' : Nat} {w : World} {d : D6} {p : W6} (h : Rd6 B w d p) (hB : B ≤ B') : Rd6 B' w d p := ⟨h.ok, h.hl, h.hd.more hB, h.body.more hB⟩

def extra6 (k : Int) : Bool := decide (k = 0 ∨ k = 43 ∨ k = 60)
def badH (i : Nat) (h : Int × List Int) : Bool := !extra6 h.1 || (decide (h.1 = 0) && decide (0 < i)) || decide (h.2.length % 8 ≠ 6) || decide (2046 < h.2.length)
def okH : Nat → List (Int × List Int) → Bool
 | _, [] => true
 | i, h :: t => !badH i h && okH (i + 1) t
def D6.tail (d : D6) : Bool := if d.frag then decide (0 ≤ d.off ∧ d.off ≤ 8191) else decide (d.id = 0 ∧ d.off = 0 ∧ d.more = false ∧ extra6 d.pro = false ∧ d.pro ≠ 44)
def D6.right (d : D6) : Bool := decide (d.lab < 1048576) && (decide (d.hs.length ≤ 8) && (okH 0 d.hs && d.tail))
def hsz : List (Int × List Int) → Nat
 | [] => 0
 | h :: t => 2 + h.2.length + hsz t
theorem hsz_append (a b : List (Int × List Int)) : hsz (a ++ b) = hsz a + hsz b := by
 induction a with
 | nil => simp [hsz]
 | cons h t ih => simp only [List.cons_append, hsz, ih]; omega
def D6.ahead (d : D6) : Nat := 40 + hsz d.hs + (if d.frag then 8 else 0)
def D6.check (d : D6) : Int := if d.right = false then 54 else if 65535 < d.bl.length + (d.ahead - 40) then 2 else 0
theorem D6.check_cases (d : D6) : d.check = 0 ∨ d.check = 54 ∨ d.check = 2 := by unfold D6.check; split <;> (try split) <;> simp
theorem badH_false {i : Nat} {h : Int × List Int} (hb : badH i h = false) : (h.1 = 0 ∨ h.1 = 43 ∨ h.1 = 60) ∧ (h.1 = 0 → i = 0) ∧ h.2.length % 8 = 6 ∧ h.2.length ≤ 2046 := by
 simp only [badH, extra6, Bool.or_eq_false_iff, Bool.not_eq_false', decide_eq_true_eq, decide_eq_false_iff_not, Bool.and_eq_false_iff, ne_eq] at hb
 obtain ⟨⟨⟨h1, h2⟩, h3⟩, h4⟩ := hb
 refine ⟨h1, fun h0 => ?_, by omega, by omega⟩
 rcases h2 with h2 | h2
 ·exact absurd h0 h2
 ·omega
theorem okH_hsz : ∀ (i : Nat) (hs : List (Int × List Int)), okH i hs = true → hsz hs ≤ 2048 * hs.length
 | _, [], _ => Nat.le_refl _
 | i, h :: t, ho => by
  simp only [okH, Bool.and_eq_true, Bool.not_eq_true'] at ho
  have h1 := badH_false ho.1
  have h2 := okH_hsz (i + 1) t ho.2
  simp only [hsz, List.length_cons]
  omega
theorem D6.right_true {d : D6} (h : d.right = true) : d.lab < 1048576 ∧ d.hs.length ≤ 8 ∧ okH 0 d.hs = true ∧ d.tail = true := by
 simp only [D6.right, Bool.and_eq_true, decide_eq_true_eq] at h
 exact h
theorem D6.ahead_le {d : D6} (h : d.right = true) : hsz d.hs ≤ 16384 ∧ d.ahead ≤ 16432 ∧ 40 ≤ d.ahead := by
 obtain ⟨_, h2, h3, _⟩ := d.right_true h
 have := okH_hsz 0 d.hs h3
 unfold D6.ahead
 refine ⟨by omega, ?_, by omega⟩
 split <;> omega
theorem D6.ok_of_check {d : D6} (h : d.check = 0) : d.right = true ∧ d.bl.length + (d.ahead - 40) ≤ 65535 := by
 unfold D6.check at h
 split at h
 ·cases h
 ·split at h
  ·cases h
  ·rename_i h1 h2
   exact ⟨by simpa using h1, by omega⟩

def nxt (last : Int) : List (Int × List Int) → Int
 | [] => last
 | h :: _ => h.1
def hb (last : Int) : List (Int × List Int) → List Int
 | [] => []
 | h :: t => nxt last t :: (((h.2.length : Int) + 2) / 8 - 1) :: (h.2 ++ hb last t)
theorem hb_len (last : Int) : ∀ hs, (hb last hs).length = hsz hs
 | [] => rfl
 | h :: t => by simp only [hb, hsz, List.length_cons, List.length_append, hb_len last t]; omega
def D6.last (d : D6) : Int := if d.frag then 44 else d.pro
def D6.fb (d : D6) : List Int := if d.frag then [d.pro, 0, d.off / 32, d.off % 32 * 8 + (if d.more then 1 else 0), d.id / 16777216, d.id / 65536 % 256, d.id / 256 % 256, d.id % 256] else []
theorem D6.fb_len (d : D6) : d.fb.length = if d.frag then 8 else 0 := by unfold D6.fb; split <;> rfl
def D6.plen (d : D6) : Nat := d.bl.length + (d.ahead - 40)
def D6.first (d : D6) : List Int := [96 + d.cls / 16, d.cls % 16 * 16 + d.lab / 65536, d.lab / 256 % 256, d.lab % 256, (d.plen : Int) / 256, (d.plen : Int) % 256, nxt d.last d.hs, d.hop]
def D6.pre (d : D6) : List Int := d.first ++ d.src ++ d.dst
def D6.bytes (d : D6) : List Int := d.pre ++ hb d.last d.hs ++ d.fb ++ d.bl
def D6.write (d : D6) : List Int := if d.check = 0 then d.bytes else []
theorem D6.pre_len (d : D6) (h : d.ok) : d.pre.length = 40 := by simp [D6.pre, D6.first, h.srcL, h.dstL]
theorem D6.bytes_len (d : D6) (h : d.ok) : d.bytes.length = d.ahead + d.bl.length := by
 simp only [D6.bytes, List.length_append, d.pre_len h, hb_len, d.fb_len, D6.ahead]
theorem Kds.rng {B : Nat} {w : World} {A : Option Addr} {n c : Nat} {ps : List Kd} (h : Kds B w A n c ps) : ∀ x ∈ kdL ps, 0 ≤ x.1 ∧ x.1 ≤ 255 ∧ InB x.2 := by
 intro x hx
 obtain ⟨p, hp, rfl⟩ := List.mem_map.1 hx
 obtain ⟨k, hk⟩ := List.mem_iff_getElem?.1 hp
 obtain ⟨_, _, _, _, _, _, r1, r2, hy⟩ := h.at_ k p hk
 exact ⟨r1, r2, hy.rng⟩
abbrev g41 (a b c : Int) (x : Value) (f : Bool) (i o : Int) (m : Bool) (p : Int) (y : Value) : Array Value := #[.int .u8 a, .int .u32 b, .int .u8 c, .int .u8 0, .int .u8 0, .int .u8 0, .int .u8 0, .int .u8 0, .int .u8 0, .int .u8 0, .int .u8 0, .int .u8 0, .int .u8 0, .int .u8 0, .int .u8 0, .int .u8 0, .int .u8 0, .int .u8 0, .int .u8 0, .int .u8 0, .int .u8 0, .int .u8 0, .int .u8 0, .int .u8 0, .int .u8 0, .int .u8 0, .int .u8 0, .int .u8 0, .int .u8 0, .int .u8 0, .int .u8 0, .int .u8 0, .int .u8 0, .int .u8 0, .int .u8 0, x, .bool f, .int .u32 i, .int .i64 o, .bool m, .int .u8 p, y]

end Go.Proofs.Ytjnphelfloiadaa
