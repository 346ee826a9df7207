/-
  Lemmas and walks for the row of TofourTells (part 2 of 37).
-/
import Derived.Test.YtjnphelfloiadaaFtAA
import Derived.Laws.Tables
import Derived.Laws.CopyOwn
import Derived.Great.BuildSlice
import Derived.Below
set_option linter.unusedVariables false
set_option linter.unusedSimpArgs false
namespace Go.Proofs.Ytjnphelfloiadaa
open Go.RowKit

theorem Has.setRow_same {w : World} {g : Nat} {cs cs' : Array Value} {t : TypeId} {fz : Nat × Nat} (h : Has w g (.cells cs t fz)) : Has (w.setRow g cs') g (.cells cs' t fz) := Go.setRow_heap w g cs cs' t fz h
theorem Has.setRow_other {w : World} {g k : Nat} {cs' : Array Value} {o : Obj} (h : Has w k o) (hk : k ≠ g) : Has (w.setRow g cs') k o := (Go.setRow_other w g k cs' hk).trans h

theorem Has.setCell {w : World} {g : Nat} {cs : Array Value} {t : TypeId} {fz : Nat × Nat} (h : Has w g (.cells cs t fz)) (k : Nat) (v : Value) : Has (w.setCell ⟨g, k, none⟩ v) g (.cells (cs.setIfInBounds k v) t fz) := by
 have hlt := h.lt
 have hv : w.heap[g] = .cells cs t fz := (Array.getElem?_eq_some_iff.1 h).2
 unfold Has World.setCell
 rw [Array.getElem?_eq_getElem (by simpa using hlt), Array.getElem_modify]
 simp [hv]
theorem Has.setCell_other {w : World} {g j : Nat} {o : Obj} (h : Has w j o) (hj : j ≠ g) (k : Nat) (v : Value) : Has (w.setCell ⟨g, k, none⟩ v) j o := by
 unfold Has World.setCell
 simpa [Array.getElem?_modify, Ne.symm hj] using show w.heap[j]? = some o from h
theorem below_setCell {B g : Nat} {w0 w : World} (hb : Below B w0 w) (hg : B ≤ g) (k : Nat) (v : Value) : Below B w0 (w.setCell ⟨g, k, none⟩ v) :=
 hb.trans ⟨rfl, rfl, rfl, by simp [World.setCell], fun j hj => by simp [World.setCell, Array.getElem?_modify]; intro h; omega⟩
theorem OwnB.setCell {w : World} {base g : Nat} {v : Value} {l : List Int} (h : OwnB w base v l) (hg : g < base) (k : Nat) (u : Value) : OwnB (w.setCell ⟨g, k, none⟩ u) base v l := by
 refine ⟨⟨h.own.1, ?_⟩, h.rng⟩
 rcases h.own.2 with h0 | ⟨g', cap, cur, h0, hb, hh, rest⟩
 ·exact .inl h0
 ·exact .inr ⟨g', cap, cur, h0, hb, Has.setCell_other hh (by omega) k u, rest⟩
theorem below_drew (B : Nat) (w : World) : Below B w w.drew := ⟨rfl, rfl, rfl, Nat.le_refl _, fun _ _ => rfl⟩

/-- a whole row into a block of the call's own -/
theorem wpList_store_has {P : Program} {ops : Array Oper} {rest : List Oper} {o : Oper} {a : Act} {w : World} {Q : Exit → Act → World → Prop} (hgd : o.guard = none) (ty : TypeId) (x y : Operand) (ho : o.op = .store ty x y)
  (g : Nat) (cells : Array Value) (hx : a.eval x = .pointer (some ⟨g, 0, none⟩)) (hy : a.eval y = .agg cells)
  (t : TypeId) (old : Array Value) (hg : Has w g (.cells old t (0, 0))) (hi : (P.info? ty).map (·.size) = some cells.size)
  (hold : old.size = cells.size) (h1 : cells.all (·.oneCell') = true)
  (h : ∀ w', Has w' g (.cells cells t (0, 0)) → Below g w w' → wpList P ops Q rest (a.put o.dst undef) w') : wpList P ops Q (o :: rest) a w :=
 wpList_store_row hgd ty x y ho g cells hx hy t old hg hi hold h1 (h _ hg.setRow_same (below_setRow (Below.refl _ _) (Nat.le_refl _) _))
end Go.Proofs.Ytjnphelfloiadaa
namespace Go.Proofs.Ytjnphelfloiadaa
open Go.RowKit

/-- a byte of an own row, and the row with another one in its place -/
theorem OwnB.byte {w : World} {base n c : Nat} {A : Option Addr} {l : List Int} (h : OwnB w base (.slice A n c) l) (hn : n = l.length) {i : Nat} (hi : i < n) :
  ∃ g, A = some ⟨g, 0, none⟩ ∧ base ≤ g ∧ g < w.heap.size ∧ w.cell? ⟨g, i, none⟩ = some (.int .u8 (l.getD i 0)) ∧ w.frozen? ⟨g, i, none⟩ = false ∧
   ∀ y, 0 ≤ y ∧ y ≤ 255 → OwnB (w.setCell ⟨g, i, none⟩ (.int .u8 y)) base (.slice A n c) (l.set i y) := by
 subst hn
 rcases h.own.2 with ⟨h0, h1⟩ | ⟨g, cap, cur, h0, hb, hh, hnc, hmx, hsz, htk⟩
 ·injection h0 with e1 e2 e3
  omega
 ·injection h0 with e1 e2 e3
  subst e1 e3
  rw [Nat.mul_one] at hsz htk
  have hcur : cur[i]? = some (.int .u8 (l.getD i 0)) := by
   have h1 : (cur.toList.take l.length)[i]? = (u8s l)[i]? := by rw [htk]
   rw [List.getElem?_take, if_pos hi] at h1
   rw [← Array.getElem?_toList, h1]
   simp [u8s, List.getD, List.getElem?_eq_getElem hi]
  have hH : Has w g (.cells cur 5 (0, 0)) := hh
  refine ⟨g, rfl, hb, hH.lt, hH.cell i hcur, hH.free i, fun y hy => ⟨⟨?_, .inr ⟨g, c, cur.setIfInBounds i (.int .u8 y), ?_, hb, hH.setCell i (.int .u8 y), ?_, hmx, ?_, ?_⟩⟩, ?_⟩⟩
  ·rw [u8s_length, Nat.mul_one]
  ·rw [List.length_set]
  ·rw [List.length_set]; exact hnc
  ·rw [Nat.mul_one]; simpa using hsz
  ·rw [List.length_set, Nat.mul_one, Array.toList_setIfInBounds, List.take_set, htk]
   simp [u8s, List.map_set]
  ·intro x hx
   rcases List.mem_or_eq_of_mem_set hx with h1 | h1
   ·exact h.rng x h1
   ·rw [h1]; exact hy
end Go.Proofs.Ytjnphelfloiadaa
namespace Go.Proofs.Ytjnphelfloiadaa
open Go.RowKit

/-- an option (a head): its kind, where its bytes lie, their capacity, the bytes -/
abbrev Kd := Int × Option Addr × Nat × List Int
def kdV (p : Kd) : Value := .slice p.2.1 p.2.2.2.length p.2.2.1
def kdC (ps : List Kd) : List Value := ps.flatMap fun p => [.int .u8 p.1, kdV p]
def kdL (ps : List Kd) : List (Int × List Int) := ps.map fun p => (p.1, p.2.2.2)
theorem kdC_append (ps qs : List Kd) : kdC (ps ++ qs) = kdC ps ++ kdC qs := by simp [kdC]
theorem kdL_append (ps qs : List Kd) : kdL (ps ++ qs) = kdL ps ++ kdL qs := by simp [kdL]
theorem kdL_len (ps : List Kd) : (kdL ps).length = ps.length := by simp [kdL]
theorem kdC_get {ps : List Kd} {k : Nat} {p : Kd} (h : ps[k]? = some p) : (kdC ps)[k * 2]? = some (.int .u8 p.1) ∧ (kdC ps)[k * 2 + 1]? = some (kdV p) := by
 induction ps generalizing k with
 | nil => simp at h
 | cons q ps ih =>
  have hc : kdC (q :: ps) = .int .u8 q.1 :: kdV q :: kdC ps := rfl
  cases k with
  | zero =>
   rw [List.getElem?_cons_zero, Option.some.injEq] at h
   subst h
   exact ⟨rfl, rfl⟩
  | succ k =>
   rw [List.getElem?_cons_succ] at h
   have := ih h
   rw [hc]
   rw [show (k + 1) * 2 = k * 2 + 1 + 1 from by omega, List.getElem?_cons_succ, List.getElem?_cons_succ, List.getElem?_cons_succ, List.getElem?_cons_succ]
   exact this

theorem By.atO {B : Nat} {w : World} {b off n c k : Nat} {l : List Int} (h : By B w (some ⟨b, off, none⟩) n c l) (hk : k < n) : w.cell? ⟨b, off + k, none⟩ = some (.int .u8 (l.getD k 0)) := by
 obtain ⟨b', off', x, e, _, hx, hc, _⟩ := h.get hk
 injection e with e
 injection e with e1 e2 e3
 subst e1 e2
 rw [hc, List.getD_eq_getElem?_getD, hx]
 rfl
/-- the slice holds these -/
structure Kds (B : Nat) (w : World) (A : Option Addr) (n c : Nat) (ps : List Kd) : Prop where
 len : ps.length = n
 cap : n ≤ c
 big : c ≤ 9223372036854775807
 at_ : ∀ k p, ps[k]? = some p → ∃ b off, A = some ⟨b, off, none⟩ ∧ b < B ∧ w.cell? ⟨b, off + k * 2, none⟩ = some (.int .u8 p.1) ∧ w.cell? ⟨b, off + k * 2 + 1, none⟩ = some (kdV p) ∧ 0 ≤ p.1 ∧ p.1 ≤ 255 ∧ By B w p.2.1 p.2.2.2.length p.2.2.1 p.2.2.2
theorem Kds.below {B B' : Nat} {w w' : World} {A : Option Addr} {n c : Nat} {ps : List Kd} (h : Kds B w A n c ps) (hb : Below B' w w') (hB : B ≤ B') : Kds B w' A n c ps :=
 ⟨h.len, h.cap, h.big, fun k l hk => by
  obtain ⟨b, off, e, hlt, hc, hc2, r1, r2, hy⟩ := h.at_ k l hk
  exact ⟨b, off, e, hlt, (hb.cell (p := ⟨b, off + k * 2, none⟩) (Nat.lt_of_lt_of_le hlt hB)).trans hc, (hb.cell (p := ⟨b, off + k * 2 + 1, none⟩) (Nat.lt_of_lt_of_le hlt hB)).trans hc2, r1, r2, hy.below hb hB⟩⟩
theorem Kds.more {B B' : Nat} {w : World} {A : Option Addr} {n c : Nat} {ps : List Kd} (h : Kds B w A n c ps) (hB : B ≤ B') : Kds B' w A n c ps :=
 ⟨h.len, h.cap, h.big, fun k l hk => by
  obtain ⟨b, off, e, hlt, hc, hc2, r1, r2, hy⟩ := h.at_ k l hk
  exact ⟨b, off, e, Nat.lt_of_lt_of_le hlt hB, hc, hc2, r1, r2, hy.more hB⟩⟩
theorem Kds.nil (B : Nat) (w : World) : Kds B w none 0 0 [] := ⟨rfl, Nat.le_refl _, by decide, fun _ _ hk => by simp at hk⟩

/-- a row of the call's own of these, their bytes own too -/
structure OwnK (w : World) (base : Nat) (e : TypeId) (v : Value) (ps : List Kd) : Prop where
 own : w.ownsRow base e 2 v ps.length (kdC ps)
 each : ∀ p ∈ ps, 0 ≤ p.1 ∧ p.1 ≤ 255 ∧ OwnB w base (kdV p) p.2.2.2 ∧ NeB v (kdV p)
theorem OwnK.nil (w : World) (base : Nat) (e : TypeId) : OwnK w base e (.slice none 0 0) [] := ⟨World.ownsRow_nil w base _ 2, fun _ h => by cases h⟩
theorem OwnK.below {w w' : World} {base : Nat} {e : TypeId} {v : Value} {ps : List Kd} (h : OwnK w base e v ps) (hb : Below w.heap.size w w') : OwnK w' base e v ps :=
 ⟨own_below h.own hb, fun p hp => ⟨(h.each p hp).1, (h.each p hp).2.1, (h.each p hp).2.2.1.below hb, (h.each p hp).2.2.2⟩⟩
theorem OwnK.more {w : World} {base base' : Nat} {e : TypeId} {v : Value} {ps : List Kd} (h : OwnK w base e v ps) (hb : base' ≤ base) : OwnK w base' e v ps := by
 refine ⟨⟨h.own.1, ?_⟩, fun p hp => ⟨(h.each p hp).1, (h.each p hp).2.1, (h.each p hp).2.2.1.more hb, (h.each p hp).2.2.2⟩⟩
 rcases h.own.2 with h0 | ⟨g, cap, cur, h0, hg, rest⟩
 ·exact .inl h0
 ·exact .inr ⟨g, cap, cur, h0, Nat.le_trans hb hg, rest⟩
/-- a row of the call's own, read -/
theorem OwnK.kds {w : World} {base : Nat} {e : TypeId} {v : Value} {ps : List Kd} (h : OwnK w base e v ps) : ∃ A c, v = .slice A ps.length c ∧ Kds w.heap.size w A ps.length c ps := by
 have hy : ∀ p ∈ ps, By w.heap.size w p.2.1 p.2.2.2.length p.2.2.1 p.2.2.2 := fun p hp => by
  obtain ⟨A, c, he, hr⟩ := (h.each p hp).2.2.1.by_
  unfold kdV at he
  injection he with h1 h2 h3
  rw [h1, h3]; exact hr
 rcases h.own.2 with ⟨rfl, h0⟩ | ⟨g, cap, cur, rfl, _, hh, hnc, h1, hsz, htk⟩
 ·have hn : ps = [] := List.eq_nil_of_length_eq_zero h0
  subst hn
  exact ⟨none, 0, rfl, Kds.nil _ _⟩
 ·refine ⟨_, cap, rfl, rfl, hnc, h1, fun k p hk => ?_⟩
  have hkl : k < ps.length := (List.getElem?_eq_some_iff.1 hk).1
  obtain ⟨g1, g2⟩ := kdC_get hk
  have hm := List.mem_of_getElem? hk
  have hat : ∀ j v, j < ps.length * 2 → (kdC ps)[j]? = some v → w.cell? ⟨g, 0 + j, none⟩ = some v := fun j v hj hv => by
   rw [← htk, List.getElem?_take, if_pos hj] at hv
   simp only [World.cell?, hh, Option.isSome_none, Bool.false_eq_true, if_false, Nat.zero_add]
   simpa using hv
  exact ⟨g, 0, rfl, (Array.getElem?_eq_some_iff.1 hh).1, hat _ _ (by omega) g1, by have := hat (k * 2 + 1) _ (by omega) g2; rwa [← Nat.add_assoc] at this, (h.each p hm).1, (h.each p hm).2.1, hy p hm⟩

section
variable {P : Program} (w : World)
/-- append of one: it lies in a literal's block -/
theorem wp_append_kd {o : Oper} {a : Act} {K : Act → World → Prop} {Q : Exit → Act → World → Prop} (s x : Operand) (t : TypeId)
  (ho : o.op = .call { callee := .builtin .append, args := #[s, x], argTypes := #[t, t] })
  (base : Nat) (e : TypeId) (z : Value) (bytes : Nat) (ht : P.underlying t = some (.slice e)) (hinfo : (P.info? e).map (fun i => (i.zero, i.size, i.bytes)) = some (some z, 2, bytes)) (hzs : z.cells.size = 2)
  (v : Value) (ps : List Kd) (hs : a.eval s = v) (hown : OwnK w base e v ps)
  (g c : Nat) (p : Kd) (hx : a.eval x = .slice (some ⟨g, 0, none⟩) 1 c) (h0 : w.cell? ⟨g, 0, none⟩ = some (.int .u8 p.1)) (h1 : w.cell? ⟨g, 1, none⟩ = some (kdV p))
  (r0 : 0 ≤ p.1) (r1 : p.1 ≤ 255) (hp : OwnB w base (kdV p) p.2.2.2) (hne : NeB v (kdV p))
  (hbytes : (ps.length + 1) * bytes ≤ 140737488355328) (h63 : ps.length + 1 ≤ maxLen) (hbase : base ≤ w.heap.size)
  (h : ∀ v' w', OwnK w' base e v' (ps ++ [p]) → w.grownBy w' v.ownBlock → (v'.ownBlock = v.ownBlock ∨ v'.ownBlock = some w.heap.size) → K (a.put o.dst v') w') : o.wp P a w K Q := by
 obtain ⟨i, hi, hz, hsize, hby⟩ := info_parts hinfo
 obtain ⟨v', w', hrun, h2, h3, _, h5⟩ := run_append_own_at (P := P) w base t o.type e i z 2 bytes ht hi hz hsize hby hzs (by decide) v ps.length (kdC ps) hown.own ⟨g, 0, none⟩ 1 c [.int .u8 p.1, kdV p] rfl (fun j u hu => by
  rw [Go.WideShapes.add_plain]
  match j, hu with
  | 0, hu => injection hu with hu; subst hu; exact h0
  | 1, hu => injection hu with hu; subst hu; exact h1) (all2 rfl rfl) h63 hbytes hbase
 unfold Oper.wp execOp
 simp only [ho, resolve, invoke, builtin, Sem.run_bind, Sem.run_pure, Result.andThen_ok, List.map_toArray, List.map_cons, List.map_nil, hs, hx, hrun]
 have keep : ∀ q : Kd, OwnB w base (kdV q) q.2.2.2 → NeB v (kdV q) → OwnB w' base (kdV q) q.2.2.2 ∧ NeB v' (kdV q) := fun q hq hn =>
  ⟨⟨own_keep2 hq.own hn h3, hq.rng⟩, ne_app hq.own hn (Nat.le_refl _) h5⟩
 refine h v' w' ⟨by rw [List.length_append, kdC_append]; exact h2, fun q hq => ?_⟩ h3 h5
 rcases List.mem_append.1 hq with hq | hq
 ·obtain ⟨e1, e2, e3, e4⟩ := hown.each q hq
  exact ⟨e1, e2, keep q e3 e4⟩
 ·rw [List.mem_singleton] at hq
  subst hq
  exact ⟨r0, r1, keep q hp hne⟩
end
/-- a fresh row of bytes lies apart from a row that was there -/
theorem OwnK.apart {w w1 : World} {base base' : Nat} {e : TypeId} {v v2 : Value} {ps : List Kd} {l : List Int} (h : OwnK w base e v ps) (h2 : OwnB w1 base' v2 l) (hb : w.heap.size ≤ base') : NeB v v2 := ne_new h.own h2.own hb
end Go.Proofs.Ytjnphelfloiadaa
namespace Go.Proofs.Ytjnphelfloiadaa
open Go.RowKit

/-- a datagram's numbers and bytes -/
structure D6 where
 (cls lab hop : Int) (src dst : List Int) (hs : List (Int × List Int)) (frag : Bool) (id off : Int) (more : Bool) (pro : Int) (bl : List Int)
/-- where its heads and its body lie -/
structure W6 where
 (hA : Option Addr) (hc : Nat) (ps : List Kd) (bA : Option Addr) (bc : Nat)
def l16 (s : List Int) : List Int := [s.getD 0 0, s.getD 1 0, s.getD 2 0, s.getD 3 0, s.getD 4 0, s.getD 5 0, s.getD 6 0, s.getD 7 0, s.getD 8 0, s.getD 9 0, s.getD 10 0, s.getD 11 0, s.getD 12 0, s.getD 13 0, s.getD 14 0, s.getD 15 0]
theorem l16_eq {s : List Int} (h : s.length = 16) : l16 s = s := by
 obtain ⟨x0, x1, x2, x3, x4, x5, x6, x7, x8, x9, x10, x11, x12, x13, x14, x15, rfl⟩ := len16 h
 rfl
def D6.cells (d : D6) (p : W6) : Array Value :=
 #[.int .u8 d.cls, .int .u32 d.lab, .int .u8 d.hop,
  .int .u8 (d.src.getD 0 0), .int .u8 (d.src.getD 1 0), .int .u8 (d.src.getD 2 0), .int .u8 (d.src.getD 3 0), .int .u8 (d.src.getD 4 0), .int .u8 (d.src.getD 5 0), .int .u8 (d.src.getD 6 0), .int .u8 (d.src.getD 7 0), .int .u8 (d.src.getD 8 0), .int .u8 (d.src.getD 9 0), .int .u8 (d.src.getD 10 0), .int .u8 (d.src.getD 11 0), .int .u8 (d.src.getD 12 0), .int .u8 (d.src.getD 13 0), .int .u8 (d.src.getD 14 0), .int .u8 (d.src.getD 15 0),
  .int .u8 (d.dst.getD 0 0), .int .u8 (d.dst.getD 1 0), .int .u8 (d.dst.getD 2 0), .int .u8 (d.dst.getD 3 0), .int .u8 (d.dst.getD 4 0), .int .u8 (d.dst.getD 5 0), .int .u8 (d.dst.getD 6 0), .int .u8 (d.dst.getD 7 0), .int .u8 (d.dst.getD 8 0), .int .u8 (d.dst.getD 9 0), .int .u8 (d.dst.getD 10 0), .int .u8 (d.dst.getD 11 0), .int .u8 (d.dst.getD 12 0), .int .u8 (d.dst.getD 13 0), .int .u8 (d.dst.getD 14 0), .int .u8 (d.dst.getD 15 0),
  .slice p.hA d.hs.length p.hc, .bool d.frag, .int .u32 d.id, .int .i64 d.off, .bool d.more, .int .u8 d.pro, .slice p.bA d.bl.length p.bc]
theorem D6.cells_one (d : D6) (p : W6) : (d.cells p).all (·.oneCell') = true := by simp [D6.cells, Value.oneCell']
structure D6.ok (d : D6) : Prop where
 cls : 0 ≤ d.cls ∧ d.cls ≤ 255
 lab : 0 ≤ d.lab ∧ d.lab < 4294967296
 hop : 0 ≤ d.hop ∧ d.hop ≤ 255
 srcL : d.src.length = 16
 src : InB d.src
 dstL : d.dst.length = 16
 dst : InB d.dst
 id : 0 ≤ d.id ∧ d.id < 4294967296
 off : -9223372036854775808 ≤ d.off ∧ d.off ≤ 9223372036854775807
 pro : 0 ≤ d.pro ∧ d.pro ≤ 255
/-- the datagram reads so in a world -/
structure Rd6 (B : Nat) (w : World) (d : D6) (p : W6) : Prop where
 ok : d.ok
 hl : kdL p.ps = d.hs
 hd : Kds B w p.hA d.hs.length p.hc p.ps
 body : By B w p.bA d.bl.length p.bc d.bl
theorem Rd6.below {B B' : Nat} {w w' : World} {d : D6} {p : W6} (h : Rd6 B w d p) (hb : Below B' w w') (hB : B ≤ B') : Rd6 B w' d p := ⟨h.ok, h.hl, h.hd.below hb hB, h.body.below hb hB⟩
theorem Rd6.more {B B' : Nat} {w : World} {d : D6} {p : W6} (h : Rd6 B w d p) (hB : B ≤ B') : Rd6 B' w d p := ⟨h.ok, h.hl, h.hd.more hB, h.body.more hB⟩

/-- the kinds of a head -/
def extra6 (k : Int) : Bool := decide (k = 0 ∨ k = 43 ∨ k = 60)
def badH (i : Nat) (h : Int × List Int) : Bool := !extra6 h.1 || (decide (h.1 = 0) && decide (0 < i)) || decide (h.2.length % 8 ≠ 6) || decide (2046 < h.2.length)
def okH : Nat → List (Int × List Int) → Bool
 | _, [] => true
 | i, h :: t => !badH i h && okH (i + 1) t
def D6.tail (d : D6) : Bool := if d.frag then decide (0 ≤ d.off ∧ d.off ≤ 8191) else decide (d.id = 0 ∧ d.off = 0 ∧ d.more = false ∧ extra6 d.pro = false ∧ d.pro ≠ 44)
def D6.right (d : D6) : Bool := decide (d.lab < 1048576) && (decide (d.hs.length ≤ 8) && (okH 0 d.hs && d.tail))
def hsz : List (Int × List Int) → Nat
 | [] => 0
 | h :: t => 2 + h.2.length + hsz t
theorem hsz_append (a b : List (Int × List Int)) : hsz (a ++ b) = hsz a + hsz b := by
 induction a with
 | nil => simp [hsz]
 | cons h t ih => simp only [List.cons_append, hsz, ih]; omega
def D6.ahead (d : D6) : Nat := 40 + hsz d.hs + (if d.frag then 8 else 0)
/-- may it be: 0, or the error's number -/
def D6.check (d : D6) : Int := if d.right = false then 54 else if 65535 < d.bl.length + (d.ahead - 40) then 2 else 0
theorem D6.check_cases (d : D6) : d.check = 0 ∨ d.check = 54 ∨ d.check = 2 := by unfold D6.check; split <;> (try split) <;> simp
theorem badH_false {i : Nat} {h : Int × List Int} (hb : badH i h = false) : (h.1 = 0 ∨ h.1 = 43 ∨ h.1 = 60) ∧ (h.1 = 0 → i = 0) ∧ h.2.length % 8 = 6 ∧ h.2.length ≤ 2046 := by
 simp only [badH, extra6, Bool.or_eq_false_iff, Bool.not_eq_false', decide_eq_true_eq, decide_eq_false_iff_not, Bool.and_eq_false_iff, ne_eq] at hb
 obtain ⟨⟨⟨h1, h2⟩, h3⟩, h4⟩ := hb
 refine ⟨h1, fun h0 => ?_, by omega, by omega⟩
 rcases h2 with h2 | h2
 ·exact absurd h0 h2
 ·omega
theorem okH_hsz : ∀ (i : Nat) (hs : List (Int × List Int)), okH i hs = true → hsz hs ≤ 2048 * hs.length
 | _, [], _ => Nat.le_refl _
 | i, h :: t, ho => by
  simp only [okH, Bool.and_eq_true, Bool.not_eq_true'] at ho
  have h1 := badH_false ho.1
  have h2 := okH_hsz (i + 1) t ho.2
  simp only [hsz, List.length_cons]
  omega
theorem D6.right_true {d : D6} (h : d.right = true) : d.lab < 1048576 ∧ d.hs.length ≤ 8 ∧ okH 0 d.hs = true ∧ d.tail = true := by
 simp only [D6.right, Bool.and_eq_true, decide_eq_true_eq] at h
 exact h
theorem D6.ahead_le {d : D6} (h : d.right = true) : hsz d.hs ≤ 16384 ∧ d.ahead ≤ 16432 ∧ 40 ≤ d.ahead := by
 obtain ⟨_, h2, h3, _⟩ := d.right_true h
 have := okH_hsz 0 d.hs h3
 unfold D6.ahead
 refine ⟨by omega, ?_, by omega⟩
 split <;> omega
theorem D6.ok_of_check {d : D6} (h : d.check = 0) : d.right = true ∧ d.bl.length + (d.ahead - 40) ≤ 65535 := by
 unfold D6.check at h
 split at h
 ·cases h
 ·split at h
  ·cases h
  ·rename_i h1 h2
   exact ⟨by simpa using h1, by omega⟩

/-- the kind of what stands ahead of a row of heads -/
def nxt (last : Int) : List (Int × List Int) → Int
 | [] => last
 | h :: _ => h.1
/-- the heads' bytes -/
def hb (last : Int) : List (Int × List Int) → List Int
 | [] => []
 | h :: t => nxt last t :: (((h.2.length : Int) + 2) / 8 - 1) :: (h.2 ++ hb last t)
theorem hb_len (last : Int) : ∀ hs, (hb last hs).length = hsz hs
 | [] => rfl
 | h :: t => by simp only [hb, hsz, List.length_cons, List.length_append, hb_len last t]; omega
def D6.last (d : D6) : Int := if d.frag then 44 else d.pro
def D6.fb (d : D6) : List Int := if d.frag then [d.pro, 0, d.off / 32, d.off % 32 * 8 + (if d.more then 1 else 0), d.id / 16777216, d.id / 65536 % 256, d.id / 256 % 256, d.id % 256] else []
theorem D6.fb_len (d : D6) : d.fb.length = if d.frag then 8 else 0 := by unfold D6.fb; split <;> rfl
def D6.plen (d : D6) : Nat := d.bl.length + (d.ahead - 40)
def D6.first (d : D6) : List Int := [96 + d.cls / 16, d.cls % 16 * 16 + d.lab / 65536, d.lab / 256 % 256, d.lab % 256, (d.plen : Int) / 256, (d.plen : Int) % 256, nxt d.last d.hs, d.hop]
def D6.pre (d : D6) : List Int := d.first ++ d.src ++ d.dst
/-- the bytes -/
def D6.bytes (d : D6) : List Int := d.pre ++ hb d.last d.hs ++ d.fb ++ d.bl
/-- what Write answers -/
def D6.write (d : D6) : List Int := if d.check = 0 then d.bytes else []
theorem D6.pre_len (d : D6) (h : d.ok) : d.pre.length = 40 := by simp [D6.pre, D6.first, h.srcL, h.dstL]
theorem D6.bytes_len (d : D6) (h : d.ok) : d.bytes.length = d.ahead + d.bl.length := by
 simp only [D6.bytes, List.length_append, d.pre_len h, hb_len, d.fb_len, D6.ahead]
theorem Kds.rng {B : Nat} {w : World} {A : Option Addr} {n c : Nat} {ps : List Kd} (h : Kds B w A n c ps) : ∀ x ∈ kdL ps, 0 ≤ x.1 ∧ x.1 ≤ 255 ∧ InB x.2 := by
 intro x hx
 obtain ⟨p, hp, rfl⟩ := List.mem_map.1 hx
 obtain ⟨k, hk⟩ := List.mem_iff_getElem?.1 hp
 obtain ⟨_, _, _, _, _, _, r1, r2, hy⟩ := h.at_ k p hk
 exact ⟨r1, r2, hy.rng⟩
end Go.Proofs.Ytjnphelfloiadaa
namespace Go.Proofs.Ytjnphelfloiadaa
open Go.ChangeShapes Go.WideShapes Go.ChangeAt Go.RowKit

section
variable {H : Type} {enc : TypeId × Value → H} {P : Program} {W : World} {base : Nat} {spare : Nat → Bool} {held : Bool}
theorem field_at6 {t : TypeId} {fs : Array Field} {fuel : Nat} {cs : List Value} {x : DataW H × List MemPlace} (ht : P.underlying t = some (.struct fs)) (h : DataW.trod enc P W base spare held fuel t cs = some x) :
  ∃ m, ∀ (i : Nat) (f : Field) (n : Nat), fs[i]? = some f → P.cellsOf f.type = n → ∃ y, DataW.trod enc P W base spare held m f.type ((cs.drop f.offset).take n) = some y := by
 obtain ⟨xs, m, _, _, _, hxl, hi⟩ := DataW.trod_struct ht h
 refine ⟨m, fun i f n hf hn => ?_⟩
 subst hn
 have hlt : i < xs.length := by have := (Array.getElem?_eq_some_iff.1 hf).1; omega
 exact ⟨xs[i], (hi i f hf).trans (List.getElem?_eq_getElem hlt)⟩
theorem struct_len6 {t : TypeId} {fs : Array Field} {fuel : Nat} {cs : List Value} {x : DataW H × List MemPlace} (ht : P.underlying t = some (.struct fs)) (h : DataW.trod enc P W base spare held fuel t cs = some x) : cs.length = P.cellsOf t := by
 obtain ⟨xs, m, _, _, hl, _, _⟩ := DataW.trod_struct ht h
 exact hl
end
theorem len10 {α : Type} {l : List α} (h : l.length = 10) : ∃ a0 a1 a2 a3 a4 a5 a6 a7 a8 a9, l = [a0, a1, a2, a3, a4, a5, a6, a7, a8, a9] := by
 match l, h with
 | [a0, a1, a2, a3, a4, a5, a6, a7, a8, a9], _ => exact ⟨a0, a1, a2, a3, a4, a5, a6, a7, a8, a9, rfl⟩
theorem len42 {α : Type} {l : List α} (h : l.length = 42) : ∃ c0 c1 c2 c3 c4 c5 c6 c7 c8 c9 c10 c11 c12 c13 c14 c15 c16 c17 c18 c19 c20 c21 c22 c23 c24 c25 c26 c27 c28 c29 c30 c31 c32 c33 c34 c35 c36 c37 c38 c39 c40 c41, l = [c0, c1, c2, c3, c4, c5, c6, c7, c8, c9, c10, c11, c12, c13, c14, c15, c16, c17, c18, c19, c20, c21, c22, c23, c24, c25, c26, c27, c28, c29, c30, c31, c32, c33, c34, c35, c36, c37, c38, c39, c40, c41] := by
 have e : l = l.take 16 ++ ((l.drop 16).take 16 ++ (l.drop 32)) := by rw [show l.drop 32 = (l.drop 16).drop 16 from by rw [List.drop_drop], List.take_append_drop, List.take_append_drop]
 obtain ⟨c0, c1, c2, c3, c4, c5, c6, c7, c8, c9, c10, c11, c12, c13, c14, c15, h1⟩ := len16 (l := l.take 16) (by rw [List.length_take]; omega)
 obtain ⟨c16, c17, c18, c19, c20, c21, c22, c23, c24, c25, c26, c27, c28, c29, c30, c31, h2⟩ := len16 (l := (l.drop 16).take 16) (by rw [List.length_take, List.length_drop]; omega)
 obtain ⟨c32, c33, c34, c35, c36, c37, c38, c39, c40, c41, h3⟩ := len10 (l := l.drop 32) (by rw [List.length_drop]; omega)
 rw [h1, h2, h3] at e
 exact ⟨c0, c1, c2, c3, c4, c5, c6, c7, c8, c9, c10, c11, c12, c13, c14, c15, c16, c17, c18, c19, c20, c21, c22, c23, c24, c25, c26, c27, c28, c29, c30, c31, c32, c33, c34, c35, c36, c37, c38, c39, c40, c41, e⟩
theorem one_eq6 {a b : Value} (h : [a] = [b]) : a = b := by injection h

section
variable {H : Type} {enc : TypeId × Value → H} {W : World} {base : Nat} {spare : Nat → Bool} {held : Bool}
theorem cell_head {fuel : Nat} {cs : List Value} {x : DataW H × List MemPlace} (hf : DataW.trod enc Try.prog W base spare held fuel 108 cs = some x) :
  ∃ p : Kd, cs = [.int .u8 p.1, kdV p] ∧ 0 ≤ p.1 ∧ p.1 ≤ 255 ∧ By W.heap.size W p.2.1 p.2.2.2.length p.2.2.1 p.2.2.2 := by
 have ht := Try.underlying108
 have hlen : cs.length = 2 := (struct_len6 ht hf).trans (by kernel_rfl)
 have hk : ∃ m, _ := field_at6 ht hf
 obtain ⟨m, g⟩ := hk
 obtain ⟨c0, c1, hcs⟩ : ∃ a b, cs = [a, b] := by
  match cs, hlen with
  | [a, b], _ => exact ⟨a, b, rfl⟩
 have g : ∀ (i : Nat) (f : Field) (n : Nat), _ → _ → ∃ y, DataW.trod enc Try.prog W base spare held m f.type (([c0, c1].drop f.offset).take n) = some y := hcs ▸ g
 obtain ⟨y0, e0⟩ := g 0 _ 1 rfl (by kernel_rfl)
 obtain ⟨y1, e1⟩ := g 1 _ 1 rfl (by kernel_rfl)
 obtain ⟨k, q0, _, w0⟩ := DataW.trod_int Try.underlying5 e0
 have k0 : c0 = .int .u8 k := one_eq6 q0
 obtain ⟨lA, lc, l, q1, z1⟩ := cell_bytes Try.underlying26 Try.underlying5 (by kernel_rfl) e1
 have k1 : c1 = .slice lA l.length lc := one_eq6 q1
 subst k0 k1
 have b0 := bounds_u8 w0
 exact ⟨(k, lA, lc, l), hcs, by omega, by omega, z1⟩
theorem cell_heads {fuel : Nat} {cs : List Value} {x : DataW H × List MemPlace} (hf : DataW.trod enc Try.prog W base spare held fuel 25 cs = some x) :
  ∃ A c ps, cs = [.slice A (List.length ps) c] ∧ Kds W.heap.size W A ps.length c ps := by
 have ht := Try.underlying25
 have hce : (Try.prog).cellsOf 108 = 2 := by kernel_rfl
 rcases Go.Deep.open_slice ht hf with ⟨hcs, _⟩ | ⟨a', len, cap, m, n, D, Pl, hcs, _, hl, hm, hmm, _, hi⟩
 ·subst hcs
  exact ⟨none, 0, [], rfl, Kds.nil _ _⟩
 ·subst hcs
  have hml : len ≤ m := by rw [hmm]; split <;> omega
  rw [hce] at hi
  have hel : ∀ i : Nat, ∃ x : Kd, i < m → W.cell? (a'.add (i * 2)) = some (.int .u8 x.1) ∧ W.cell? ((a'.add (i * 2)).add 1) = some (kdV x) ∧ 0 ≤ x.1 ∧ x.1 ≤ 255 ∧ By W.heap.size W x.2.1 x.2.2.2.length x.2.2.1 x.2.2.2 := fun i => by
   by_cases hlt : i < m
   ·obtain ⟨cs', hcs', htr⟩ := hi i hlt
    obtain ⟨_, hlen, hat⟩ := World.cells?_some hcs'
    obtain ⟨x, rfl, r0, r1, hy⟩ := cell_head htr
    refine ⟨x, fun _ => ⟨?_, ?_, r0, r1, hy⟩⟩
    ·have := hat 0 (by omega)
     simpa [Addr.add] using this
    ·have := hat 1 (by omega)
     simpa [Addr.add] using this
   ·exact ⟨(0, none, 0, []), fun h => absurd h hlt⟩
  let f : Nat → Kd := fun i => Classical.choose (hel i)
  have hf' : ∀ i, i < m → W.cell? (a'.add (i * 2)) = some (.int .u8 (f i).1) ∧ W.cell? ((a'.add (i * 2)).add 1) = some (kdV (f i)) ∧ 0 ≤ (f i).1 ∧ (f i).1 ≤ 255 ∧ By W.heap.size W (f i).2.1 (f i).2.2.2.length (f i).2.2.1 (f i).2.2.2 := fun i => Classical.choose_spec (hel i)
  have hlen : ((List.range len).map f).length = len := by simp
  refine ⟨some a', cap, (List.range len).map f, by rw [hlen], ?_⟩
  rw [hlen]
  refine ⟨hlen, hl, hm, fun k x hk => ?_⟩
  have hkl : k < len := by have := (List.getElem?_eq_some_iff.1 hk).1; omega
  obtain rfl : f k = x := by simpa [hkl] using hk
  obtain ⟨hck, hck1, hr0, hr1, hyk⟩ := hf' k (by omega)
  obtain ⟨b, off, spot⟩ := a'
  have hspot : spot = none := by
   have := World.cell?_spot (hf' 0 (by omega)).1
   simpa [Addr.add] using this
  subst hspot
  rw [add_plain] at hck hck1
  rw [add_plain] at hck1
  exact ⟨b, off, rfl, World.block_lt_of_cell? W _ hck, hck, hck1, hr0, hr1, hyk⟩
set_option maxRecDepth 100000 in
theorem open_v6 {v : Value} {d : DataW H} {p : List MemPlace} {r : Reach} {b0 : Nat} (hv : Value.okWide Try.prog W r b0 28 v) (h : DataW.Trod enc Try.prog W base spare held 28 v d p) :
  ∃ D w6, v = .agg (D6.cells D w6) ∧ Rd6 W.heap.size W D w6 := by
 have ht := Try.underlying28
 simp only [Value.okWide, ht] at hv
 obtain ⟨cs, rfl, _⟩ := hv
 obtain ⟨fuel, hf⟩ := h
 have hlen : cs.toList.length = 42 := (struct_len6 ht hf).trans (by kernel_rfl)
 have hk : ∃ m, _ := field_at6 ht hf
 obtain ⟨m, g⟩ := hk
 obtain ⟨c0, c1, c2, c3, c4, c5, c6, c7, c8, c9, c10, c11, c12, c13, c14, c15, c16, c17, c18, c19, c20, c21, c22, c23, c24, c25, c26, c27, c28, c29, c30, c31, c32, c33, c34, c35, c36, c37, c38, c39, c40, c41, hcs⟩ := len42 hlen
 have g : ∀ (i : Nat) (f : Field) (n : Nat), _ → _ → ∃ y, DataW.trod enc Try.prog W base spare held m f.type (([c0, c1, c2, c3, c4, c5, c6, c7, c8, c9, c10, c11, c12, c13, c14, c15, c16, c17, c18, c19, c20, c21, c22, c23, c24, c25, c26, c27, c28, c29, c30, c31, c32, c33, c34, c35, c36, c37, c38, c39, c40, c41].drop f.offset).take n) = some y := hcs ▸ g
 obtain ⟨y0, e0⟩ := g 0 _ 1 rfl (by kernel_rfl)
 obtain ⟨y1, e1⟩ := g 1 _ 1 rfl (by kernel_rfl)
 obtain ⟨y2, e2⟩ := g 2 _ 1 rfl (by kernel_rfl)
 obtain ⟨y3, e3⟩ := g 3 _ 16 rfl (by kernel_rfl)
 obtain ⟨y4, e4⟩ := g 4 _ 16 rfl (by kernel_rfl)
 obtain ⟨y5, e5⟩ := g 5 _ 1 rfl (by kernel_rfl)
 obtain ⟨y6, e6⟩ := g 6 _ 1 rfl (by kernel_rfl)
 obtain ⟨y7, e7⟩ := g 7 _ 1 rfl (by kernel_rfl)
 obtain ⟨y8, e8⟩ := g 8 _ 1 rfl (by kernel_rfl)
 obtain ⟨y9, e9⟩ := g 9 _ 1 rfl (by kernel_rfl)
 obtain ⟨y10, e10⟩ := g 10 _ 1 rfl (by kernel_rfl)
 obtain ⟨y11, e11⟩ := g 11 _ 1 rfl (by kernel_rfl)
 obtain ⟨cls, q0, _, w0⟩ := DataW.trod_int Try.underlying5 e0
 obtain ⟨lab, q1, _, w1⟩ := DataW.trod_int Try.underlying22 e1
 obtain ⟨hop, q2, _, w2⟩ := DataW.trod_int Try.underlying5 e2
 obtain ⟨src, q3, n3, r3⟩ := trod_u8s Try.underlying24 Try.underlying5 (by kernel_rfl) (by kernel_rfl) e3
 obtain ⟨dst, q4, n4, r4⟩ := trod_u8s Try.underlying24 Try.underlying5 (by kernel_rfl) (by kernel_rfl) e4
 obtain ⟨hA, hc, ps, q5, yh⟩ := cell_heads e5
 obtain ⟨frag, q6, _⟩ := DataW.trod_bool Try.underlying4 e6
 obtain ⟨id, q7, _, w7⟩ := DataW.trod_int Try.underlying22 e7
 obtain ⟨off, q8, _, w8⟩ := DataW.trod_int Try.underlying3 e8
 obtain ⟨more, q9, _⟩ := DataW.trod_bool Try.underlying4 e9
 obtain ⟨pro, q10, _, w10⟩ := DataW.trod_int Try.underlying5 e10
 obtain ⟨bA, bc, bl, q11, yb⟩ := cell_bytes Try.underlying26 Try.underlying5 (by kernel_rfl) e11
 obtain ⟨s0, s1, s2, s3, s4, s5, s6, s7, s8, s9, s10, s11, s12, s13, s14, s15, rfl⟩ := len16 n3
 obtain ⟨t0, t1, t2, t3, t4, t5, t6, t7, t8, t9, t10, t11, t12, t13, t14, t15, rfl⟩ := len16 n4
 have k0 : c0 = .int .u8 cls := one_eq6 q0
 have k1 : c1 = .int .u32 lab := one_eq6 q1
 have k2 : c2 = .int .u8 hop := one_eq6 q2
 have q3 : [c3, c4, c5, c6, c7, c8, c9, c10, c11, c12, c13, c14, c15, c16, c17, c18] = [.int .u8 s0, .int .u8 s1, .int .u8 s2, .int .u8 s3, .int .u8 s4, .int .u8 s5, .int .u8 s6, .int .u8 s7, .int .u8 s8, .int .u8 s9, .int .u8 s10, .int .u8 s11, .int .u8 s12, .int .u8 s13, .int .u8 s14, .int .u8 s15] := q3
 simp only [List.cons.injEq, and_true] at q3
 obtain ⟨rfl, rfl, rfl, rfl, rfl, rfl, rfl, rfl, rfl, rfl, rfl, rfl, rfl, rfl, rfl, rfl⟩ := q3
 have q4 : [c19, c20, c21, c22, c23, c24, c25, c26, c27, c28, c29, c30, c31, c32, c33, c34] = [.int .u8 t0, .int .u8 t1, .int .u8 t2, .int .u8 t3, .int .u8 t4, .int .u8 t5, .int .u8 t6, .int .u8 t7, .int .u8 t8, .int .u8 t9, .int .u8 t10, .int .u8 t11, .int .u8 t12, .int .u8 t13, .int .u8 t14, .int .u8 t15] := q4
 simp only [List.cons.injEq, and_true] at q4
 obtain ⟨rfl, rfl, rfl, rfl, rfl, rfl, rfl, rfl, rfl, rfl, rfl, rfl, rfl, rfl, rfl, rfl⟩ := q4
 have k5 : c35 = .slice hA ps.length hc := one_eq6 q5
 have k6 : c36 = .bool frag := one_eq6 q6
 have k7 : c37 = .int .u32 id := one_eq6 q7
 have k8 : c38 = .int .i64 off := one_eq6 q8
 have k9 : c39 = .bool more := one_eq6 q9
 have k10 : c40 = .int .u8 pro := one_eq6 q10
 have k11 : c41 = .slice bA bl.length bc := one_eq6 q11
 subst k0 k1 k2 k5 k6 k7 k8 k9 k10 k11
 have hkl : (kdL ps).length = ps.length := kdL_len ps
 refine ⟨⟨cls, lab, hop, [s0, s1, s2, s3, s4, s5, s6, s7, s8, s9, s10, s11, s12, s13, s14, s15], [t0, t1, t2, t3, t4, t5, t6, t7, t8, t9, t10, t11, t12, t13, t14, t15], kdL ps, frag, id, off, more, pro, bl⟩, ⟨hA, hc, ps, bA, bc⟩, ?_, ⟨⟨?_, ?_, ?_, rfl, ?_, rfl, ?_, ?_, ?_, ?_⟩, rfl, ?_, yb⟩⟩
 ·rw [← Array.toArray_toList (xs := cs), hcs]
  simp only [D6.cells, hkl]
  rfl
 ·exact bounds_u8 w0
 ·exact ⟨(bounds_u32 w1).1, Int.lt_of_le_of_lt (bounds_u32 w1).2 (by decide)⟩
 ·exact bounds_u8 w2
 ·exact r3
 ·exact r4
 ·exact ⟨(bounds_u32 w7).1, Int.lt_of_le_of_lt (bounds_u32 w7).2 (by decide)⟩
 ·exact bounds_i64 w8
 ·exact bounds_u8 w10
 ·show Kds W.heap.size W hA (kdL ps).length hc ps
  rw [hkl]
  exact yh
end
end Go.Proofs.Ytjnphelfloiadaa
