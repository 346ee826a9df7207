/-
  Lemmas and walks for the row of TofourTells (part 1 of 37).
-/
import Derived.RangeFuncNested
import Derived.RangeFuncBound
import Derived.RangeFuncCalls
import Derived.RangeFuncLeaves
import Derived.RangeFuncBox
import Derived.Shelf.Abstract
import Derived.Shelf.RegionOpen
import Derived.WalkKit
import Derived.OwnWalk
import Derived.OwnWalkIn
import Derived.TacticsInMore
import Derived.LoopNIn
import Derived.LoopIn
import Derived.LoopTactic
import Derived.Deep.LoopGhost
import Derived.Deep.QuietTactic
import Derived.BigQuiet
import Derived.Deep.Draws
import Derived.Deep.AppendLies
import Derived.Maps.AppendAt
import Derived.Laws.MakeOwn
import Derived.Laws.OwnMore
import Derived.Laws.Rows
import Derived.Laws.BytesArg
import Derived.Lib.Hide
import Derived.KernelRfl
import Derived.RegionTactic
import Derived.Test.YtjnphelfloiadaaRows
import Derived.ProofKit
import Derived.OpenShut
import Derived.ShutString
import Derived.ChangeOld
import Derived.Below
import Derived.Deep.Slices
set_option linter.unusedVariables false
set_option linter.unusedSimpArgs false
namespace Go.Proofs.Ytjnphelfloiadaa
open Go.RowKit

theorem ret_int {k : IntKind} {a b : Int} (h : a = b) : Ending.returned (.int k a) = .returned (.int k b) := by rw [h]
/-- the slice (A, n, c) holds the values vs, one cell each, in a block below B -/
structure Row (B : Nat) (w : World) (A : Option Addr) (n c : Nat) (vs : List Value) : Prop where
 len : vs.length = n
 cap : n ≤ c
 at_ : 0 < n → ∃ b off, A = some ⟨b, off, none⟩ ∧ b < B ∧ ∀ j, j < n → w.cell? ⟨b, off + j, none⟩ = vs[j]?

theorem Row.keep {B : Nat} {w w' : World} {A : Option Addr} {n c : Nat} {vs : List Value} (h : Row B w A n c vs) (hk : ∀ p : Addr, p.block < B → w'.cell? p = w.cell? p) : Row B w' A n c vs :=
 ⟨h.len, h.cap, fun hn => by
  obtain ⟨b, off, e, hb, hc⟩ := h.at_ hn
  exact ⟨b, off, e, hb, fun j hj => (hk ⟨b, off + j, none⟩ hb).trans (hc j hj)⟩⟩
theorem Row.below {B B' : Nat} {w w' : World} {A : Option Addr} {n c : Nat} {vs : List Value} (h : Row B w A n c vs) (hb : Below B' w w') (hB : B ≤ B') : Row B w' A n c vs :=
 h.keep fun _ hp => hb.cell (Nat.lt_of_lt_of_le hp hB)
theorem Row.more {B B' : Nat} {w : World} {A : Option Addr} {n c : Nat} {vs : List Value} (h : Row B w A n c vs) (hB : B ≤ B') : Row B' w A n c vs :=
 ⟨h.len, h.cap, fun hn => by
  obtain ⟨b, off, e, hb, hc⟩ := h.at_ hn
  exact ⟨b, off, e, Nat.lt_of_lt_of_le hb hB, hc⟩⟩
theorem Row.get {B : Nat} {w : World} {A : Option Addr} {n c k : Nat} {vs : List Value} (h : Row B w A n c vs) (hk : k < n) : ∃ b off v, A = some ⟨b, off, none⟩ ∧ b < B ∧ vs[k]? = some v ∧ w.cell? ⟨b, off + k, none⟩ = some v := by
 obtain ⟨b, off, e, hb, hc⟩ := h.at_ (by omega)
 have hl : k < vs.length := by have := h.len; omega
 exact ⟨b, off, vs[k], e, hb, List.getElem?_eq_getElem hl, (hc k hk).trans (List.getElem?_eq_getElem hl)⟩
theorem Row.nil (B : Nat) (w : World) (A : Option Addr) (c : Nat) : Row B w A 0 c [] := ⟨rfl, Nat.zero_le _, fun h => absurd h (by omega)⟩

theorem below_drewN (B : Nat) (w : World) (n : Nat) : Below B w (w.drewN n) := ⟨rfl, rfl, rfl, Nat.le_refl _, fun _ _ => rfl⟩
/-- whole numbers of a byte -/
def InB (l : List Int) : Prop := ∀ x ∈ l, 0 ≤ x ∧ x ≤ 255
theorem InB.nil : InB [] := fun _ h => by cases h
theorem InB.get {l : List Int} (h : InB l) {k : Nat} (hk : k < l.length) : 0 ≤ l[k] ∧ l[k] ≤ 255 := h _ (List.getElem_mem hk)
theorem InB.app {l m : List Int} (h : InB l) (h' : InB m) : InB (l ++ m) := fun x hx => (List.mem_append.1 hx).elim (h x) (h' x)
theorem InB.take {l : List Int} (h : InB l) (k : Nat) : InB (l.take k) := fun x hx => h x (List.mem_of_mem_take hx)
theorem InB.drop {l : List Int} (h : InB l) (k : Nat) : InB (l.drop k) := fun x hx => h x (List.mem_of_mem_drop hx)

def u8s (l : List Int) : List Value := l.map (Value.int .u8)
theorem u8s_length (l : List Int) : (u8s l).length = l.length := by simp [u8s]
theorem u8s_append (l m : List Int) : u8s (l ++ m) = u8s l ++ u8s m := by simp [u8s]

theorem len16 {α : Type} {l : List α} (h : l.length = 16) : ∃ x0 x1 x2 x3 x4 x5 x6 x7 x8 x9 x10 x11 x12 x13 x14 x15, l = [x0, x1, x2, x3, x4, x5, x6, x7, x8, x9, x10, x11, x12, x13, x14, x15] := by
 match l, h with
 | [x0, x1, x2, x3, x4, x5, x6, x7, x8, x9, x10, x11, x12, x13, x14, x15], _ => exact ⟨x0, x1, x2, x3, x4, x5, x6, x7, x8, x9, x10, x11, x12, x13, x14, x15, rfl⟩

/-- the slice holds the bytes l -/
structure By (B : Nat) (w : World) (A : Option Addr) (n c : Nat) (l : List Int) : Prop where
 row : Row B w A n c (u8s l)
 rng : InB l
 big : c ≤ 9223372036854775807

theorem By.len {B : Nat} {w : World} {A : Option Addr} {n c : Nat} {l : List Int} (h : By B w A n c l) : l.length = n := by have := h.row.len; rwa [u8s_length] at this
theorem By.cap {B : Nat} {w : World} {A : Option Addr} {n c : Nat} {l : List Int} (h : By B w A n c l) : n ≤ c := h.row.cap
theorem By.below {B B' : Nat} {w w' : World} {A : Option Addr} {n c : Nat} {l : List Int} (h : By B w A n c l) (hb : Below B' w w') (hB : B ≤ B') : By B w' A n c l := ⟨h.row.below hb hB, h.rng, h.big⟩
theorem By.more {B B' : Nat} {w : World} {A : Option Addr} {n c : Nat} {l : List Int} (h : By B w A n c l) (hB : B ≤ B') : By B' w A n c l := ⟨h.row.more hB, h.rng, h.big⟩
theorem By.get {B : Nat} {w : World} {A : Option Addr} {n c k : Nat} {l : List Int} (h : By B w A n c l) (hk : k < n) : ∃ b off x, A = some ⟨b, off, none⟩ ∧ b < B ∧ l[k]? = some x ∧ w.cell? ⟨b, off + k, none⟩ = some (.int .u8 x) ∧ 0 ≤ x ∧ x ≤ 255 := by
 have hl : k < l.length := by have := h.len; omega
 obtain ⟨b, off, e, hb, hc⟩ := h.row.at_ (by omega)
 refine ⟨b, off, l[k], e, hb, List.getElem?_eq_getElem hl, ?_, h.rng.get hl⟩
 rw [hc k hk]
 simp [u8s, List.getElem?_eq_getElem hl]
theorem By.nil (B : Nat) (w : World) (A : Option Addr) {c : Nat} (hc : c ≤ 9223372036854775807) : By B w A 0 c [] := ⟨Row.nil _ _ _ _, InB.nil, hc⟩

theorem Row.take {B : Nat} {w : World} {A : Option Addr} {n c k : Nat} {vs : List Value} (h : Row B w A n c vs) (hk : k ≤ n) : Row B w A k c (vs.take k) :=
 ⟨by rw [List.length_take, h.len]; omega, by have := h.cap; omega, fun hp => by
  obtain ⟨b, off, e, hb, hc⟩ := h.at_ (by omega)
  exact ⟨b, off, e, hb, fun j hj => by rw [hc j (by omega), List.getElem?_take, if_pos hj]⟩⟩
theorem By.take {B : Nat} {w : World} {A : Option Addr} {n c k : Nat} {l : List Int} (h : By B w A n c l) (hk : k ≤ n) : By B w A k c (l.take k) :=
 ⟨by rw [u8s, List.map_take]; exact h.row.take hk, h.rng.take k, h.big⟩
/-- what lies behind the first k elements: the model keeps the address where nothing can follow -/
theorem Row.cut {B : Nat} {w : World} {A : Option Addr} {n c k : Nat} {vs : List Value} (h : Row B w A n c vs) (hk : k ≤ n) : Row B w (if c = k then A else A.map (·.add k)) (n - k) (c - k) (vs.drop k) :=
 ⟨by rw [List.length_drop, h.len], by have := h.cap; omega, fun hp => by
  obtain ⟨b, off, rfl, hb, hc⟩ := h.at_ (by omega)
  have := h.cap
  rw [if_neg (by omega)]
  refine ⟨b, off + k, by simp [Go.WideShapes.add_plain], hb, fun j hj => ?_⟩
  rw [Nat.add_assoc, hc (k + j) (by omega), List.getElem?_drop]⟩
theorem By.cut {B : Nat} {w : World} {A : Option Addr} {n c k : Nat} {l : List Int} (h : By B w A n c l) (hk : k ≤ n) : By B w (if c = k then A else A.map (·.add k)) (n - k) (c - k) (l.drop k) :=
 ⟨by rw [u8s, List.map_drop]; exact h.row.cut hk, h.rng.drop k, by have := h.big; omega⟩
theorem By.alloc {B : Nat} {w : World} {A : Option Addr} {n c : Nat} {l : List Int} (h : By B w A n c l) (hB : B ≤ w.heap.size) (o : Obj) : By B (w.alloc o) A n c l := h.below ((Below.refl _ _).alloc (Nat.le_refl _) o) hB
theorem By.drew {B : Nat} {w : World} {A : Option Addr} {n c : Nat} {l : List Int} (h : By B w A n c l) : By B w.drew A n c l := h.below (Below.refl B w).drew (Nat.le_refl _)
/-- a new block of bytes -/
theorem By.new (w : World) (t : TypeId) (l : List Int) (hl : InB l) (hb : l.length ≤ 9223372036854775807) : By (w.heap.size + 1) (w.alloc (.cells (u8s l).toArray t)) (some ⟨w.heap.size, 0, none⟩) l.length l.length l :=
 ⟨⟨u8s_length l, Nat.le_refl _, fun _ => ⟨w.heap.size, 0, rfl, by omega, fun j _ => by
  unfold World.cell?; rw [World.alloc_heap_new]; simp⟩⟩, hl, hb⟩

/-- a slice of bytes: where it lies, its capacity, its bytes -/
abbrev Sl := Option Addr × Nat × List Int
def flat (xs : List Sl) : List Int := (xs.map (·.2.2)).flatten

/-- the slice holds these slices of bytes -/
structure Parts (B : Nat) (w : World) (A : Option Addr) (n c : Nat) (xs : List Sl) : Prop where
 len : xs.length = n
 cap : n ≤ c
 big : c ≤ 9223372036854775807
 at_ : ∀ k x, xs[k]? = some x → ∃ b off, A = some ⟨b, off, none⟩ ∧ b < B ∧ w.cell? ⟨b, off + k, none⟩ = some (.slice x.1 x.2.2.length x.2.1) ∧ By B w x.1 x.2.2.length x.2.1 x.2.2

theorem flat_take_succ {xs : List Sl} {k : Nat} (hlt : k < xs.length) : flat (xs.take (k + 1)) = flat (xs.take k) ++ xs[k].2.2 := by
 rw [List.take_succ_eq_append_getElem hlt]; unfold flat; rw [List.map_append, List.flatten_append]; simp
theorem flat_take_le (xs : List Sl) (k : Nat) : (flat (xs.take k)).length ≤ (flat xs).length := by
 have h := congrArg (fun l => (flat l).length) (List.take_append_drop k xs)
 simp only [flat, List.map_append, List.flatten_append, List.length_append] at h ⊢
 omega
theorem Parts.below {B B' : Nat} {w w' : World} {A : Option Addr} {n c : Nat} {xs : List Sl} (h : Parts B w A n c xs) (hb : Below B' w w') (hB : B ≤ B') : Parts B w' A n c xs :=
 ⟨h.len, h.cap, h.big, fun k l hk => by
  obtain ⟨b, off, e, hlt, hc, hy⟩ := h.at_ k l hk
  exact ⟨b, off, e, hlt, (hb.cell (p := ⟨b, off + k, none⟩) (Nat.lt_of_lt_of_le hlt hB)).trans hc, hy.below hb hB⟩⟩
theorem Parts.more {B B' : Nat} {w : World} {A : Option Addr} {n c : Nat} {xs : List Sl} (h : Parts B w A n c xs) (hB : B ≤ B') : Parts B' w A n c xs :=
 ⟨h.len, h.cap, h.big, fun k l hk => by
  obtain ⟨b, off, e, hlt, hc, hy⟩ := h.at_ k l hk
  exact ⟨b, off, e, Nat.lt_of_lt_of_le hlt hB, hc, hy.more hB⟩⟩
theorem Parts.drew {B : Nat} {w : World} {A : Option Addr} {n c : Nat} {xs : List Sl} (h : Parts B w A n c xs) : Parts B w.drew A n c xs := h.below (Below.refl B w).drew (Nat.le_refl _)
theorem Parts.rng {B : Nat} {w : World} {A : Option Addr} {n c : Nat} {xs : List Sl} (h : Parts B w A n c xs) : InB (flat xs) := by
 intro x hx
 obtain ⟨l, hl, hxl⟩ := List.mem_flatten.1 hx
 obtain ⟨y, hy, rfl⟩ := List.mem_map.1 hl
 obtain ⟨k, hk⟩ := List.mem_iff_getElem?.1 hy
 obtain ⟨_, _, _, _, _, hy⟩ := h.at_ k y hk
 exact hy.rng x hxl
/-- a new row of byte slices -/
theorem Parts.new (w : World) (t : TypeId) (xs : List Sl) (hb : xs.length ≤ 9223372036854775807) (h : ∀ x ∈ xs, By w.heap.size w x.1 x.2.2.length x.2.1 x.2.2) :
  Parts (w.heap.size + 1) (w.alloc (.cells (xs.map fun x => Value.slice x.1 x.2.2.length x.2.1).toArray t)) (some ⟨w.heap.size, 0, none⟩) xs.length xs.length xs :=
 ⟨rfl, Nat.le_refl _, hb, fun k x hx => by
  refine ⟨w.heap.size, 0, rfl, by omega, ?_, ?_⟩
  ·unfold World.cell?; rw [World.alloc_heap_new]; simp [hx]
  ·refine By.below (B' := w.heap.size) ?_ ((Below.refl _ _).alloc (Nat.le_refl _) _) (Nat.le_refl _) |>.more (by omega)
   exact h x (List.mem_of_getElem? hx)⟩
def Has (w : World) (g : Nat) (o : Obj) : Prop := w.heap[g]? = some o
theorem Has.newAt {w : World} {o : Obj} {k : Nat} (h : k = w.heap.size) : Has (w.alloc o) k o := by subst h; exact World.alloc_heap_new w o
theorem Has.lt {w : World} {g : Nat} {o : Obj} (h : Has w g o) : g < w.heap.size := (Array.getElem?_eq_some_iff.1 h).1
theorem Has.cell {w : World} {g : Nat} {cs : Array Value} {t : TypeId} {fz : Nat × Nat} (h : Has w g (.cells cs t fz)) (k : Nat) {v : Value} (hv : cs[k]? = some v) : w.cell? ⟨g, k, none⟩ = some v := by unfold World.cell?; rw [show w.heap[g]? = _ from h]; simpa using hv
theorem Has.free {w : World} {g : Nat} {cs : Array Value} {t : TypeId} (h : Has w g (.cells cs t (0, 0))) (k : Nat) : w.frozen? ⟨g, k, none⟩ = false := by unfold World.frozen?; rw [show w.heap[g]? = _ from h]; simp
theorem Has.alloc {w : World} {g : Nat} {o o' : Obj} (h : Has w g o) : Has (w.alloc o') g o := (Below.heap_alloc w o' g h.lt).trans h
theorem Has.drew {w : World} {g : Nat} {o : Obj} (h : Has w g o) : Has w.drew g o := h
theorem Has.drewN {w : World} {g n : Nat} {o : Obj} (h : Has w g o) : Has (w.drewN n) g o := h
theorem Has.below {w w' : World} {g B : Nat} {o : Obj} (h : Has w g o) (hb : Below B w w') (hg : g < B) : Has w' g o := (hb.block g hg).trans h
theorem Row.blk {w : World} {g : Nat} {vs : List Value} {t : TypeId} {fz : Nat × Nat} {B n c : Nat} (h : Has w g (.cells vs.toArray t fz)) (hB : w.heap.size ≤ B) (hn : n = vs.length) (hc : c = vs.length) : Row B w (some ⟨g, 0, none⟩) n c vs := by
 subst hn hc
 exact ⟨rfl, Nat.le_refl _, fun _ => ⟨g, 0, rfl, Nat.lt_of_lt_of_le h.lt hB, fun j _ => by unfold World.cell?; rw [show w.heap[g]? = _ from h]; simp⟩⟩
theorem By.blk {w : World} {g : Nat} {l : List Int} {t : TypeId} {fz : Nat × Nat} {B n c : Nat} (h : Has w g (.cells (u8s l).toArray t fz)) (hB : w.heap.size ≤ B) (hl : InB l) (hb : l.length ≤ 9223372036854775807) (hn : n = l.length) (hc : c = l.length) : By B w (some ⟨g, 0, none⟩) n c l := by
 subst hn hc
 exact ⟨⟨u8s_length l, Nat.le_refl _, fun _ => ⟨g, 0, rfl, Nat.lt_of_lt_of_le h.lt hB, fun j _ => by unfold World.cell?; rw [show w.heap[g]? = _ from h]; simp⟩⟩, hl, hb⟩
theorem By.blk' {w : World} {g : Nat} {l : List Int} {t : TypeId} {fz : Nat × Nat} {B n c : Nat} (h : Has w g (.cells (u8s l).toArray t fz)) (hB : g < B) (hl : InB l) (hb : l.length ≤ 9223372036854775807) (hn : n = l.length) (hc : c = l.length) : By B w (some ⟨g, 0, none⟩) n c l := by
 subst hn hc
 exact ⟨⟨u8s_length l, Nat.le_refl _, fun _ => ⟨g, 0, rfl, hB, fun j _ => by unfold World.cell?; rw [show w.heap[g]? = _ from h]; simp⟩⟩, hl, hb⟩
theorem Parts.blk {w : World} {g : Nat} {xs : List Sl} {t : TypeId} {fz : Nat × Nat} {B n : Nat} (h : Has w g (.cells (xs.map fun x => Value.slice x.1 x.2.2.length x.2.1).toArray t fz)) (hB : w.heap.size ≤ B) (hn : n = xs.length) (hy : ∀ x ∈ xs, By B w x.1 x.2.2.length x.2.1 x.2.2) (hb : xs.length ≤ 9223372036854775807) :
  Parts B w (some ⟨g, 0, none⟩) n n xs := by
 subst hn
 exact ⟨rfl, Nat.le_refl _, hb, fun k x hx => ⟨g, 0, rfl, Nat.lt_of_lt_of_le h.lt hB, by unfold World.cell?; rw [show w.heap[g]? = _ from h]; simp [hx], hy x (List.mem_of_getElem? hx)⟩⟩
theorem all1 {α : Type} {P : α → Prop} {a : α} (h : P a) : ∀ x ∈ [a], P x := fun x hx => by simp at hx; subst hx; exact h
theorem all2 {α : Type} {P : α → Prop} {a b : α} (h : P a) (h' : P b) : ∀ x ∈ [a, b], P x := fun x hx => by simp at hx; rcases hx with rfl | rfl <;> first | exact h | exact h'
theorem all3 {α : Type} {P : α → Prop} {a b c : α} (h : P a) (h' : P b) (h'' : P c) : ∀ x ∈ [a, b, c], P x := fun x hx => by simp at hx; rcases hx with rfl | rfl | rfl <;> first | exact h | exact h' | exact h''
theorem all4 {α : Type} {P : α → Prop} {a b c d : α} (h : P a) (h' : P b) (h'' : P c) (h3 : P d) : ∀ x ∈ [a, b, c, d], P x := fun x hx => by simp at hx; rcases hx with rfl | rfl | rfl | rfl <;> first | exact h | exact h' | exact h'' | exact h3
theorem Parts.of1 {B : Nat} {w : World} {b : Nat} (x : Sl) (hb : b < B) (hc : w.cell? ⟨b, 0, none⟩ = some (.slice x.1 x.2.2.length x.2.1)) (hy : By B w x.1 x.2.2.length x.2.1 x.2.2) : Parts B w (some ⟨b, 0, none⟩) 1 1 [x] :=
 ⟨rfl, Nat.le_refl _, by decide, fun k x' hk => by
  match k, hk with
  | 0, hk => injection hk with hk; subst hk; exact ⟨b, 0, rfl, hb, hc, hy⟩⟩

/-- all blocks below B but X lie as they lay -/
structure BelowX (B X : Nat) (w w' : World) : Prop where
 size : w.heap.size ≤ w'.heap.size
 block : ∀ k, k < B → k ≠ X → w'.heap[k]? = w.heap[k]?
theorem BelowX.refl (B X : Nat) (w : World) : BelowX B X w w := ⟨Nat.le_refl _, fun _ _ _ => rfl⟩
theorem BelowX.trans {B X : Nat} {a b c : World} (h : BelowX B X a b) (k : BelowX B X b c) : BelowX B X a c := ⟨Nat.le_trans h.size k.size, fun i hi hx => (k.block i hi hx).trans (h.block i hi hx)⟩
theorem BelowX.setCell {B X : Nat} {a w : World} (h : BelowX B X a w) {p : Addr} (hp : p.block = X) (u : Value) : BelowX B X a (w.setCell p u) :=
 ⟨Nat.le_trans h.size (by simp [World.setCell]), fun k hk hx => (Below.heap_setCell w p u k (by rw [hp]; exact hx)).trans (h.block k hk hx)⟩
theorem BelowX.cell {B X : Nat} {w w' : World} (h : BelowX B X w w') {p : Addr} (hp : p.block < B) (hx : p.block ≠ X) : w'.cell? p = w.cell? p := World.cell?_of_block (w := w) (h.block p.block hp hx)
theorem By.belowX {B B' X : Nat} {w w' : World} {A : Option Addr} {n c : Nat} {l : List Int} (h : By X w A n c l) (hb : BelowX B' X w w') (hX : X ≤ B') (hB : X ≤ B) : By B w' A n c l :=
 ⟨(h.row.keep fun p hp => hb.cell (by omega) (by omega)).more hB, h.rng, h.big⟩
theorem belowX_b {n₀ X : Nat} {w : World} (hn : n₀ ≤ w.heap.size) (W : World) (l : Nat) (o o' : Obj) (hl : w.heap.size ≤ l) (_ : W.heap[l]? = some o) (_ : o.isCells = false) (_ : o.isWalk = false) : BelowX n₀ X W (W.putObj l o') :=
 ⟨by simp, fun k hk _ => World.putObj_heap_other (by omega)⟩
theorem ownFrom_heap {β : Type} {B D : Nat} {o : Obj} (hD : D < B) : OwnFrom B (fun (_ : β) W => W.heap[D]? = some o) :=
 fun _ _ _ _ hs hg hr => (hg.block D (Array.getElem?_eq_some_iff.1 hs).1 (fun e => by have := (hr D e.symm).1; omega)).trans hs

theorem own_shape {w : World} {base n : Nat} {e : TypeId} {size : Nat} {v : Value} {vs : List Value} (h : w.ownsRow base e size v n vs) : ∃ A c, v = .slice A n c ∧ c ≤ 9223372036854775807 := by
 rcases h.2 with ⟨rfl, rfl⟩ | ⟨g, cap, cur, rfl, _, _, _, h1, _⟩
 ·exact ⟨none, 0, rfl, by omega⟩
 ·exact ⟨_, cap, rfl, h1⟩
theorem own_row {w : World} {base n c : Nat} {e : TypeId} {A : Option Addr} {vs : List Value} (h : w.ownsRow base e 1 (.slice A n c) n vs) : Row w.heap.size w A n c vs := by
 have hl : vs.length = n := by have := h.1; omega
 rcases h.2 with ⟨h0, rfl⟩ | ⟨g, cap, cur, h0, _, hh, hnc, _, hsz, htk⟩
 ·injection h0 with h1 h2 h3; subst h1 h3
  exact ⟨hl, Nat.le_refl _, fun h => absurd h (by omega)⟩
 ·injection h0 with h1 h2 h3; subst h1 h3
  refine ⟨hl, hnc, fun _ => ⟨g, 0, rfl, (Array.getElem?_eq_some_iff.1 hh).1, fun j hj => ?_⟩⟩
  simp only [World.cell?, hh, Option.isSome_none, Bool.false_eq_true, if_false, Nat.zero_add]
  rw [← htk, List.getElem?_take, if_pos (by omega)]
  simp
theorem own_below {w w' : World} {base n : Nat} {e : TypeId} {size : Nat} {v : Value} {vs : List Value} (h : w.ownsRow base e size v n vs) (hb : Below w.heap.size w w') : w'.ownsRow base e size v n vs :=
 h.kept (row := none) ⟨hb.os, hb.tape, hb.output, hb.size, fun i hi _ => hb.block i hi⟩ (by cases v.ownBlock <;> simp)

/-- two rows in different blocks -/
def NeB (v v' : Value) : Prop := ∀ k, v.ownBlock = some k → v'.ownBlock ≠ some k
theorem own_keep2 {w w' : World} {base n : Nat} {e : TypeId} {size : Nat} {v v2 : Value} {vs : List Value} (h : w.ownsRow base e size v2 n vs) (hne : NeB v v2) (hg : w.grownBy w' v.ownBlock) : w'.ownsRow base e size v2 n vs :=
 h.kept hg (by
  cases h2 : v2.ownBlock with
  | none => exact .inl rfl
  | some k => exact .inr fun e => hne k e.symm h2)
theorem ne_app {w : World} {base n k : Nat} {e : TypeId} {size : Nat} {v v' v2 : Value} {vs : List Value} (h : w.ownsRow base e size v2 n vs) (hne : NeB v v2) (hk : w.heap.size ≤ k) (hat : v'.ownBlock = v.ownBlock ∨ v'.ownBlock = some k) : NeB v' v2 := by
 intro j hj hj2
 rcases hat with e | e
 ·exact hne j (e ▸ hj) hj2
 ·have := (h.lt j hj2).2
  rw [e] at hj
  injection hj with hj
  omega
theorem ne_new {w : World} {base base' n n' : Nat} {e e' : TypeId} {size size' : Nat} {v v2 : Value} {vs vs' : List Value} {w1 : World} (h : w1.ownsRow base e size v n vs) (h2 : w.ownsRow base' e' size' v2 n' vs') (hb : w1.heap.size ≤ base') : NeB v v2 := by
 intro j hj hj2
 have := (h.lt j hj).2
 have := (h2.lt j hj2).1
 omega

/-- bytes in a row of the call's own -/
structure OwnB (w : World) (base : Nat) (v : Value) (l : List Int) : Prop where
 own : w.ownsRow base 5 1 v l.length (u8s l)
 rng : InB l
theorem OwnB.nil (w : World) (base : Nat) : OwnB w base (.slice none 0 0) [] := ⟨World.ownsRow_nil w base _ 1, InB.nil⟩
theorem OwnB.by_ {w : World} {base : Nat} {v : Value} {l : List Int} (h : OwnB w base v l) : ∃ A c, v = .slice A l.length c ∧ By w.heap.size w A l.length c l := by
 obtain ⟨A, c, rfl, hc⟩ := own_shape h.own
 exact ⟨A, c, rfl, own_row h.own, h.rng, hc⟩
theorem OwnB.below {w w' : World} {base : Nat} {v : Value} {l : List Int} (h : OwnB w base v l) (hb : Below w.heap.size w w') : OwnB w' base v l := ⟨own_below h.own hb, h.rng⟩
theorem OwnB.more {w : World} {base base' : Nat} {v : Value} {l : List Int} (h : OwnB w base v l) (hb : base' ≤ base) : OwnB w base' v l := by
 refine ⟨⟨h.own.1, ?_⟩, h.rng⟩
 rcases h.own.2 with h0 | ⟨g, cap, cur, h0, hg, rest⟩
 ·exact .inl h0
 ·exact .inr ⟨g, cap, cur, h0, Nat.le_trans hb hg, rest⟩
theorem OwnB.base {w : World} {base : Nat} {v : Value} {l : List Int} (h : OwnB w base v l) (k : Nat) (hk : v.ownBlock = some k) : base ≤ k ∧ k < w.heap.size := h.own.lt k hk

section
variable {P : Program} (w : World)
theorem run_append_of_nil (base : Nat) (t ty e : TypeId) (i : TypeInfo) (size : Nat) (ht : P.underlying t = some (.slice e)) (hi : P.info? e = some i)
  (v : Value) (n : Nat) (xs : List Value) (hown : w.ownsRow base e size v n xs) (c : Nat) : (Builtin.append_ #[t, t] ty #[v, .slice none 0 c]).run P w = .ok v w := by
 rcases hown.2 with ⟨rfl, rfl⟩ | ⟨g, cap, cur, rfl, _, _, hnc, _⟩
 ·simp [Builtin.append_, run_underlying ht, sizeOf, typeInfo, hi, Builtin.lenOf, Builtin.firstCells]
 ·simp [Builtin.append_, run_underlying ht, sizeOf, typeInfo, hi, Builtin.lenOf, Builtin.firstCells, hnc, storeCells]

/-- append onto a row of the call's own, whatever the source -/
theorem run_append_row (base : Nat) (t ty e : TypeId) (i : TypeInfo) (z : Value) (bytes : Nat) (ht : P.underlying t = some (.slice e)) (hi : P.info? e = some i) (hz : i.zero = some z)
  (hsize : i.size = 1) (hby : i.bytes = bytes) (hzs : z.cells.size = 1)
  (v : Value) (n : Nat) (xs : List Value) (hown : w.ownsRow base e 1 v n xs)
  (B : Nat) (A : Option Addr) (m c : Nat) (news : List Value) (hr : Row B w A m c news) (h1 : ∀ u ∈ news, u.oneCell' = true)
  (h63 : n + m ≤ maxLen) (hbytes : (n + m) * bytes ≤ 140737488355328) (hbase : base ≤ w.heap.size) :
  ∃ v' w', (Builtin.append_ #[t, t] ty #[v, .slice A m c]).run P w = .ok v' w' ∧ w'.ownsRow base e 1 v' (n + m) (xs ++ news) ∧ w.grownBy w' v.ownBlock ∧
   (v'.ownBlock = v.ownBlock ∨ v'.ownBlock = some w.heap.size) := by
 rcases A with _ | ad
 ·have hm : m = 0 := by
   rcases Nat.eq_zero_or_pos m with h0 | h0
   ·exact h0
   ·obtain ⟨_, _, h, _⟩ := hr.at_ h0
    cases h
  subst hm
  have hn : news = [] := List.eq_nil_of_length_eq_zero hr.len
  subst hn
  exact ⟨v, w, run_append_of_nil w base t ty e i 1 ht hi v n xs hown c, by simpa using hown, World.grownBy.refl w _, .inl rfl⟩
 ·have hcells : ∀ j u, news[j]? = some u → w.cell? (ad.add j) = some u := by
   intro j u hu
   have hjm : j < m := by have := hr.len; have := (List.getElem?_eq_some_iff.1 hu).1; omega
   obtain ⟨b, off, h, _, hc⟩ := hr.at_ (by omega)
   injection h with h
   subst h
   rw [Go.WideShapes.add_plain, hc j hjm]; exact hu
  obtain ⟨v', w', hrun, h2, h3, _, h5⟩ := run_append_own_at (P := P) w base t ty e i z 1 bytes ht hi hz hsize hby hzs (by decide) v n xs hown ad m c news (by rw [hr.len]; omega) hcells h1 h63 hbytes hbase
  exact ⟨v', w', hrun, h2, h3, h5⟩

theorem wp_append_row {o : Oper} {a : Act} {K : Act → World → Prop} {Q : Exit → Act → World → Prop} (s x : Operand) (t : TypeId)
  (ho : o.op = .call { callee := .builtin .append, args := #[s, x], argTypes := #[t, t] })
  (base : Nat) (e : TypeId) (z : Value) (bytes : Nat) (ht : P.underlying t = some (.slice e)) (hinfo : (P.info? e).map (fun i => (i.zero, i.size, i.bytes)) = some (some z, 1, bytes)) (hzs : z.cells.size = 1)
  (v : Value) (n : Nat) (xs : List Value) (hs : a.eval s = v) (hown : w.ownsRow base e 1 v n xs)
  (B : Nat) (A : Option Addr) (m c : Nat) (news : List Value) (hx : a.eval x = .slice A m c) (hr : Row B w A m c news) (h1 : ∀ u ∈ news, u.oneCell' = true)
  (h63 : n + m ≤ maxLen) (hbytes : (n + m) * bytes ≤ 140737488355328) (hbase : base ≤ w.heap.size)
  (h : ∀ v' w', w'.ownsRow base e 1 v' (n + m) (xs ++ news) → w.grownBy w' v.ownBlock → (v'.ownBlock = v.ownBlock ∨ v'.ownBlock = some w.heap.size) → K (a.put o.dst v') w') : o.wp P a w K Q := by
 obtain ⟨i, hi, hz, hsize, hby⟩ := info_parts hinfo
 obtain ⟨v', w', hrun, h2, h3, h4⟩ := run_append_row (P := P) w base t o.type e i z bytes ht hi hz hsize hby hzs v n xs hown B A m c news hr h1 h63 hbytes hbase
 unfold Oper.wp execOp
 simp only [ho, resolve, invoke, builtin, Sem.run_bind, Sem.run_pure, Result.andThen_ok, List.map_toArray, List.map_cons, List.map_nil, hs, hx, hrun]
 exact h v' w' h2 h3 h4

/-- append of whatever has one cell an element -/
theorem wpList_appRow {ops : Array Oper} {rest : List Oper} {o : Oper} {a : Act} {Q : Exit → Act → World → Prop} (hgd : o.guard = none) (s x : Operand) (t : TypeId)
  (ho : o.op = .call { callee := .builtin .append, args := #[s, x], argTypes := #[t, t] })
  (e : TypeId) (z : Value) (bytes : Nat) (ht : P.underlying t = some (.slice e)) (hinfo : (P.info? e).map (fun i => (i.zero, i.size, i.bytes)) = some (some z, 1, bytes)) (hzs : z.cells.size = 1)
  (base : Nat) (v : Value) (n : Nat) (xs : List Value) (hs : a.eval s = v) (hown : w.ownsRow base e 1 v n xs)
  (B : Nat) (A : Option Addr) (m c : Nat) (news : List Value) (hx : a.eval x = .slice A m c) (hr : Row B w A m c news) (h1 : ∀ u ∈ news, u.oneCell' = true)
  (h63 : n + m ≤ maxLen) (hbytes : (n + m) * bytes ≤ 140737488355328) (hbase : base ≤ w.heap.size)
  (h : ∀ v' w', w'.ownsRow base e 1 v' (n + m) (xs ++ news) → w.grownBy w' v.ownBlock → (v'.ownBlock = v.ownBlock ∨ v'.ownBlock = some w.heap.size) → wpList P ops Q rest (a.put o.dst v') w') : wpList P ops Q (o :: rest) a w :=
 wpList_plain hgd fun _ hK => wp_append_row w s x t ho base e z bytes ht hinfo hzs v n xs hs hown B A m c news hx hr h1 h63 hbytes hbase fun v' w' h2 h3 h4 => hK _ _ (h v' w' h2 h3 h4)

/-- append of bytes -/
theorem wpList_appB {ops : Array Oper} {rest : List Oper} {o : Oper} {a : Act} {Q : Exit → Act → World → Prop} (hgd : o.guard = none) (s x : Operand) (t : TypeId)
  (ho : o.op = .call { callee := .builtin .append, args := #[s, x], argTypes := #[t, t] })
  (ht : P.underlying t = some (.slice 5)) (hinfo : (P.info? 5).map (fun i => (i.zero, i.size, i.bytes)) = some (some (.int .u8 0), 1, 1))
  (base : Nat) (v : Value) (l : List Int) (hs : a.eval s = v) (hown : OwnB w base v l)
  (B : Nat) (A : Option Addr) (m c : Nat) (l' : List Int) (hx : a.eval x = .slice A m c) (hr : By B w A m c l')
  (hbytes : l.length + m ≤ 140737488355328) (hbase : base ≤ w.heap.size)
  (h : ∀ v' w', OwnB w' base v' (l ++ l') → w.grownBy w' v.ownBlock → (v'.ownBlock = v.ownBlock ∨ v'.ownBlock = some w.heap.size) → wpList P ops Q rest (a.put o.dst v') w') : wpList P ops Q (o :: rest) a w :=
 wpList_plain hgd fun _ hK => wp_append_row w s x t ho base _ _ 1 ht hinfo rfl v l.length (u8s l) hs hown.own B A m c (u8s l') hx hr.row (fun u hu => by
   obtain ⟨y, _, rfl⟩ := List.mem_map.1 hu; rfl) (by simp only [maxLen]; omega) (by omega) hbase
  fun v' w' h2 h3 h4 => hK _ _ (h v' w' ⟨by rw [List.length_append, hr.len, u8s_append]; exact h2, hown.rng.app hr.rng⟩ h3 h4)

/-- a row after an append onto another one, or onto this one's own growth -/
theorem OwnB.grown {w w' : World} {base : Nat} {v : Value} {l : List Int} (h : OwnB w base v l) {row : Option Nat} (hg : w.grownBy w' row) (hne : v.ownBlock = none ∨ v.ownBlock ≠ row) : OwnB w' base v l := ⟨h.own.kept hg hne, h.rng⟩
theorem below_own {w w' : World} {base n : Nat} {e : TypeId} {size : Nat} {v : Value} {vs : List Value} (h : w.ownsRow base e size v n vs) (hg : w.grownBy w' v.ownBlock) (hb : base ≤ w.heap.size) : Below base w w' :=
 (Below.refl _ _).grown hg hb fun k hk => (h.lt k hk).1
theorem below_app {w w' : World} {base : Nat} {v : Value} {l : List Int} (h : OwnB w base v l) (hg : w.grownBy w' v.ownBlock) (hb : base ≤ w.heap.size) : Below base w w' :=
 (Below.refl _ _).grown hg hb fun k hk => (h.base k hk).1

/-- append of bytes, in a region that draws its order -/
theorem step_appB {ops : Array Oper} {o : Oper} {a : Act} {K : Act → World → Prop} {Q : Exit → Act → World → Prop} {E : Prop} (hgd : o.guard = none) (s x : Operand) (t : TypeId)
  (ho : o.op = .call { callee := .builtin .append, args := #[s, x], argTypes := #[t, t] })
  (ht : P.underlying t = some (.slice 5)) (hinfo : (P.info? 5).map (fun i => (i.zero, i.size, i.bytes)) = some (some (.int .u8 0), 1, 1))
  (base : Nat) (v : Value) (l : List Int) (hs : a.eval s = v) (hown : OwnB w base v l)
  (B : Nat) (A : Option Addr) (m c : Nat) (l' : List Int) (hx : a.eval x = .slice A m c) (hr : By B w A m c l')
  (hbytes : l.length + m ≤ 140737488355328) (hbase : base ≤ w.heap.size)
  (h : ∀ v' w', OwnB w' base v' (l ++ l') → w.grownBy w' v.ownBlock → (v'.ownBlock = v.ownBlock ∨ v'.ownBlock = some w.heap.size) → K (a.put o.dst v') w') :
  if Region.wanted o (yielded ops a.tmps) = true then Oper.wp P o a w K Q else E := by
 have hw : Region.wanted o (yielded ops a.tmps) = true := by simp [Region.wanted, hgd]
 rw [if_pos hw]
 exact wp_append_row w s x t ho base _ _ 1 ht hinfo rfl v l.length (u8s l) hs hown.own B A m c (u8s l') hx hr.row (fun u hu => by
   obtain ⟨y, _, rfl⟩ := List.mem_map.1 hu; rfl) (by simp only [maxLen]; omega) (by omega) hbase
  fun v' w' h2 h3 h4 => h v' w' ⟨by rw [List.length_append, hr.len, u8s_append]; exact h2, hown.rng.app hr.rng⟩ h3 h4

/-- an empty slice that is not nil -/
theorem OwnB.made (w : World) (base : Nat) (hb : base ≤ w.heap.size) : OwnB (w.alloc (.cells #[] 5)) base (.slice (some ⟨w.heap.size, 0, none⟩) 0 0) [] :=
 ⟨World.ownsRow_made w #[] 0 hb (Nat.zero_le _) rfl, InB.nil⟩
theorem OwnB.madeAt {w : World} {base g : Nat} (hg : g = w.heap.size) (hb : base ≤ w.heap.size) : OwnB (w.alloc (.cells #[] 5)) base (.slice (some ⟨g, 0, none⟩) 0 0) [] := by subst hg; exact OwnB.made w base hb
theorem OwnB.drew {w : World} {base : Nat} {v : Value} {l : List Int} (h : OwnB w base v l) : OwnB w.drew base v l := ⟨h.own, h.rng⟩
theorem OwnB.alloc {w : World} {base : Nat} {v : Value} {l : List Int} (h : OwnB w base v l) (o : Obj) : OwnB (w.alloc o) base v l := ⟨h.own.alloc o, h.rng⟩

/-- string(b) -/
theorem By.conv {w : World} {B : Nat} {A : Option Addr} {n c : Nat} {l : List Int} (h : By B w A n c l) (src dst : TypeId) (hs : P.underlying src = some (.slice 5)) (he : P.underlying 5 = some (.int .u8)) (hd : P.underlying dst = some .string) :
  (convert src dst (.slice A n c)).run P w = .ok (.string (strOfNums l)) w := by
 have hl := h.len
 rcases Nat.eq_zero_or_pos n with h0 | h0
 ·subst h0
  have : l = [] := List.eq_nil_of_length_eq_zero hl
  subst this
  cases A with
  | none => exact run_convert_bytes_nil w src _ hs he 0 c dst hd
  | some ad =>
   rw [run_convert_bytes_string w src dst _ _ 0 c hs he hd, run_bytesToString w _ 0 c [] (by
    have := run_loadCells_list (P := P) w ad [] (fun j v hj => by simp at hj)
    simpa using this)]
   rfl
 ·obtain ⟨b, off, rfl, _, hc⟩ := h.row.at_ h0
  exact run_convert_bytes_arg w src _ hs he b off n c l hl (fun i hi => by
   rw [hc i hi]
   simp [u8s, List.getElem?_eq_getElem (show i < l.length by omega)]) dst hd
end
end Go.Proofs.Ytjnphelfloiadaa
namespace Go.Proofs.Ytjnphelfloiadaa
open Go.ChangeShapes Go.WideShapes Go.ChangeAt Go.RowKit

section
variable {H : Type} {enc : TypeId × Value → H} {P : Program} {W : World} {base : Nat} {spare : Nat → Bool} {held : Bool}

theorem cell_bytes {t e : TypeId} {fuel : Nat} {cs : List Value} {x : DataW H × List MemPlace} (ht : P.underlying t = some (.slice e)) (he : P.underlying e = some (.int .u8)) (hc : P.cellsOf e = 1)
  (h : DataW.trod enc P W base spare held fuel t cs = some x) : ∃ A c l, cs = [.slice A (List.length l) c] ∧ By W.heap.size W A l.length c l := by
 rcases open_ints ht he hc h with ⟨rfl, _⟩ | ⟨a, len, cap, zs, rfl, _, hl, hm, hz, _, hcell, hwz⟩
 ·exact ⟨none, 0, [], rfl, By.nil _ _ _ (by omega)⟩
 ·have hzl : len ≤ zs.length := by rw [hz]; split <;> omega
  have hlen : (zs.take len).length = len := by rw [List.length_take]; omega
  refine ⟨some a, cap, zs.take len, by rw [hlen], ?_⟩
  rw [hlen]
  refine ⟨⟨by rw [u8s_length, hlen], hl, fun hp => ?_⟩, fun y hy => bounds_u8 (hwz y (List.mem_of_mem_take hy)), hm⟩
  obtain ⟨b, off, rfl, hc'⟩ := ints_at hcell (by omega)
  refine ⟨b, off, rfl, World.block_lt_of_cell? W _ (hc' 0 (by omega)), fun j hj => ?_⟩
  rw [hc' j (by omega)]
  have hj' : j < zs.length := by omega
  simp [u8s, List.getElem?_take, hj, List.getElem?_eq_getElem hj']

theorem trod_u8s {t e : TypeId} {n fuel : Nat} {cs : List Value} {x : DataW H × List MemPlace} (ht : P.underlying t = some (.array n e)) (he : P.underlying e = some (.int .u8)) (hc : P.cellsOf e = 1) (hc2 : P.cellsOf t = n)
  (h : DataW.trod enc P W base spare held fuel t cs = some x) : ∃ l, cs = u8s l ∧ List.length l = n ∧ InB l := by
 obtain ⟨xs, m, _, _, hlen, hxl, hi⟩ := DataW.trod_array ht h
 have hel : ∀ i : Nat, i < n → ∃ y : Int, cs[i]? = some (.int .u8 y) ∧ 0 ≤ y ∧ y ≤ 255 := fun i hin => by
  have h1 := hi i hin
  rw [List.getElem?_eq_getElem (by omega)] at h1
  obtain ⟨y, hy, _, hwf⟩ := DataW.trod_int he h1
  rw [hc, Nat.mul_one] at hy
  refine ⟨y, ?_, bounds_u8 hwf⟩
  have hd : cs.drop i = cs[i]'(by omega) :: cs.drop (i + 1) := List.drop_eq_getElem_cons (by omega)
  rw [hd, List.take_succ_cons, List.take_zero] at hy
  injection hy with hy _
  rw [List.getElem?_eq_getElem (by omega), hy]
 have key : ∀ cs : List Value, (∀ i, i < cs.length → ∃ y : Int, cs[i]? = some (.int .u8 y) ∧ 0 ≤ y ∧ y ≤ 255) → ∃ l, cs = u8s l ∧ InB l := fun cs => by
  induction cs with
  | nil => exact fun _ => ⟨[], rfl, InB.nil⟩
  | cons c cs ih =>
   intro h
   obtain ⟨y, hy, hy0⟩ := h 0 (by simp)
   obtain ⟨l, rfl, hl⟩ := ih (fun i hi => by
    obtain ⟨z, hz, hz0⟩ := h (i + 1) (by simp; omega)
    exact ⟨z, by simpa using hz, hz0⟩)
   refine ⟨y :: l, by simp at hy; simp [u8s, hy], fun z hz => ?_⟩
   rcases List.mem_cons.1 hz with rfl | hz
   ·exact hy0
   ·exact hl z hz
 obtain ⟨l, rfl, hl⟩ := key cs (fun i hi => hel i (by omega))
 exact ⟨l, rfl, by rw [← hc2, ← hlen, u8s_length], hl⟩

theorem open_u32 {t : TypeId} {v : Value} {d : DataW H} {p : List MemPlace} {r : Reach} {b0 : Nat} (ht : P.underlying t = some (.int .u32)) (hv : Value.okWide P W r b0 t v) (h : DataW.Trod enc P W base spare held t v d p) : ∃ n, v = .int .u32 n ∧ 0 ≤ n ∧ n < 4294967296 := by
 obtain ⟨n, rfl, _, _, hw⟩ := open_int ht hv h
 have := bounds_u32 hw
 exact ⟨n, rfl, by omega, by omega⟩
end
theorem own_ : ownKnob Try.prog.godebug = none := by kernel_rfl
theorem laidOut_ : laidOutB Try.prog = true := by kernel_rfl
end Go.Proofs.Ytjnphelfloiadaa
