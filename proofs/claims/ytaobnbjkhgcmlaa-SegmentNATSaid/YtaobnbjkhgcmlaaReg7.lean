/-
  More moves in a region that draws its order: a new variable. What a law over bytes keeps.
-/
import Derived.Test.YtaobnbjkhgcmlaaReg6
import Derived.Test.YtaobnbjkhgcmlaaLaw6C
import Derived.Test.YtaobnbjkhgcmlaaP6P
namespace Go.Proofs.Ytaobnbjkhgcmlaa
open Go.RowKit

section
variable {P : Program}
variable {md : Region.Mode} {ops : Array Oper} {Q : Exit → Act → World → Prop} {S : World → Prop}
theorem op_alloc {i : Nat} {o : Oper} {ty : TypeId} (cs : Array Value) {fuel : Nat} {listed : Array Bool} {a : Act} {w : World} (hi : ops.toList[i]? = some o) (hw : Region.wanted o (yielded ops a.tmps) = true)
    (ho : o.op = .alloc ty) (hz : (P.info? ty).bind (·.zero) = some (.agg cs))
    (hS : ∀ w', Below w.heap.size w w' → S w') (h : ∀ g w', Has w' g (.cells cs ty (0, 0)) → w.heap.size ≤ g → w'.heap.size = g + 1 → Below w.heap.size w w' → S w' → wpAnyH P md ops Q S fuel (listed.setIfInBounds i true) (a.put o.dst (.pointer (some ⟨g, 0, none⟩))) w') : wpOp P ops Q i (fun a' w' => S w' ∧ wpAnyH P md ops Q S fuel (listed.setIfInBounds i true) a' w') a w := by
  have hi : ops[i]? = some o := by simpa using hi
  unfold wpOp
  rw [hi]
  simp only [hw, if_true]
  left
  have hb : Below w.heap.size w (w.alloc (.cells cs ty)) := (Below.refl _ _).alloc (Nat.le_refl _) _
  have hr : (execOp a.eval o).run P w = .ok (.value (.pointer (some ⟨w.heap.size, 0, none⟩))) (w.alloc (.cells cs ty)) := by
    cases hq : P.info? ty with
    | none => simp [hq] at hz
    | some ie =>
      simp only [hq, Option.bind_some] at hz
      unfold execOp
      simp [ho, Instr.alloc, zeroValue, typeInfo, hq, hz, newVar, newRow, Value.cells]
  unfold Oper.wp
  rw [hr]
  exact ⟨hS _ hb, h _ _ (Has.newAt rfl) (Nat.le_refl _) (by simp) hb (hS _ hb)⟩
/-- what lies behind a region is walked once, whichever order it drew -/
theorem wpAnyH_rest {fuel : Nat} {listed : Array Bool} {a : Act} {w : World} {R : Nat → World → Prop} (F : Nat → Act)
    (h1 : (∀ g W, R g W → Q .normal (F g) W) → wpAnyH P md ops Q S fuel listed a w) (h2 : ∀ g W, R g W → Q .normal (F g) W) : wpAnyH P md ops Q S fuel listed a w := h1 h2
/-- a slice of a slice, in the text's order; the operation is looked at first -/
theorem wl_slice {rest : List Oper} {o : Oper} {a : Act} {w : World} {v : Value} (t : TypeId) (x : Operand) (lo hi mx : Option Operand) (ho : o.op = .slice t x lo hi mx) (hw : Region.wanted o (yielded ops a.tmps) = true)
    (u : Value) (hx : a.eval x = u) (l h m : Option Value) (hl : lo.map a.eval = l) (hh : hi.map a.eval = h) (hm : mx.map a.eval = m) (hr : (Instr.sliceAt t u l h m).run P w = .ok v w)
    (hk : wpList P ops Q rest (a.put o.dst v) w) : wpList P ops Q (o :: rest) a w := by
  subst hx hl hh hm
  exact wl v hw (ex_slice ho rfl hr) hk
end

/-- a datagram in a variable of the law's -/
structure KD (w' : World) (g : Nat) (D : DU) (A : Option Addr) (c : Nat) : Prop where
  has : Has w' g (.cells (D.cells A c) 28 (0, 0))
  row : By w'.heap.size w' A D.bl.length c D.bl
theorem KD.below {w w' : World} {g : Nat} {D : DU} {A : Option Addr} {c : Nat} (h : KD w g D A c) (hb : Below w.heap.size w w') : KD w' g D A c := ⟨h.has.below hb h.has.lt, (h.row.below hb (Nat.le_refl _)).more hb.size⟩
theorem KD.new {w : World} {D : DU} {A : Option Addr} {c : Nat} {cs : Array Value} (hr : By w.heap.size w A D.bl.length c D.bl) : KD ((w.alloc (.cells cs 28)).setRow w.heap.size (D.cells A c)) w.heap.size D A c ∧ Below w.heap.size w ((w.alloc (.cells cs 28)).setRow w.heap.size (D.cells A c)) := by
  have hb : Below w.heap.size w ((w.alloc (.cells cs 28)).setRow w.heap.size (D.cells A c)) := ((Below.refl _ _).alloc (Nat.le_refl _) _).trans below_setRow'
  exact ⟨⟨(Has.newAt (o := .cells cs 28) rfl).setRow_same, (hr.below hb (Nat.le_refl _)).more hb.size⟩, hb⟩
structure KT (w' : World) (g : Nat) (D : DT) (p : WT) : Prop where
  has : Has w' g (.cells (D.cells p) 26 (0, 0))
  opt : By w'.heap.size w' p.oA D.ol.length p.oc D.ol
  row : By w'.heap.size w' p.bA D.bl.length p.bc D.bl
theorem KT.below {w w' : World} {g : Nat} {D : DT} {p : WT} (h : KT w g D p) (hb : Below w.heap.size w w') : KT w' g D p := ⟨h.has.below hb h.has.lt, (h.opt.below hb (Nat.le_refl _)).more hb.size, (h.row.below hb (Nat.le_refl _)).more hb.size⟩
theorem KT.new {w : World} {D : DT} {p : WT} {cs : Array Value} (ho : By w.heap.size w p.oA D.ol.length p.oc D.ol) (hr : By w.heap.size w p.bA D.bl.length p.bc D.bl) : KT ((w.alloc (.cells cs 26)).setRow w.heap.size (D.cells p)) w.heap.size D p ∧ Below w.heap.size w ((w.alloc (.cells cs 26)).setRow w.heap.size (D.cells p)) := by
  have hb : Below w.heap.size w ((w.alloc (.cells cs 26)).setRow w.heap.size (D.cells p)) := ((Below.refl _ _).alloc (Nat.le_refl _) _).trans below_setRow'
  exact ⟨⟨(Has.newAt (o := .cells cs 26) rfl).setRow_same, (ho.below hb (Nat.le_refl _)).more hb.size, (hr.below hb (Nat.le_refl _)).more hb.size⟩, hb⟩
/-- the law's own: addresses, bytes -/
structure KL (x : DE) (A : Option Addr) (c : Nat) (l : List Int) (w w' : World) : Prop where
  hE : Has w' w.heap.size (.cells x.cells 38 (0, 0))
  y : By w'.heap.size w' A l.length c l
  bel : Below w.heap.size w w'
theorem KL.below {x : DE} {A : Option Addr} {c : Nat} {l : List Int} {w w' w'' : World} (h : KL x A c l w w') (hb : Below w'.heap.size w' w'') : KL x A c l w w'' :=
  ⟨h.hE.below hb h.hE.lt, (h.y.below hb (Nat.le_refl _)).more hb.size, h.bel.trans (hb.mono h.bel.size)⟩
end Go.Proofs.Ytaobnbjkhgcmlaa
