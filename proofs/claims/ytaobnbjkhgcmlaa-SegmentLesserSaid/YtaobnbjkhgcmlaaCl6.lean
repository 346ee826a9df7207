/-
  The walk of segment.Clamp.
-/
import Derived.Test.YtaobnbjkhgcmlaaMss
import Derived.Test.YtaobnbjkhgcmlaaReg9
import Derived.Test.YtaobnbjkhgcmlaaSg2
namespace Go.Proofs.Ytaobnbjkhgcmlaa
open Go.RowKit Go.Shelf

theorem own_byN' {w : World} {base n : Nat} {A : Option Addr} {c : Nat} {l : List Int} (h : OwnB w base (.slice A n c) l) (hn : l.length = n) : By w.heap.size w A l.length c l := by
  subst hn
  exact h.row
/-- a segment with at most such a size -/
def clampD (t : DT) (most : Int) : DT := if mssOk t = true ∧ most < mssVal t then { t with ol := set2 t.ol (mssAt t).toNat (max most 0) } else t
def clampQ (t : DT) (most : Int) : Bool := decide (mssOk t = true ∧ most < mssVal t)
/-- the segment and the result where they lie -/
structure SCl (t : DT) (p : WT) (w w' : World) : Prop where
  hT : Has w' w.heap.size (.cells (t.cells p) 26 (0, 0))
  hN : Has w' (w.heap.size + 1) (.cells #[.int .u16 0, .int .u16 0, .int .u32 0, .int .u32 0, .int .u8 0, .int .u16 0, .int .u16 0, .slice none 0 0, .slice none 0 0] 26 (0, 0))
  b : Below w.heap.size w w'
theorem SCl.keep {t : DT} {p : WT} {w w' w'' : World} (h : SCl t p w w') (hb : Below (w.heap.size + 1 + 1) w' w'') : SCl t p w w'' :=
  ⟨h.hT.below hb (by omega), h.hN.below hb (by omega), h.b.trans (hb.mono (by omega))⟩
/-- what lay below stands -/
structure SLow (B : Nat) (w w' : World) : Prop where
  b : Below B w w'
theorem SLow.keep {B : Nat} {w w' w'' : World} (h : SLow B w w') (hb : Below B w' w'') : SLow B w w'' := ⟨h.b.trans hb⟩

set_option maxRecDepth 100000 in
set_option maxHeartbeats 4000000 in
theorem clamp_any (t : DT) (p : WT) (most : Int) (w : World) (rt : RdT w.heap.size w t p) (hs1 : t.ol.length ≤ 140737488355328) (hs2 : t.bl.length ≤ 140737488355328) (hm : -9223372036854775808 ≤ most ∧ most ≤ 9223372036854775807) :
    Calls Try.prog 34 #[.agg (t.cells p), .int .i64 most] w fun e w' => ∃ p', e = .returned (.tuple #[.agg ((clampD t most).cells p'), .bool (clampQ t most)]) ∧ RdT w'.heap.size w' (clampD t most) p' ∧ Below w.heap.size w w' := by
  have hT : Has ((w.alloc (.cells (t.cells p) 26)).alloc (.cells #[.int .u16 0, .int .u16 0, .int .u32 0, .int .u32 0, .int .u8 0, .int .u16 0, .int .u16 0, .slice none 0 0, .slice none 0 0] 26)) w.heap.size (.cells (t.cells p) 26 (0, 0)) := (Has.newAt rfl).alloc
  have hN : Has ((w.alloc (.cells (t.cells p) 26)).alloc (.cells #[.int .u16 0, .int .u16 0, .int .u32 0, .int .u32 0, .int .u8 0, .int .u16 0, .int .u16 0, .slice none 0 0, .slice none 0 0] 26)) (w.heap.size + 1) (.cells #[.int .u16 0, .int .u16 0, .int .u32 0, .int .u32 0, .int .u8 0, .int .u16 0, .int .u16 0, .slice none 0 0, .slice none 0 0] 26 (0, 0)) := Has.newAt (by simp)
  have hB : Below w.heap.size w ((w.alloc (.cells (t.cells p) 26)).alloc (.cells #[.int .u16 0, .int .u16 0, .int .u32 0, .int .u32 0, .int .u8 0, .int .u16 0, .int .u16 0, .slice none 0 0, .slice none 0 0] 26)) := ((Below.refl _ _).alloc (Nat.le_refl _) _).alloc (by simp) _
  go_enter Try.func34, Try.ntmps34
  go_wp2_with fail
  generalize (w.alloc (.cells (t.cells p) 26)).alloc (.cells #[.int .u16 0, .int .u16 0, .int .u32 0, .int .u32 0, .int .u8 0, .int .u16 0, .int .u16 0, .slice none 0 0, .slice none 0 0] 26) = W at hT hN hB ⊢
  have hT := hT.drew
  have hN := hN.drew
  refine wp_region_held_drew (S := SLow w.heap.size w) (by kernel_rfl) ⟨hB.trans (below_drew _ _)⟩ (fun hS => ?_)
  generalize W.drew = W0 at hS hT hN ⊢
  apply wpAnyH_rest4 (R := fun A1 k1 A2 k2 W9 => SLow w.heap.size w W9 ∧ Has W9 w.heap.size (.cells (t.cells ⟨A1, k1, A2, k2⟩) 26 (0, 0)) ∧ Has W9 (w.heap.size + 1) (.cells #[.int .u16 0, .int .u16 0, .int .u32 0, .int .u32 0, .int .u8 0, .int .u16 0, .int .u16 0, .slice none 0 0, .slice none 0 0] 26 (0, 0)) ∧ OwnB W9 (w.heap.size + 1 + 1) (.slice A1 t.ol.length k1) t.ol ∧ OwnB W9 (w.heap.size + 1 + 1) (.slice A2 t.bl.length k2) t.bl ∧ ((Value.slice A2 t.bl.length k2).ownBlock = none ∨ (Value.slice A2 t.bl.length k2).ownBlock ≠ (Value.slice A1 t.ol.length k1).ownBlock))
  case h1 =>
    intro hrest
    -- REGION 1
    refine tk (i := 0) (.pointer (some ⟨w.heap.size, 7, none⟩)) hS rfl (by kernel_rfl) (by kernel_rfl) (by kernel_rfl) (fun _ _ _ h => h) (by kernel_rfl) (by intro _ _; exact ex_field 7 0 (by exact rfl) Try.underlying26 (by exact rfl) rfl (by kernel_rfl) (by exact rfl)) ?_
    simp only [Act.put, List.setIfInBounds_toArray, List.set_cons_zero, List.set_cons_succ]
    refine tk (i := 3) (.pointer (some ⟨w.heap.size, 8, none⟩)) hS rfl (by kernel_rfl) (by kernel_rfl) (by kernel_rfl) (fun _ _ _ h => h) (by kernel_rfl) (by intro _ _; exact ex_field 8 0 (by exact rfl) Try.underlying26 (by exact rfl) rfl (by kernel_rfl) (by exact rfl)) ?_
    simp only [Act.put, List.setIfInBounds_toArray, List.set_cons_zero, List.set_cons_succ]
    refine tk_two (by kernel_rfl) (op_val (i := 1) (.slice p.oA t.ol.length p.oc) rfl (by kernel_rfl) (ex_cell (by exact rfl) Try.underlying24 rfl (by exact rfl) (hT.cell 7 rfl)) hS ?_) (op_val (i := 4) (.slice p.bA t.bl.length p.bc) rfl (by kernel_rfl) (ex_cell (by exact rfl) Try.underlying24 rfl (by exact rfl) (hT.cell 8 rfl)) hS ?_)
    · simp only [Act.put, List.setIfInBounds_toArray, List.set_cons_zero, List.set_cons_succ]
      refine tk_two (by kernel_rfl) (op_callx (i := 2) (fun v w' => OwnB w' (w.heap.size + 1 + 1) v (t.ol) ∧ Below W0.heap.size W0 w') rfl (by kernel_rfl) (by exact ex_call (by exact rfl) Try.func60 (by kernel_rfl) (by kernel_rfl) (by simp only [List.map_toArray, List.map_cons, List.map_nil] <;> rfl)) ((clone_n _ _ _ (t.ol) _ ((rt.opt.below hS.b (Nat.le_refl _)).more hS.b.size) hs1).mono fun e w' g => by obtain ⟨v, rfl, h2, h3⟩ := g; exact ⟨_, rfl, ⟨h2.more hN.lt, h3⟩, hS.keep (h3.mono hS.b.size)⟩) ?_) (op_val (i := 4) (.slice p.bA t.bl.length p.bc) rfl (by kernel_rfl) (ex_cell (by exact rfl) Try.underlying24 rfl (by exact rfl) (hT.cell 8 rfl)) hS ?_)
      · rintro v1 W1 ⟨ho1, hb⟩ hS1
        obtain ⟨A1, k1, rfl, _⟩ := own_shape ho1.own
        have hT := hT.below hb hT.lt
        have hN := hN.below hb hN.lt
        clear hb
        simp only [Act.put, List.setIfInBounds_toArray, List.set_cons_zero, List.set_cons_succ]
        refine tk_one (by kernel_rfl) (op_val (i := 4) (.slice p.bA t.bl.length p.bc) rfl (by kernel_rfl) (ex_cell (by exact rfl) Try.underlying24 rfl (by exact rfl) (hT.cell 8 rfl)) hS1 ?_)
        simp only [Act.put, List.setIfInBounds_toArray, List.set_cons_zero, List.set_cons_succ]
        refine tk (i := 6) (.pointer (some ⟨w.heap.size, 7, none⟩)) hS1 rfl (by kernel_rfl) (by kernel_rfl) (by kernel_rfl) (fun _ _ _ h => h) (by kernel_rfl) (by intro _ _; exact ex_field 7 0 (by exact rfl) Try.underlying26 (by exact rfl) rfl (by kernel_rfl) (by exact rfl)) ?_
        simp only [Act.put, List.setIfInBounds_toArray, List.set_cons_zero, List.set_cons_succ]
        refine tk_one (by kernel_rfl) (op_callx (i := 5) (fun v w' => OwnB w' W1.heap.size v (t.bl) ∧ Below W1.heap.size W1 w') rfl (by kernel_rfl) (by exact ex_call (by exact rfl) Try.func60 (by kernel_rfl) (by kernel_rfl) (by simp only [List.map_toArray, List.map_cons, List.map_nil] <;> rfl)) ((clone_n _ _ _ (t.bl) _ ((rt.body.below hS1.b (Nat.le_refl _)).more hS1.b.size) hs2).mono fun e w' g => by obtain ⟨v, rfl, h2, h3⟩ := g; exact ⟨_, rfl, ⟨h2, h3⟩, hS1.keep (h3.mono hS1.b.size)⟩) ?_)
        rintro v2 W2 ⟨ho2, hb⟩ hS2
        obtain ⟨A2, k2, rfl, _⟩ := own_shape ho2.own
        have hap := own_apart ho1 ho2 (Nat.le_refl _)
        have ho2 := ho2.more hN.lt
        have hT := hT.below hb hT.lt
        have hN := hN.below hb hN.lt
        have ho1 := ho1.below hb
        clear hb
        simp only [Act.put, List.setIfInBounds_toArray, List.set_cons_zero, List.set_cons_succ]
        refine tk_store1 (v := .slice A1 t.ol.length k1) (i := 7) (by kernel_rfl) rfl (by kernel_rfl) rfl rfl rfl rfl (by kernel_rfl) (hT.cell 7 (v := .slice p.oA t.ol.length p.oc) rfl) (hT.free 7) rfl (hS2.keep (below_setCell (Below.refl _ _) (Nat.le_refl _) 7 _)) ?_
        have hS7 := hS2.keep (below_setCell (Below.refl _ _) (Nat.le_refl w.heap.size) 7 (.slice A1 t.ol.length k1) : Below w.heap.size W2 _)
        have hT : Has (W2.setCell ⟨w.heap.size, 7, none⟩ (.slice A1 t.ol.length k1)) w.heap.size (.cells (t.cells ⟨A1, k1, p.bA, p.bc⟩) 26 (0, 0)) := hT.setCell 7 (.slice A1 t.ol.length k1)
        have hN := hN.setCell_other (Nat.succ_ne_self _) 7 (.slice A1 t.ol.length k1)
        have ho1 := ho1.setCell (g := w.heap.size) (by omega) 7 (.slice A1 t.ol.length k1)
        have ho2 := ho2.setCell (g := w.heap.size) (by omega) 7 (.slice A1 t.ol.length k1)
        generalize W2.setCell ⟨w.heap.size, 7, none⟩ (.slice A1 t.ol.length k1) = W7 at hS7 hT hN ho1 ho2 ⊢
        simp only [Act.put, List.setIfInBounds_toArray, List.set_cons_zero, List.set_cons_succ]
        refine tk (i := 8) (.pointer (some ⟨w.heap.size, 8, none⟩)) hS7 rfl (by kernel_rfl) (by kernel_rfl) (by kernel_rfl) (fun _ _ _ h => h) (by kernel_rfl) (by intro _ _; exact ex_field 8 0 (by exact rfl) Try.underlying26 (by exact rfl) rfl (by kernel_rfl) (by exact rfl)) ?_
        simp only [Act.put, List.setIfInBounds_toArray, List.set_cons_zero, List.set_cons_succ]
        refine tk_store1 (v := .slice A2 t.bl.length k2) (i := 9) (by kernel_rfl) rfl (by kernel_rfl) rfl rfl rfl rfl (by kernel_rfl) (hT.cell 8 (v := .slice p.bA t.bl.length p.bc) rfl) (hT.free 8) rfl (hS7.keep (below_setCell (Below.refl _ _) (Nat.le_refl _) 8 _)) ?_
        have hS9 := hS7.keep (below_setCell (Below.refl _ _) (Nat.le_refl w.heap.size) 8 (.slice A2 t.bl.length k2) : Below w.heap.size W7 _)
        have hT : Has (W7.setCell ⟨w.heap.size, 8, none⟩ (.slice A2 t.bl.length k2)) w.heap.size (.cells (t.cells ⟨A1, k1, A2, k2⟩) 26 (0, 0)) := hT.setCell 8 (.slice A2 t.bl.length k2)
        have hN := hN.setCell_other (Nat.succ_ne_self _) 8 (.slice A2 t.bl.length k2)
        have ho1 := ho1.setCell (g := w.heap.size) (by omega) 8 (.slice A2 t.bl.length k2)
        have ho2 := ho2.setCell (g := w.heap.size) (by omega) 8 (.slice A2 t.bl.length k2)
        generalize W7.setCell ⟨w.heap.size, 8, none⟩ (.slice A2 t.bl.length k2) = W9 at hS9 hT hN ho1 ho2 ⊢
        simp only [Act.put, List.setIfInBounds_toArray, List.set_cons_zero, List.set_cons_succ]
        refine wpAnyH_done (by kernel_rfl) ?_ _
        exact hrest _ _ _ _ _ ⟨hS9, hT, hN, ho1, ho2, hap⟩
      · simp only [Act.put, List.setIfInBounds_toArray, List.set_cons_zero, List.set_cons_succ]
        refine tk_one (by kernel_rfl) (op_callx (i := 2) (fun v w' => OwnB w' (w.heap.size + 1 + 1) v (t.ol) ∧ Below W0.heap.size W0 w') rfl (by kernel_rfl) (by exact ex_call (by exact rfl) Try.func60 (by kernel_rfl) (by kernel_rfl) (by simp only [List.map_toArray, List.map_cons, List.map_nil] <;> rfl)) ((clone_n _ _ _ (t.ol) _ ((rt.opt.below hS.b (Nat.le_refl _)).more hS.b.size) hs1).mono fun e w' g => by obtain ⟨v, rfl, h2, h3⟩ := g; exact ⟨_, rfl, ⟨h2.more hN.lt, h3⟩, hS.keep (h3.mono hS.b.size)⟩) ?_)
        rintro v1 W1 ⟨ho1, hb⟩ hS1
        obtain ⟨A1, k1, rfl, _⟩ := own_shape ho1.own
        have hT := hT.below hb hT.lt
        have hN := hN.below hb hN.lt
        clear hb
        simp only [Act.put, List.setIfInBounds_toArray, List.set_cons_zero, List.set_cons_succ]
        refine tk (i := 6) (.pointer (some ⟨w.heap.size, 7, none⟩)) hS1 rfl (by kernel_rfl) (by kernel_rfl) (by kernel_rfl) (fun _ _ _ h => h) (by kernel_rfl) (by intro _ _; exact ex_field 7 0 (by exact rfl) Try.underlying26 (by exact rfl) rfl (by kernel_rfl) (by exact rfl)) ?_
        simp only [Act.put, List.setIfInBounds_toArray, List.set_cons_zero, List.set_cons_succ]
        refine tk_one (by kernel_rfl) (op_callx (i := 5) (fun v w' => OwnB w' W1.heap.size v (t.bl) ∧ Below W1.heap.size W1 w') rfl (by kernel_rfl) (by exact ex_call (by exact rfl) Try.func60 (by kernel_rfl) (by kernel_rfl) (by simp only [List.map_toArray, List.map_cons, List.map_nil] <;> rfl)) ((clone_n _ _ _ (t.bl) _ ((rt.body.below hS1.b (Nat.le_refl _)).more hS1.b.size) hs2).mono fun e w' g => by obtain ⟨v, rfl, h2, h3⟩ := g; exact ⟨_, rfl, ⟨h2, h3⟩, hS1.keep (h3.mono hS1.b.size)⟩) ?_)
        rintro v2 W2 ⟨ho2, hb⟩ hS2
        obtain ⟨A2, k2, rfl, _⟩ := own_shape ho2.own
        have hap := own_apart ho1 ho2 (Nat.le_refl _)
        have ho2 := ho2.more hN.lt
        have hT := hT.below hb hT.lt
        have hN := hN.below hb hN.lt
        have ho1 := ho1.below hb
        clear hb
        simp only [Act.put, List.setIfInBounds_toArray, List.set_cons_zero, List.set_cons_succ]
        refine tk_store1 (v := .slice A1 t.ol.length k1) (i := 7) (by kernel_rfl) rfl (by kernel_rfl) rfl rfl rfl rfl (by kernel_rfl) (hT.cell 7 (v := .slice p.oA t.ol.length p.oc) rfl) (hT.free 7) rfl (hS2.keep (below_setCell (Below.refl _ _) (Nat.le_refl _) 7 _)) ?_
        have hS7 := hS2.keep (below_setCell (Below.refl _ _) (Nat.le_refl w.heap.size) 7 (.slice A1 t.ol.length k1) : Below w.heap.size W2 _)
        have hT : Has (W2.setCell ⟨w.heap.size, 7, none⟩ (.slice A1 t.ol.length k1)) w.heap.size (.cells (t.cells ⟨A1, k1, p.bA, p.bc⟩) 26 (0, 0)) := hT.setCell 7 (.slice A1 t.ol.length k1)
        have hN := hN.setCell_other (Nat.succ_ne_self _) 7 (.slice A1 t.ol.length k1)
        have ho1 := ho1.setCell (g := w.heap.size) (by omega) 7 (.slice A1 t.ol.length k1)
        have ho2 := ho2.setCell (g := w.heap.size) (by omega) 7 (.slice A1 t.ol.length k1)
        generalize W2.setCell ⟨w.heap.size, 7, none⟩ (.slice A1 t.ol.length k1) = W7 at hS7 hT hN ho1 ho2 ⊢
        simp only [Act.put, List.setIfInBounds_toArray, List.set_cons_zero, List.set_cons_succ]
        refine tk (i := 8) (.pointer (some ⟨w.heap.size, 8, none⟩)) hS7 rfl (by kernel_rfl) (by kernel_rfl) (by kernel_rfl) (fun _ _ _ h => h) (by kernel_rfl) (by intro _ _; exact ex_field 8 0 (by exact rfl) Try.underlying26 (by exact rfl) rfl (by kernel_rfl) (by exact rfl)) ?_
        simp only [Act.put, List.setIfInBounds_toArray, List.set_cons_zero, List.set_cons_succ]
        refine tk_store1 (v := .slice A2 t.bl.length k2) (i := 9) (by kernel_rfl) rfl (by kernel_rfl) rfl rfl rfl rfl (by kernel_rfl) (hT.cell 8 (v := .slice p.bA t.bl.length p.bc) rfl) (hT.free 8) rfl (hS7.keep (below_setCell (Below.refl _ _) (Nat.le_refl _) 8 _)) ?_
        have hS9 := hS7.keep (below_setCell (Below.refl _ _) (Nat.le_refl w.heap.size) 8 (.slice A2 t.bl.length k2) : Below w.heap.size W7 _)
        have hT : Has (W7.setCell ⟨w.heap.size, 8, none⟩ (.slice A2 t.bl.length k2)) w.heap.size (.cells (t.cells ⟨A1, k1, A2, k2⟩) 26 (0, 0)) := hT.setCell 8 (.slice A2 t.bl.length k2)
        have hN := hN.setCell_other (Nat.succ_ne_self _) 8 (.slice A2 t.bl.length k2)
        have ho1 := ho1.setCell (g := w.heap.size) (by omega) 8 (.slice A2 t.bl.length k2)
        have ho2 := ho2.setCell (g := w.heap.size) (by omega) 8 (.slice A2 t.bl.length k2)
        generalize W7.setCell ⟨w.heap.size, 8, none⟩ (.slice A2 t.bl.length k2) = W9 at hS9 hT hN ho1 ho2 ⊢
        simp only [Act.put, List.setIfInBounds_toArray, List.set_cons_zero, List.set_cons_succ]
        refine wpAnyH_done (by kernel_rfl) ?_ _
        exact hrest _ _ _ _ _ ⟨hS9, hT, hN, ho1, ho2, hap⟩
    · simp only [Act.put, List.setIfInBounds_toArray, List.set_cons_zero, List.set_cons_succ]
      refine tk_one (by kernel_rfl) (op_val (i := 1) (.slice p.oA t.ol.length p.oc) rfl (by kernel_rfl) (ex_cell (by exact rfl) Try.underlying24 rfl (by exact rfl) (hT.cell 7 rfl)) hS ?_)
      simp only [Act.put, List.setIfInBounds_toArray, List.set_cons_zero, List.set_cons_succ]
      refine tk_one (by kernel_rfl) (op_callx (i := 2) (fun v w' => OwnB w' (w.heap.size + 1 + 1) v (t.ol) ∧ Below W0.heap.size W0 w') rfl (by kernel_rfl) (by exact ex_call (by exact rfl) Try.func60 (by kernel_rfl) (by kernel_rfl) (by simp only [List.map_toArray, List.map_cons, List.map_nil] <;> rfl)) ((clone_n _ _ _ (t.ol) _ ((rt.opt.below hS.b (Nat.le_refl _)).more hS.b.size) hs1).mono fun e w' g => by obtain ⟨v, rfl, h2, h3⟩ := g; exact ⟨_, rfl, ⟨h2.more hN.lt, h3⟩, hS.keep (h3.mono hS.b.size)⟩) ?_)
      rintro v1 W1 ⟨ho1, hb⟩ hS1
      obtain ⟨A1, k1, rfl, _⟩ := own_shape ho1.own
      have hT := hT.below hb hT.lt
      have hN := hN.below hb hN.lt
      clear hb
      simp only [Act.put, List.setIfInBounds_toArray, List.set_cons_zero, List.set_cons_succ]
      refine tk (i := 6) (.pointer (some ⟨w.heap.size, 7, none⟩)) hS1 rfl (by kernel_rfl) (by kernel_rfl) (by kernel_rfl) (fun _ _ _ h => h) (by kernel_rfl) (by intro _ _; exact ex_field 7 0 (by exact rfl) Try.underlying26 (by exact rfl) rfl (by kernel_rfl) (by exact rfl)) ?_
      simp only [Act.put, List.setIfInBounds_toArray, List.set_cons_zero, List.set_cons_succ]
      refine tk_one (by kernel_rfl) (op_callx (i := 5) (fun v w' => OwnB w' W1.heap.size v (t.bl) ∧ Below W1.heap.size W1 w') rfl (by kernel_rfl) (by exact ex_call (by exact rfl) Try.func60 (by kernel_rfl) (by kernel_rfl) (by simp only [List.map_toArray, List.map_cons, List.map_nil] <;> rfl)) ((clone_n _ _ _ (t.bl) _ ((rt.body.below hS1.b (Nat.le_refl _)).more hS1.b.size) hs2).mono fun e w' g => by obtain ⟨v, rfl, h2, h3⟩ := g; exact ⟨_, rfl, ⟨h2, h3⟩, hS1.keep (h3.mono hS1.b.size)⟩) ?_)
      rintro v2 W2 ⟨ho2, hb⟩ hS2
      obtain ⟨A2, k2, rfl, _⟩ := own_shape ho2.own
      have hap := own_apart ho1 ho2 (Nat.le_refl _)
      have ho2 := ho2.more hN.lt
      have hT := hT.below hb hT.lt
      have hN := hN.below hb hN.lt
      have ho1 := ho1.below hb
      clear hb
      simp only [Act.put, List.setIfInBounds_toArray, List.set_cons_zero, List.set_cons_succ]
      refine tk_store1 (v := .slice A1 t.ol.length k1) (i := 7) (by kernel_rfl) rfl (by kernel_rfl) rfl rfl rfl rfl (by kernel_rfl) (hT.cell 7 (v := .slice p.oA t.ol.length p.oc) rfl) (hT.free 7) rfl (hS2.keep (below_setCell (Below.refl _ _) (Nat.le_refl _) 7 _)) ?_
      have hS7 := hS2.keep (below_setCell (Below.refl _ _) (Nat.le_refl w.heap.size) 7 (.slice A1 t.ol.length k1) : Below w.heap.size W2 _)
      have hT : Has (W2.setCell ⟨w.heap.size, 7, none⟩ (.slice A1 t.ol.length k1)) w.heap.size (.cells (t.cells ⟨A1, k1, p.bA, p.bc⟩) 26 (0, 0)) := hT.setCell 7 (.slice A1 t.ol.length k1)
      have hN := hN.setCell_other (Nat.succ_ne_self _) 7 (.slice A1 t.ol.length k1)
      have ho1 := ho1.setCell (g := w.heap.size) (by omega) 7 (.slice A1 t.ol.length k1)
      have ho2 := ho2.setCell (g := w.heap.size) (by omega) 7 (.slice A1 t.ol.length k1)
      generalize W2.setCell ⟨w.heap.size, 7, none⟩ (.slice A1 t.ol.length k1) = W7 at hS7 hT hN ho1 ho2 ⊢
      simp only [Act.put, List.setIfInBounds_toArray, List.set_cons_zero, List.set_cons_succ]
      refine tk (i := 8) (.pointer (some ⟨w.heap.size, 8, none⟩)) hS7 rfl (by kernel_rfl) (by kernel_rfl) (by kernel_rfl) (fun _ _ _ h => h) (by kernel_rfl) (by intro _ _; exact ex_field 8 0 (by exact rfl) Try.underlying26 (by exact rfl) rfl (by kernel_rfl) (by exact rfl)) ?_
      simp only [Act.put, List.setIfInBounds_toArray, List.set_cons_zero, List.set_cons_succ]
      refine tk_store1 (v := .slice A2 t.bl.length k2) (i := 9) (by kernel_rfl) rfl (by kernel_rfl) rfl rfl rfl rfl (by kernel_rfl) (hT.cell 8 (v := .slice p.bA t.bl.length p.bc) rfl) (hT.free 8) rfl (hS7.keep (below_setCell (Below.refl _ _) (Nat.le_refl _) 8 _)) ?_
      have hS9 := hS7.keep (below_setCell (Below.refl _ _) (Nat.le_refl w.heap.size) 8 (.slice A2 t.bl.length k2) : Below w.heap.size W7 _)
      have hT : Has (W7.setCell ⟨w.heap.size, 8, none⟩ (.slice A2 t.bl.length k2)) w.heap.size (.cells (t.cells ⟨A1, k1, A2, k2⟩) 26 (0, 0)) := hT.setCell 8 (.slice A2 t.bl.length k2)
      have hN := hN.setCell_other (Nat.succ_ne_self _) 8 (.slice A2 t.bl.length k2)
      have ho1 := ho1.setCell (g := w.heap.size) (by omega) 8 (.slice A2 t.bl.length k2)
      have ho2 := ho2.setCell (g := w.heap.size) (by omega) 8 (.slice A2 t.bl.length k2)
      generalize W7.setCell ⟨w.heap.size, 8, none⟩ (.slice A2 t.bl.length k2) = W9 at hS9 hT hN ho1 ho2 ⊢
      simp only [Act.put, List.setIfInBounds_toArray, List.set_cons_zero, List.set_cons_succ]
      refine wpAnyH_done (by kernel_rfl) ?_ _
      exact hrest _ _ _ _ _ ⟨hS9, hT, hN, ho1, ho2, hap⟩
    -- END 1
  case h2 =>
    rintro A1 k1 A2 k2 W9 ⟨hS9, hT, hN, ho1, ho2, hap⟩
    clear hB hS
    have rd : RdT W9.heap.size W9 t ⟨A1, k1, A2, k2⟩ := ⟨rt.ok, ho1.row, ho2.row⟩
    go_wp2_with (refine wpList_load_row rfl 26 (.tmp 2) rfl w.heap.size rfl 26 (t.cells ⟨A1, k1, A2, k2⟩) (0, 0) _ hT Try.underlying26 rfl tcp_info ?_)
    refine (mss_any t ⟨A1, k1, A2, k2⟩ W9 rd hs1).mono ?_
    rintro e w1 ⟨⟨n, q, rfl, hnq⟩, hb⟩
    have hT := hT.below hb hT.lt
    have hN := hN.below hb hN.lt
    have ho1 := ho1.below hb
    have ho2 := ho2.below hb
    have hS1 := hS9.keep (hb.mono hS9.b.size)
    have hlt := hN.lt
    have hnq1 := hnq.out.1
    have hnq2 := hnq.out.2
    clear hb rd hS9 hnq
    by_cases hc : q = true ∧ most < n
    case neg =>
      have hd : clampD t most = t ∧ clampQ t most = false := by rw [clampD, clampQ, ← hnq1, ← hnq2]; simp [hc]
      have hdH := Lib.hid hd
      clear hd hnq1 hnq2
      have hfin : ∀ W : World, Has W (w.heap.size + 1) (.cells (t.cells ⟨A1, k1, A2, k2⟩) 26 (0, 0)) → W = w1.setRow (w.heap.size + 1) (t.cells ⟨A1, k1, A2, k2⟩) → RdT W.heap.size W t ⟨A1, k1, A2, k2⟩ ∧ Below w.heap.size w W := fun W _ e => by
        subst e
        exact ⟨⟨rt.ok, (ho1.setRow (g := w.heap.size + 1) (cs := t.cells ⟨A1, k1, A2, k2⟩) (Nat.lt_succ_self _)).row, (ho2.setRow (g := w.heap.size + 1) (cs := t.cells ⟨A1, k1, A2, k2⟩) (Nat.lt_succ_self _)).row⟩, hS1.b.trans (below_setRow'.mono (Nat.le_succ _))⟩
      have hcase : q = false ∨ (q = true ∧ n ≤ most) := by cases q <;> simp at hc ⊢; omega
      rcases hcase with rfl | ⟨rfl, hle⟩
      all_goals
        clear hc
        go_wp2_with (first
          | (refine wpList_load_row rfl 26 (.tmp 2) rfl w.heap.size rfl 26 (t.cells ⟨A1, k1, A2, k2⟩) (0, 0) _ hT Try.underlying26 rfl tcp_info ?_)
          | (refine wpList_store_row rfl 26 (.tmp 4) (.tmp 28) rfl (w.heap.size + 1) _ rfl rfl 26 _ hN tcp_info rfl (by simp [DT.cells, Value.oneCell']) ?_))
        have hf := hfin _ hN.setRow_same rfl
        exact bodyPost_ret (res_cell2 Try.results34 rfl (hN.setRow_same.load (P := Try.prog) 26 Try.underlying26 rfl tcp_info) rfl) rfl ⟨⟨A1, k1, A2, k2⟩, by rw [hdH.out.1, hdH.out.2]; rfl, by rw [hdH.out.1]; exact hf.1, hf.2⟩
    case pos =>
      obtain ⟨rfl, hgt⟩ := hc
      have hat := mssAt_rng t
      have hpos : 0 ≤ mssAt t := by have := hnq2.symm; simpa [mssOk] using this
      obtain ⟨k, hk⟩ : ∃ k : Nat, mssAt t = (k : Int) := ⟨(mssAt t).toNat, by omega⟩
      have hk1 : k + 1 < t.ol.length := by omega
      have hn16 : n < 65536 := by rw [hnq1, mssVal, hk, if_neg (by omega)]; exact (be2_rng rt.opt.rng _).2
      obtain ⟨m, hmm⟩ : ∃ m, max most 0 = m := ⟨_, rfl⟩
      have hmr : 0 ≤ m ∧ m < 65536 := by omega
      have hd : clampD t most = { t with ol := set2 t.ol k m } ∧ clampQ t most = true := by rw [clampD, clampQ, ← hnq1, ← hnq2, hk, hmm]; simp [hgt]
      have hdH := Lib.hid hd
      have hkH := Lib.hid hk
      have hngt : ¬ (n ≤ most) := by omega
      clear hd hnq1 hnq2 hat hpos hk
      go_wp2_with fail
      have rd : RdT w1.heap.size w1 t ⟨A1, k1, A2, k2⟩ := ⟨rt.ok, ho1.row, ho2.row⟩
      refine wp_region_held_drew (S := SCl t ⟨A1, k1, A2, k2⟩ w) (by kernel_rfl) ⟨hT.drew, hN.drew, hS1.b.trans (below_drew _ _)⟩ (fun hS => ?_)
      have rd : RdT w1.drew.heap.size w1.drew t ⟨A1, k1, A2, k2⟩ := ⟨rt.ok, ho1.drew.row, ho2.drew.row⟩
      have ho1 := ho1.drew
      have ho2 := ho2.drew
      generalize w1.drew = W0 at hS rd ho1 ho2 ⊢
      clear hT hN hS1
      -- REGION 5
      refine tk (i := 0) (.pointer (some ⟨w.heap.size, 7, none⟩)) hS rfl (by kernel_rfl) (by kernel_rfl) (by kernel_rfl) (fun _ _ _ h => h) (by kernel_rfl) (by intro _ _; exact ex_field 7 0 (by exact rfl) Try.underlying26 (by exact rfl) rfl (by kernel_rfl) (by exact rfl)) ?_
      simp only [Act.put, List.setIfInBounds_toArray, List.set_cons_zero, List.set_cons_succ]
      refine tk (i := 1) (.slice A1 t.ol.length k1) hS rfl (by kernel_rfl) (by kernel_rfl) (by kernel_rfl) (fun _ _ _ h => h) (by kernel_rfl) (by intro _ h; exact ex_cell (by exact rfl) Try.underlying24 rfl (by exact rfl) (h.hT.cell 7 rfl)) ?_
      simp only [Act.put, List.setIfInBounds_toArray, List.set_cons_zero, List.set_cons_succ]
      refine tk (i := 2) (.agg (t.cells ⟨A1, k1, A2, k2⟩)) hS rfl (by kernel_rfl) (by kernel_rfl) (by kernel_rfl) (fun _ _ _ h => h) (by kernel_rfl) (by intro _ h; exact ex_load (by exact rfl) (by exact rfl) (h.hT.load (P := Try.prog) 26 Try.underlying26 rfl tcp_info)) ?_
      simp only [Act.put, List.setIfInBounds_toArray, List.set_cons_zero, List.set_cons_succ]
      refine tk (i := 4) (.int .i64 most) hS rfl (by kernel_rfl) (by kernel_rfl) (by kernel_rfl) (fun _ _ _ h => h) (by kernel_rfl) (by intro _ _; exact rfl) ?_
      simp only [Act.put, List.setIfInBounds_toArray, List.set_cons_zero, List.set_cons_succ]
      refine tk (i := 5) (.int .i64 m) hS rfl (by kernel_rfl) (by kernel_rfl) (by kernel_rfl) (fun _ _ _ h => h) (by kernel_rfl) (by intro _ _; exact ex_max (by exact rfl) (by exact rfl) (by exact rfl) (by rw [← hmm]; split <;> omega)) ?_
      simp only [Act.put, List.setIfInBounds_toArray, List.set_cons_zero, List.set_cons_succ]
      refine tk (i := 6) (.int .u16 m) hS rfl (by kernel_rfl) (by kernel_rfl) (by kernel_rfl) (fun _ _ _ h => h) (by kernel_rfl) (by intro _ h; exact ex_conv (by exact rfl) (by exact rfl) (conv_u16 _ _ .i64 m (by rw [Try.underlying3]; rfl) Try.underlying22 hmr.1 hmr.2 _)) ?_
      simp only [Act.put, List.setIfInBounds_toArray, List.set_cons_zero, List.set_cons_succ]
      refine tk_one (by kernel_rfl) (op_callx (i := 3) (fun v w' => v = .int .i64 (k : Int) ∧ Below W0.heap.size W0 w') rfl (by kernel_rfl) (by exact ex_call (by exact rfl) Try.func57 (by kernel_rfl) (by kernel_rfl) (by simp only [List.map_toArray, List.map_cons, List.map_nil] <;> rfl)) ((place_any t ⟨A1, k1, A2, k2⟩ _ rd hs1).mono fun e w' g => by obtain ⟨⟨q, rfl, hq⟩, hb⟩ := g; exact ⟨_, rfl, ⟨by rw [hq.out, hkH.out], hb⟩, hS.keep (hb.mono hS.hN.lt)⟩) ?_)
      rintro v1 W1 ⟨rfl, hb⟩ hS1
      have ho1 := ho1.below hb
      have ho2 := ho2.below hb
      clear hb rd
      simp only [Act.put, List.setIfInBounds_toArray, List.set_cons_zero, List.set_cons_succ]
      refine tk_one (by kernel_rfl) (op_callx (i := 7) (fun v w' => OwnB w' (w.heap.size + 1 + 1) (.slice A1 t.ol.length k1) (set2 t.ol k m) ∧ OwnB w' (w.heap.size + 1 + 1) (.slice A2 t.bl.length k2) t.bl) rfl (by kernel_rfl) (by exact ex_call (by exact rfl) Try.func61 (by kernel_rfl) (by kernel_rfl) (by simp only [List.map_toArray, List.map_cons, List.map_nil] <;> rfl)) ((set_own (w.heap.size + 1 + 1) A1 t.ol.length k1 t.ol _ ho1 rfl k hk1 hs1 m hmr).mono fun e w' g => ⟨_, g.1, ⟨g.2.1, ho2.grown g.2.2 hap⟩, hS1.keep (below_own ho1.own g.2.2 hS1.hN.lt)⟩) ?_)
      rintro v2 W2 ⟨ho1, ho2⟩ hS2
      simp only [Act.put, List.setIfInBounds_toArray, List.set_cons_zero, List.set_cons_succ]
      refine wpAnyH_done (by kernel_rfl) ?_ _
      skip
      -- END 5
      have hz : { t with ol := set2 t.ol k m }.cells ⟨A1, k1, A2, k2⟩ = t.cells ⟨A1, k1, A2, k2⟩ := by simp only [DT.cells, set2_len]
      have hfin : ∀ W : World, W = W2.setRow (w.heap.size + 1) (t.cells ⟨A1, k1, A2, k2⟩) → RdT W.heap.size W { t with ol := set2 t.ol k m } ⟨A1, k1, A2, k2⟩ ∧ Below w.heap.size w W := fun W e => by
        subst e
        have q1 := (ho1.setRow (g := w.heap.size + 1) (cs := t.cells ⟨A1, k1, A2, k2⟩) (Nat.lt_succ_self _))
        exact ⟨⟨⟨rt.ok.src, rt.ok.dst, rt.ok.seq, rt.ok.ack, rt.ok.flags, rt.ok.window, rt.ok.urgent⟩, own_byN' q1 (by simp [set2_len]), (ho2.setRow (g := w.heap.size + 1) (cs := t.cells ⟨A1, k1, A2, k2⟩) (Nat.lt_succ_self _)).row⟩, hS2.b.trans (below_setRow'.mono (Nat.le_succ _))⟩
      have hT := hS2.hT
      have hN := hS2.hN
      go_wp2_with (first
        | (refine wpList_load_row rfl 26 (.tmp 2) rfl w.heap.size rfl 26 (t.cells ⟨A1, k1, A2, k2⟩) (0, 0) _ hT Try.underlying26 rfl tcp_info ?_)
        | (refine wpList_store_row rfl 26 (.tmp 4) (.tmp 37) rfl (w.heap.size + 1) _ rfl rfl 26 _ hN tcp_info rfl (by simp [DT.cells, Value.oneCell']) ?_))
      have hf := hfin _ rfl
      exact bodyPost_ret (res_cell2 Try.results34 rfl (hN.setRow_same.load (P := Try.prog) 26 Try.underlying26 rfl tcp_info) rfl) rfl ⟨⟨A1, k1, A2, k2⟩, by rw [hdH.out.1, hdH.out.2, hz]; rfl, by rw [hdH.out.1]; exact hf.1, hf.2⟩
end Go.Proofs.Ytaobnbjkhgcmlaa
