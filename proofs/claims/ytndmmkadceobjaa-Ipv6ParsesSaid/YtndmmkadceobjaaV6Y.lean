/-
  The walks of ipv6.Parse and ipv6.Part.
-/
import Derived.Test.YtndmmkadceobjaaV6X
namespace Go.Proofs.Ytndmmkadceobjaa
open Go.RowKit Go.Shelf

theorem Own6.setRow {w : World} {base g : Nat} {cs : Array Value} {D : D6} {p : W6} (h : Own6 w base D p) (hg : g < base) : Own6 (w.setRow g cs) base D p :=
  ⟨h.ok, h.own.but6 (But6.setRow g w cs) hg, h.hl, h.body.but6 (But6.setRow g w cs) hg⟩
theorem Own6.more {w : World} {base base' : Nat} {D : D6} {p : W6} (h : Own6 w base D p) (hb : base' ≤ base) : Own6 w base' D p := ⟨h.ok, h.own.more hb, h.hl, h.body.more hb⟩
theorem Own6.below {w w' : World} {base : Nat} {D : D6} {p : W6} (h : Own6 w base D p) (hb : Below w.heap.size w w') : Own6 w' base D p := ⟨h.ok, h.own.below hb, h.hl, h.body.below hb⟩
set_option maxRecDepth 100000 in
theorem pparse6_any (A : Option Addr) (c : Nat) (l : List Int) (w : World) (hy : By w.heap.size w A l.length c l) :
    Calls Try.prog 15 #[.slice A l.length c] w fun e w' => Told6 w.heap.size w' (got6 true l) ((g6 true l).pat : Int) (g6 true l).err e ∧ Below w.heap.size w w' := by
  have hV : Has (w.alloc (.cells z6cells 28)) w.heap.size (.cells z6cells 28 (0, 0)) := Has.newAt rfl
  have hB : Below w.heap.size w (w.alloc (.cells z6cells 28)) := (Below.refl _ _).alloc (Nat.le_refl _) _
  have hc := Lib.hid (read6_true A c l (w.alloc (.cells z6cells 28)) ((hy.below hB (Nat.le_refl _)).more hB.size))
  go_enter Try.func15, Try.ntmps15
  go_wp2_with fail
  refine hc.out.mono ?_
  rintro e w1 ⟨⟨p, a, s, rfl, h1, h2, h3⟩, hb⟩
  have hV := hV.below hb hV.lt
  have hlt : w.heap.size < (w.alloc (.cells z6cells 28)).heap.size := by simp
  clear hc
  go_wp2_with (refine wpList_store_row rfl 28 (.tmp 2) (.tmp 7) rfl w.heap.size _ rfl rfl 28 _ hV v6_info rfl (D6.cells_one _ _) ?_)
  exact bodyPost_ret (res_cell3 Try.results15 rfl (hV.setRow_same.load (P := Try.prog) 28 Try.underlying28 rfl v6_info) rfl rfl) rfl
    ⟨⟨p, a, s, rfl, h1, h2, (h3.setRow hlt).more hB.size⟩, hB.trans ((hb.mono hB.size).trans below_setRow')⟩
set_option maxRecDepth 100000 in
theorem ppart6_any (A : Option Addr) (c : Nat) (l : List Int) (w : World) (hy : By w.heap.size w A l.length c l) :
    Calls Try.prog 18 #[.slice A l.length c] w fun e w' => Told6 w.heap.size w' (got6 false l) ((g6 false l).pat : Int) (g6 false l).err e ∧ Below w.heap.size w w' := by
  have hV : Has (w.alloc (.cells z6cells 28)) w.heap.size (.cells z6cells 28 (0, 0)) := Has.newAt rfl
  have hB : Below w.heap.size w (w.alloc (.cells z6cells 28)) := (Below.refl _ _).alloc (Nat.le_refl _) _
  have hc := Lib.hid (read6_false A c l (w.alloc (.cells z6cells 28)) ((hy.below hB (Nat.le_refl _)).more hB.size))
  go_enter Try.func18, Try.ntmps18
  go_wp2_with fail
  refine hc.out.mono ?_
  rintro e w1 ⟨⟨p, a, s, rfl, h1, h2, h3⟩, hb⟩
  have hV := hV.below hb hV.lt
  have hlt : w.heap.size < (w.alloc (.cells z6cells 28)).heap.size := by simp
  clear hc
  go_wp2_with (refine wpList_store_row rfl 28 (.tmp 2) (.tmp 7) rfl w.heap.size _ rfl rfl 28 _ hV v6_info rfl (D6.cells_one _ _) ?_)
  exact bodyPost_ret (res_cell3 Try.results18 rfl (hV.setRow_same.load (P := Try.prog) 28 Try.underlying28 rfl v6_info) rfl rfl) rfl
    ⟨⟨p, a, s, rfl, h1, h2, (h3.setRow hlt).more hB.size⟩, hB.trans ((hb.mono hB.size).trans below_setRow')⟩
end Go.Proofs.Ytndmmkadceobjaa
