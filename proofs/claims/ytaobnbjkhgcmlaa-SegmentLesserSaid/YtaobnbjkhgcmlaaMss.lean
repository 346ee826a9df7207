/-
  The walks of segment.MSS and of the reference's MSS.
-/
import Derived.Test.YtaobnbjkhgcmlaaPl6
namespace Go.Proofs.Ytaobnbjkhgcmlaa
open Go.RowKit Go.Shelf

def mssOk (t : DT) : Bool := decide (0 ≤ mssAt t)
def mssVal (t : DT) : Int := if mssAt t < 0 then 0 else be2 t.ol (mssAt t).toNat

set_option maxRecDepth 100000 in
theorem mss_any (t : DT) (p : WT) (w : World) (rt : RdT w.heap.size w t p) (hs1 : t.ol.length ≤ 140737488355328) :
    Calls Try.prog 32 #[.agg (t.cells p)] w fun e w' => (∃ (n : Int) (q : Bool), e = .returned (.tuple #[.int .i64 n, .bool q]) ∧ Hid (n = mssVal t ∧ q = mssOk t)) ∧ Below w.heap.size w w' := by
  have hT : Has (w.alloc (.cells (t.cells p) 26)) w.heap.size (.cells (t.cells p) 26 (0, 0)) := Has.newAt rfl
  have hB : Below w.heap.size w (w.alloc (.cells (t.cells p) 26)) := (Below.refl _ _).alloc (Nat.le_refl _) _
  have hcH := Lib.hid (place_any t p (w.alloc (.cells (t.cells p) 26)) ((rt.below hB (Nat.le_refl _)).more hB.size) hs1)
  go_enter Try.func32, Try.ntmps32
  go_wp2_with (refine wpList_load_row rfl 26 (.tmp 1) rfl w.heap.size rfl 26 (t.cells p) (0, 0) _ hT Try.underlying26 rfl tcp_info ?_)
  refine hcH.out.mono ?_
  rintro e w1 ⟨⟨q, rfl, hq⟩, hb1⟩
  have hT1 := hT.below hb1 hT.lt
  have hB1 := hB.trans (hb1.mono hB.size)
  clear hcH hT hb1 hB
  by_cases h0 : q < 0
  · have hr : mssVal t = 0 ∧ mssOk t = false := ⟨by rw [mssVal, ← hq.out, if_pos h0], by rw [mssOk, ← hq.out]; exact decide_eq_false (by omega)⟩
    have hrH := Lib.hid hr
    clear hr hq
    go_wp2
    go_ret2
    exact ⟨⟨_, _, rfl, Lib.hid ⟨hrH.out.1.symm, hrH.out.2.symm⟩⟩, hB1⟩
  · obtain ⟨k, rfl⟩ : ∃ k : Nat, q = (k : Int) := ⟨q.toNat, by omega⟩
    have hr : mssVal t = be2 t.ol k ∧ mssOk t = true := ⟨by rw [mssVal, ← hq.out, if_neg h0, Int.toNat_natCast], by rw [mssOk, ← hq.out]; exact decide_eq_true (by omega)⟩
    have hk : k + 1 < t.ol.length := by have := hq.out; have := mssAt_rng t; omega
    have hrH := Lib.hid hr
    have c7 := hT1.cell 7 (v := .slice p.oA t.ol.length p.oc) rfl
    have hkH := Lib.hid hk
    have h0' : ¬ ((k : Int) < 0) := by omega
    have rr := be2_rng rt.opt.rng k
    clear hr hq hk
    go_wp2_with fail
    refine (two6_any p.oA _ p.oc t.ol _ ((rt.opt.below hB1 (Nat.le_refl _)).more hB1.size) k hkH.out).mono ?_
    rintro e w2 ⟨rfl, hb2⟩
    go_wp2
    go_ret2
    exact ⟨⟨_, _, rfl, Lib.hid ⟨hrH.out.1.symm, hrH.out.2.symm⟩⟩, hB1.trans (hb2.mono hB1.size)⟩

set_option maxRecDepth 100000 in
theorem rmss_any (t : DT) (p : WT) (w : World) (rt : RdT w.heap.size w t p) (hs1 : t.ol.length ≤ 140737488355328) :
    Calls Try.prog 33 #[.agg (t.cells p)] w fun e w' => (∃ (n : Int) (q : Bool), e = .returned (.tuple #[.int .i64 n, .bool q]) ∧ Hid (n = mssVal t ∧ q = mssOk t)) ∧ Below w.heap.size w w' := by
  have hT : Has (w.alloc (.cells (t.cells p) 26)) w.heap.size (.cells (t.cells p) 26 (0, 0)) := Has.newAt rfl
  have hB : Below w.heap.size w (w.alloc (.cells (t.cells p) 26)) := (Below.refl _ _).alloc (Nat.le_refl _) _
  have hcH := Lib.hid (rplace_any t p (w.alloc (.cells (t.cells p) 26)) ((rt.below hB (Nat.le_refl _)).more hB.size) hs1)
  go_enter Try.func33, Try.ntmps33
  go_wp2_with (refine wpList_load_row rfl 26 (.tmp 1) rfl w.heap.size rfl 26 (t.cells p) (0, 0) _ hT Try.underlying26 rfl tcp_info ?_)
  refine hcH.out.mono ?_
  rintro e w1 ⟨⟨q, rfl, hq⟩, hb1⟩
  have hT1 := hT.below hb1 hT.lt
  have hB1 := hB.trans (hb1.mono hB.size)
  clear hcH hT hb1 hB
  by_cases h0 : q < 0
  · have hr : mssVal t = 0 ∧ mssOk t = false := ⟨by rw [mssVal, ← hq.out, if_pos h0], by rw [mssOk, ← hq.out]; exact decide_eq_false (by omega)⟩
    have hrH := Lib.hid hr
    clear hr hq
    go_wp2
    go_ret2
    exact ⟨⟨_, _, rfl, Lib.hid ⟨hrH.out.1.symm, hrH.out.2.symm⟩⟩, hB1⟩
  · obtain ⟨k, rfl⟩ : ∃ k : Nat, q = (k : Int) := ⟨q.toNat, by omega⟩
    have hr : mssVal t = be2 t.ol k ∧ mssOk t = true := ⟨by rw [mssVal, ← hq.out, if_neg h0, Int.toNat_natCast], by rw [mssOk, ← hq.out]; exact decide_eq_true (by omega)⟩
    have hk : k + 1 < t.ol.length := by have := hq.out; have := mssAt_rng t; omega
    have hrH := Lib.hid hr
    have c7 := hT1.cell 7 (v := .slice p.oA t.ol.length p.oc) rfl
    have hkH := Lib.hid hk
    have h0' : ¬ ((k : Int) < 0) := by omega
    have rr := be2_rng rt.opt.rng k
    clear hr hq hk
    go_wp2_with fail
    refine (get2_any p.oA _ p.oc t.ol _ ((rt.opt.below hB1 (Nat.le_refl _)).more hB1.size) k hkH.out).mono ?_
    rintro e w2 ⟨rfl, hb2⟩
    go_wp2
    go_ret2
    exact ⟨⟨_, _, rfl, Lib.hid ⟨hrH.out.1.symm, hrH.out.2.symm⟩⟩, hB1.trans (hb2.mono hB1.size)⟩
end Go.Proofs.Ytaobnbjkhgcmlaa
