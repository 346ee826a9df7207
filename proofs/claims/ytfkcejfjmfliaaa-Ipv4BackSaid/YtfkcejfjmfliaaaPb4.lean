/-
  The walk of ipv4.parse, ipv4.Parse, ipv4.Part.
-/
import Derived.Test.YtfkcejfjmfliaaaPa4
namespace Go.Proofs.Ytfkcejfjmfliaaa
open Go.RowKit Go.Shelf

/-- a datagram that is told, with a place and an error's number; its bytes are the call's own -/
def Told4p (base : Nat) (w' : World) (D : D4) (at_ s : Int) (e : Ending) : Prop := ∃ p a' s', e = .returned (.tuple #[.agg (D.cells p), .int .i64 a', .int .i64 s']) ∧ Hid (a' = at_) ∧ Hid (s' = s) ∧ Own4 w' base D p
theorem own4_zero (w : World) (base : Nat) : Own4 w base zero4 pZ := ⟨(zero4_rd w).ok, OwnB.nil _ _, OwnB.nil _ _⟩
section
variable {P : Program}
theorem load_cell {ty : TypeId} {b k : Nat} {v : Value} {w : World} {d : TypeDesc} (hu : P.underlying ty = some d) (hd : d.isRow = false) (h : w.cell? ⟨b, k, none⟩ = some v) : (loadVar ty ⟨b, k, none⟩).run P w = .ok v w := by
  have hagg : (isAgg ty).run P w = .ok false w := by
    unfold isAgg
    rw [Sem.run_bind, run_underlying hu w]
    cases d <;> simp_all [TypeDesc.isRow]
  simp [loadVar, Sem.run_bind, hagg, h]
theorem res_ccc {fn : Func} {tmps : Array Value} {a b c : Nat} {ta tb tc : TypeId} {ga gb gc : Nat} {u v x : Value} {w : World} (hr : fn.results = #[.cell a ta, .cell b tb, .cell c tc])
    (ha : tmps.getD a undef = .pointer (some ⟨ga, 0, none⟩)) (hb : tmps.getD b undef = .pointer (some ⟨gb, 0, none⟩)) (hc : tmps.getD c undef = .pointer (some ⟨gc, 0, none⟩))
    (la : (loadVar ta ⟨ga, 0, none⟩).run P w = .ok u w) (lb : (loadVar tb ⟨gb, 0, none⟩).run P w = .ok v w) (lc : (loadVar tc ⟨gc, 0, none⟩).run P w = .ok x w) :
    (results fn tmps).run P w = .ok (.tuple #[u, v, x]) w := by
  rw [Array.getD_eq_getD_getElem?] at ha hb hc
  simp [results, hr, ha, hb, hc, asAddr, la, lb, lc]
end
theorem told_mk {fn : Func} {tmps : Array Value} {w w' : World} {gV gA gE : Nat} {D : D4} {p : W4} {a s a' s' : Int} (hr : fn.results = #[.cell 4 27, .cell 5 3, .cell 6 28])
    (h4 : tmps.getD 4 undef = .pointer (some ⟨gV, 0, none⟩)) (h5 : tmps.getD 5 undef = .pointer (some ⟨gA, 0, none⟩)) (h6 : tmps.getD 6 undef = .pointer (some ⟨gE, 0, none⟩))
    (hV : Has w' gV (.cells (D.cells p) 27 (0, 0))) (hA : Has w' gA (.cells #[.int .i64 a'] 3 (0, 0))) (hE : Has w' gE (.cells #[.int .i64 s'] 28 (0, 0)))
    (ho : Own4 w' w.heap.size D p) (ha : a' = a) (hs : s' = s) (hb : Below w.heap.size w w') :
    Leaves Try.prog fn tmps (fun e w' => Told4p w.heap.size w' D a s e ∧ Below w.heap.size w w') [] .returning w' :=
  ⟨_, res_ccc hr h4 h5 h6 (hV.load (P := Try.prog) 27 Try.underlying27 rfl v4_info) (load_cell Try.underlying3 rfl (hA.cell 0 rfl)) (load_cell Try.underlying28 rfl (hE.cell 0 rfl)),
    ⟨p, a', s', rfl, Lib.hid ha, Lib.hid hs, ho⟩, hb⟩

set_option maxRecDepth 100000 in
set_option maxHeartbeats 2000000 in
theorem parse4_any (part : Bool) (A : Option Addr) (c : Nat) (l : List Int) (w : World) (hy : By w.heap.size w A l.length c l) :
    Calls Try.prog 40 #[.slice A l.length c, .bool part] w fun e w' => Told4p w.heap.size w' (got4 part l) (pat4 (pe4 part l)) (pe4 part l) e ∧ Below w.heap.size w w' := by
  have hmf : ∀ (fn : Fn) (first cap : Array Value) (w : World), (Instr.makeFunc fn first cap).run Try.prog w = .ok (.func fn first cap) w := fun _ _ _ _ => rfl
  have hBl : Below w.heap.size w ((((w.alloc (.cells z4cells 27)).alloc (.cells #[.int .i64 0] 3)).alloc (.cells #[.int .i64 0] 28)).alloc (.cells #[.slice A l.length c] 76)) :=
    ((((Below.refl _ _).alloc (Nat.le_refl _) _).alloc (by simp) _).alloc (by simp; omega) _).alloc (by simp; omega) _
  have hV : Has ((((w.alloc (.cells z4cells 27)).alloc (.cells #[.int .i64 0] 3)).alloc (.cells #[.int .i64 0] 28)).alloc (.cells #[.slice A l.length c] 76)) w.heap.size (.cells z4cells 27 (0, 0)) := (((Has.newAt rfl).alloc).alloc).alloc
  have hA : Has ((((w.alloc (.cells z4cells 27)).alloc (.cells #[.int .i64 0] 3)).alloc (.cells #[.int .i64 0] 28)).alloc (.cells #[.slice A l.length c] 76)) (w.heap.size + 1) (.cells #[.int .i64 0] 3 (0, 0)) := ((Has.newAt (by simp)).alloc).alloc
  have hE : Has ((((w.alloc (.cells z4cells 27)).alloc (.cells #[.int .i64 0] 3)).alloc (.cells #[.int .i64 0] 28)).alloc (.cells #[.slice A l.length c] 76)) (w.heap.size + 1 + 1) (.cells #[.int .i64 0] 28 (0, 0)) := (Has.newAt (by simp)).alloc
  have hG : Has ((((w.alloc (.cells z4cells 27)).alloc (.cells #[.int .i64 0] 3)).alloc (.cells #[.int .i64 0] 28)).alloc (.cells #[.slice A l.length c] 76)) (w.heap.size + 1 + 1 + 1) (.cells #[.slice A l.length c] 76 (0, 0)) := Has.newAt (by simp)
  have y1 := (hy.below hBl (Nat.le_refl _)).more (show w.heap.size ≤ w.heap.size + 1 + 1 + 1 by omega)
  have hR : RD (w.heap.size + 1 + 1 + 1) (w.heap.size + 1 + 1 + 1) 76 ((((w.alloc (.cells z4cells 27)).alloc (.cells #[.int .i64 0] 3)).alloc (.cells #[.int .i64 0] 28)).alloc (.cells #[.slice A l.length c] 76)) ((((w.alloc (.cells z4cells 27)).alloc (.cells #[.int .i64 0] 3)).alloc (.cells #[.int .i64 0] 28)).alloc (.cells #[.slice A l.length c] 76)) l 0 :=
    ⟨⟨A, c, hG, y1⟩, Nat.le_refl _, Below.refl _ _⟩
  by_cases he : pe4 part l = 0
  · have hgot : got4 part l = of4 l := by unfold got4; rw [if_pos he]
    rw [hgot, he]
    go_enter_defers Try.func40, Try.ntmps40
    go_wp2_with fail
    refine (read_ok A c part hR y1 hy.rng he).mono ?_
    rintro e w2 ⟨p, rfl, ho, hb⟩
    have hV := hV.below hb (by omega)
    have hA := hA.below hb (by omega)
    have hE := hE.below hb (by omega)
    have hb2 := hBl.trans (hb.mono (by omega))
    clear hmf hG hR hb y1 hBl he
    have nA : w.heap.size + 1 ≠ w.heap.size := by omega
    have nE : w.heap.size + 1 + 1 ≠ w.heap.size := by omega
    have nEA : w.heap.size + 1 + 1 ≠ w.heap.size + 1 := by omega
    have hA := hA.setRow_other (cs' := (of4 l).cells p) nA
    have hE := hE.setRow_other (cs' := (of4 l).cells p) nE
    have cA := hA.cell 0 (v := .int .i64 0) rfl
    have fA := hA.free 0
    have hE' := hE.setCell_other nEA 0 (.int .i64 0)
    have cE := hE'.cell 0 (v := .int .i64 0) rfl
    have fE := hE'.free 0
    go_wp2_with (refine wpList_store_row rfl 27 (.tmp 4) (.tmp 16) rfl w.heap.size _ rfl rfl 27 _ hV v4_info rfl (by simp [D4.cells, Value.oneCell']) ?_)
    have hV := ((hV.setRow_same (cs' := (of4 l).cells p)).setCell_other (Ne.symm nA) 0 (.int .i64 0)).setCell_other (Ne.symm nE) 0 (.int .i64 0)
    have hA := (hA.setCell 0 (.int .i64 0)).setCell_other (Ne.symm nEA) 0 (.int .i64 0)
    have hE := hE'.setCell 0 (.int .i64 0)
    have hb3 := below_setCell (below_setCell (hb2.trans (below_setRow' (cs := (of4 l).cells p))) (show w.heap.size ≤ w.heap.size + 1 by omega) 0 (.int .i64 0)) (show w.heap.size ≤ w.heap.size + 1 + 1 by omega) 0 (.int .i64 0)
    have ho3 : Own4 (((w2.setRow w.heap.size ((of4 l).cells p)).setCell ⟨w.heap.size + 1, 0, none⟩ (.int .i64 0)).setCell ⟨w.heap.size + 1 + 1, 0, none⟩ (.int .i64 0)) w.heap.size (of4 l) p :=
      ⟨ho.ok, (((ho.opt.setRow (by omega)).setCell (by omega) 0 _).setCell (by omega) 0 _).more (by omega), (((ho.body.setRow (by omega)).setCell (by omega) 0 _).setCell (by omega) 0 _).more (by omega)⟩
    refine leaves_cons (f := 47) (args := #[.pointer (some ⟨w.heap.size, 0, none⟩), .pointer (some ⟨w.heap.size + 1, 0, none⟩), .pointer (some ⟨w.heap.size + 1 + 1, 0, none⟩)]) (by simp) (by simp [go_sem]) ?_
    refine (catch_idle _ _ _ _).mono ?_
    rintro e u' w'' ⟨rfl, rfl, rfl⟩
    exact told_mk Try.results40 rfl rfl rfl hV hA hE ho3 rfl rfl hb3
  · have hgot : got4 part l = zero4 := by unfold got4; rw [if_neg he]
    rw [hgot]
    go_enter_defers Try.func40, Try.ntmps40
    go_wp2_with fail
    refine (read_bad A c part hR y1 hy.rng he).mono ?_
    rintro e w2 ⟨rfl, hb⟩
    have hV := hV.below hb (by omega)
    have hA := hA.below hb (by omega)
    have hE := hE.below hb (by omega)
    have hb2 := hBl.trans (hb.mono (by omega))
    clear hmf hG hR hb y1 hBl he
    refine leaves_cons (f := 47) (args := #[.pointer (some ⟨w.heap.size, 0, none⟩), .pointer (some ⟨w.heap.size + 1, 0, none⟩), .pointer (some ⟨w.heap.size + 1 + 1, 0, none⟩)]) (by simp) (by simp [go_sem]) ?_
    refine (catch_fault _ _ _ _ _ [] _ _ _ _ hV rfl hA hE (by omega) (by omega) (by omega)).mono ?_
    rintro e u' w'' ⟨rfl, rfl, h1, h2, h3, hall⟩
    exact told_mk (p := pZ) Try.results40 rfl rfl rfl h1 h2 h3 (own4_zero _ _) rfl rfl (hb2.trans (hall _ (by omega) (by omega) (by omega)))

theorem pparse_any (A : Option Addr) (c : Nat) (l : List Int) (w : World) (hy : By w.heap.size w A l.length c l) :
    Calls Try.prog 23 #[.slice A l.length c] w fun e w' => Told4p w.heap.size w' (got4 false l) (pat4 (pe4 false l)) (pe4 false l) e ∧ Below w.heap.size w w' := by
  have hV : Has (w.alloc (.cells z4cells 27)) w.heap.size (.cells z4cells 27 (0, 0)) := Has.newAt rfl
  have hB : Below w.heap.size w (w.alloc (.cells z4cells 27)) := (Below.refl _ _).alloc (Nat.le_refl _) _
  have hc := Lib.hid (parse4_any false A c l (w.alloc (.cells z4cells 27)) ((hy.below hB (Nat.le_refl _)).more hB.size))
  go_enter Try.func23, Try.ntmps23
  go_wp2_with fail
  refine hc.out.mono ?_
  rintro e w1 ⟨⟨p, a, s, rfl, h1, h2, h3⟩, hb⟩
  have hV := hV.below hb hV.lt
  have hlt : w.heap.size < (w.alloc (.cells z4cells 27)).heap.size := by simp
  clear hc
  go_wp2_with (refine wpList_store_row rfl 27 (.tmp 2) (.tmp 7) rfl w.heap.size _ rfl rfl 27 _ hV v4_info rfl (by simp [D4.cells, Value.oneCell']) ?_)
  exact bodyPost_ret (res_cell3 Try.results23 rfl (hV.setRow_same.load (P := Try.prog) 27 Try.underlying27 rfl v4_info) rfl rfl) rfl
    ⟨⟨p, a, s, rfl, h1, h2, h3.ok, (h3.opt.setRow hlt).more hB.size, (h3.body.setRow hlt).more hB.size⟩, hB.trans ((hb.mono hB.size).trans below_setRow')⟩
theorem ppart_any (A : Option Addr) (c : Nat) (l : List Int) (w : World) (hy : By w.heap.size w A l.length c l) :
    Calls Try.prog 22 #[.slice A l.length c] w fun e w' => Told4p w.heap.size w' (got4 true l) (pat4 (pe4 true l)) (pe4 true l) e ∧ Below w.heap.size w w' := by
  have hV : Has (w.alloc (.cells z4cells 27)) w.heap.size (.cells z4cells 27 (0, 0)) := Has.newAt rfl
  have hB : Below w.heap.size w (w.alloc (.cells z4cells 27)) := (Below.refl _ _).alloc (Nat.le_refl _) _
  have hc := Lib.hid (parse4_any true A c l (w.alloc (.cells z4cells 27)) ((hy.below hB (Nat.le_refl _)).more hB.size))
  go_enter Try.func22, Try.ntmps22
  go_wp2_with fail
  refine hc.out.mono ?_
  rintro e w1 ⟨⟨p, a, s, rfl, h1, h2, h3⟩, hb⟩
  have hV := hV.below hb hV.lt
  have hlt : w.heap.size < (w.alloc (.cells z4cells 27)).heap.size := by simp
  clear hc
  go_wp2_with (refine wpList_store_row rfl 27 (.tmp 2) (.tmp 7) rfl w.heap.size _ rfl rfl 27 _ hV v4_info rfl (by simp [D4.cells, Value.oneCell']) ?_)
  exact bodyPost_ret (res_cell3 Try.results22 rfl (hV.setRow_same.load (P := Try.prog) 27 Try.underlying27 rfl v4_info) rfl rfl) rfl
    ⟨⟨p, a, s, rfl, h1, h2, h3.ok, (h3.opt.setRow hlt).more hB.size, (h3.body.setRow hlt).more hB.size⟩, hB.trans ((hb.mono hB.size).trans below_setRow')⟩
end Go.Proofs.Ytfkcejfjmfliaaa
