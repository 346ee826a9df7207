/-
  Lemmas and walks for the row of TosixLong (part 27 of 37).
-/
import Derived.Test.YtijnifbpbgckgaaTlAG
import Derived.Test.YtijnifbpbgckgaaTlAL
import Derived.Test.YtijnifbpbgckgaaTlAU
import Derived.Test.YtijnifbpbgckgaaTlAV
import Derived.Test.YtijnifbpbgckgaaTlAX
import Derived.Test.YtijnifbpbgckgaaTlAZ
import Derived.Recover
set_option linter.unusedVariables false
set_option linter.unusedSimpArgs false
namespace Go.Proofs.Ytijnifbpbgckgaa
open Go.RowKit Go.Shelf

theorem any_iface : Try.prog.underlying 20 = some (.interface (Try.prog.methodsAt 20)) := by kernel_rfl
theorem neq_nil (w : World) : (binOp .neq 20 .nilIface .nilIface).run Try.prog w = .ok (.bool false) w := run_neq_nil_nil w _ any_iface
theorem neq_fault (v : Value) (w : World) : (binOp .neq 20 (.iface 155 v) .nilIface).run Try.prog w = .ok (.bool true) w := run_neq_held_nil w _ _ _ any_iface
theorem assert_fault (v : Value) (w : World) : (Instr.typeAssert (.iface 155 v) 20 155 true).run Try.prog w = .ok (.tuple #[v, .bool true]) w := by
  unfold Instr.typeAssert
  simp [run_underlying Try.underlying155]

theorem catch_idle (g1 g2 g3 : Nat) (w : World) :
    CallsD Try.prog 105 #[.pointer (some ⟨g1, 0, none⟩), .pointer (some ⟨g2, 0, none⟩), .pointer (some ⟨g3, 0, none⟩)] .returning w fun e u' w' => e = .returned (.tuple #[]) ∧ u' = .returning ∧ w' = w := by
  have hn0 := neq_nil
  refine callsD_of_wpS Try.func105 rfl fun c₀ cs hu => ?_
  apply wpS_seq
  apply wpS_region
  simp [wpOpsS, go_sem, recoverD, hu, Try.ntmps105, Exit.thenS]
  refine wpS_of_wp ?_
  rw [show (#[Value.pointer (some ⟨g1, 0, none⟩), .pointer (some ⟨g2, 0, none⟩), .pointer (some ⟨g3, 0, none⟩)] ++ ((Array.replicate 19 undef).setIfInBounds 3 .nilIface).setIfInBounds 0 .nilIface) = #[.pointer (some ⟨g1, 0, none⟩), .pointer (some ⟨g2, 0, none⟩), .pointer (some ⟨g3, 0, none⟩), .nilIface, undef, undef, .nilIface, undef, undef, undef, undef, undef, undef, undef, undef, undef, undef, undef, undef, undef, undef, undef] from by apply Array.ext'; simp [List.replicate]]
  refine (?_ : ∀ Q : Exit → Act → World → Prop, Q = _ → Code.wp _ _ Q _ _) _ rfl
  intro Q hQ
  have hQ := Lib.hid hQ
  go_wp2
  subst hQ
  cases c₀
  simp_all [bodyPostS, results, Try.results105]


theorem catch_fault (g1 g2 g3 : Nat) (p s : Int) (older : List PanicEntry) (w : World) (o1 : Array Value) (a0 e0 : Int) (h1 : Has w g1 (.cells o1 27 (0, 0))) (hs : o1.size = 17) (h2 : Has w g2 (.cells #[.int .i64 a0] 3 (0, 0))) (h3 : Has w g3 (.cells #[.int .i64 e0] 37 (0, 0))) (h12 : g2 ≠ g1) (h13 : g3 ≠ g1) (h23 : g3 ≠ g2) :
    CallsD Try.prog 105 #[.pointer (some ⟨g1, 0, none⟩), .pointer (some ⟨g2, 0, none⟩), .pointer (some ⟨g3, 0, none⟩)] (.panicking ({ v := .iface 155 (.agg #[.int .i64 p, .int .i64 s]), recovered := false } :: older)) w fun e u' w' =>
      e = .returned (.tuple #[]) ∧ u' = .panicking ({ v := .iface 155 (.agg #[.int .i64 p, .int .i64 s]), recovered := true } :: older) ∧
      Has w' g1 (.cells z4cells 27 (0, 0)) ∧ Has w' g2 (.cells #[.int .i64 p] 3 (0, 0)) ∧ Has w' g3 (.cells #[.int .i64 s] 37 (0, 0)) ∧ ∀ B, B ≤ g1 → B ≤ g2 → B ≤ g3 → Below B w w' := by
  have hn0 := neq_fault (.agg #[.int .i64 p, .int .i64 s])
  have hn1 := assert_fault (.agg #[.int .i64 p, .int .i64 s])
  refine callsD_of_wpS Try.func105 rfl fun c₀ cs hu => ?_
  apply wpS_seq
  apply wpS_region
  simp [wpOpsS, go_sem, recoverD, hu, Try.ntmps105, Exit.thenS]
  refine wpS_of_wp ?_
  rw [show (#[Value.pointer (some ⟨g1, 0, none⟩), .pointer (some ⟨g2, 0, none⟩), .pointer (some ⟨g3, 0, none⟩)] ++ ((Array.replicate 19 undef).setIfInBounds 3 (.iface 155 (.agg #[.int .i64 p, .int .i64 s]))).setIfInBounds 0 (.iface 155 (.agg #[.int .i64 p, .int .i64 s]))) = #[.pointer (some ⟨g1, 0, none⟩), .pointer (some ⟨g2, 0, none⟩), .pointer (some ⟨g3, 0, none⟩), (.iface 155 (.agg #[.int .i64 p, .int .i64 s])), undef, undef, (.iface 155 (.agg #[.int .i64 p, .int .i64 s])), undef, undef, undef, undef, undef, undef, undef, undef, undef, undef, undef, undef, undef, undef, undef] from by apply Array.ext'; simp [List.replicate]]
  refine (?_ : ∀ Q : Exit → Act → World → Prop, Q = _ → Code.wp _ _ Q _ _) _ rfl
  intro Q hQ
  have hQ := Lib.hid hQ
  go_wp2
  have hF : Has (w.alloc (.cells #[.int .i64 p, .int .i64 s] 155)) w.heap.size (.cells #[.int .i64 p, .int .i64 s] 155 (0, 0)) := Has.newAt rfl
  have hb := (Below.refl w.heap.size w).alloc (Nat.le_refl _) (.cells #[.int .i64 p, .int .i64 s] 155)
  have k1 := h1.lt
  have k2 := h2.lt
  have k3 := h3.lt
  have h1 := (h1.below hb k1).drew
  have h2 := (h2.below hb k2).drew
  have h3 := (h3.below hb k3).drew
  rw [hQ.out]
  refine wp_region_held_drew (S := fun w' => Has w' w.heap.size (.cells #[.int .i64 p, .int .i64 s] 155 (0, 0))) (by kernel_rfl) hF.drew (fun hS => ?_)
  have hb : Below w.heap.size w (w.alloc (.cells #[.int .i64 p, .int .i64 s] 155)).drew := hb.trans (below_drew _ _)
  generalize (w.alloc (.cells #[.int .i64 p, .int .i64 s] 155)).drew = w1 at hS h1 h2 h3 hb ⊢
  refine te 0 (.agg #[.int .u8 0, .int .u16 0, .bool false, .bool false, .int .i64 0, .int .u8 0, .int .u8 0, .int .u8 0, .int .u8 0, .int .u8 0, .int .u8 0, .int .u8 0, .int .u8 0, .int .u8 0, .int .u8 0, .slice none 0 0, .slice none 0 0]) hS rfl (by intro _ _; go_simp) ?_
  simp only [lay]
  refine te 1 (.pointer (some ⟨w.heap.size, 0, none⟩)) hS rfl (by intro _ _; exact ex_field 0 0 (by exact rfl) Try.underlying155 (by exact rfl) rfl (by kernel_rfl) (by exact rfl)) ?_
  simp only [lay]
  refine te 2 (.int .i64 p) hS rfl (by intro _ h; exact ex_cell (by exact rfl) Try.underlying3 rfl (by exact rfl) (Has.cell h 0 rfl)) ?_
  simp only [lay]
  refine te 3 (.pointer (some ⟨w.heap.size, 1, none⟩)) hS rfl (by intro _ _; exact ex_field 1 0 (by exact rfl) Try.underlying155 (by exact rfl) rfl (by kernel_rfl) (by exact rfl)) ?_
  simp only [lay]
  refine te 4 (.int .i64 s) hS rfl (by intro _ h; exact ex_cell (by exact rfl) Try.underlying37 rfl (by exact rfl) (Has.cell h 1 rfl)) ?_
  simp only [lay]
  have n1 : w.heap.size ≠ g1 := by omega
  have n2 : w.heap.size ≠ g2 := by omega
  have n3 : w.heap.size ≠ g3 := by omega
  have hS5 := hS.setRow_other (cs' := #[.int .u8 0, .int .u16 0, .bool false, .bool false, .int .i64 0, .int .u8 0, .int .u8 0, .int .u8 0, .int .u8 0, .int .u8 0, .int .u8 0, .int .u8 0, .int .u8 0, .int .u8 0, .int .u8 0, .slice none 0 0, .slice none 0 0]) n1
  have hS6 := hS5.setCell_other n2 0 (.int .i64 p)
  have hS7 := hS6.setCell_other n3 0 (.int .i64 s)
  refine tk_store (i := 5) (by kernel_rfl) rfl (by kernel_rfl) rfl rfl rfl h1 v4_info hs (by simp [Value.oneCell']) hS5 ?_
  simp only [lay]
  have h2 := h2.setRow_other (cs' := #[.int .u8 0, .int .u16 0, .bool false, .bool false, .int .i64 0, .int .u8 0, .int .u8 0, .int .u8 0, .int .u8 0, .int .u8 0, .int .u8 0, .int .u8 0, .int .u8 0, .int .u8 0, .int .u8 0, .slice none 0 0, .slice none 0 0]) h12
  have h3 := h3.setRow_other (cs' := #[.int .u8 0, .int .u16 0, .bool false, .bool false, .int .i64 0, .int .u8 0, .int .u8 0, .int .u8 0, .int .u8 0, .int .u8 0, .int .u8 0, .int .u8 0, .int .u8 0, .int .u8 0, .int .u8 0, .slice none 0 0, .slice none 0 0]) h13
  have h1 := h1.setRow_same (cs' := #[.int .u8 0, .int .u16 0, .bool false, .bool false, .int .i64 0, .int .u8 0, .int .u8 0, .int .u8 0, .int .u8 0, .int .u8 0, .int .u8 0, .int .u8 0, .int .u8 0, .int .u8 0, .int .u8 0, .slice none 0 0, .slice none 0 0])
  refine tk_store1 (i := 6) (v := .int .i64 p) (by kernel_rfl) rfl (by kernel_rfl) rfl rfl rfl rfl (by kernel_rfl) (h2.cell 0 rfl) (h2.free 0) rfl hS6 ?_
  simp only [lay]
  have h3 := h3.setCell_other h23 0 (.int .i64 p)
  have h1 := h1.setCell_other (Ne.symm h12) 0 (.int .i64 p)
  have h2 := h2.setCell 0 (.int .i64 p)
  refine tk_store1 (i := 7) (v := .int .i64 s) (by kernel_rfl) rfl (by kernel_rfl) rfl rfl rfl rfl (by kernel_rfl) (h3.cell 0 rfl) (h3.free 0) rfl hS7 ?_
  simp only [lay]
  have h1 := h1.setCell_other (Ne.symm h13) 0 (.int .i64 s)
  have h2 := h2.setCell_other (Ne.symm h23) 0 (.int .i64 s)
  have h3 := h3.setCell 0 (.int .i64 s)
  have hall : ∀ B, B ≤ g1 → B ≤ g2 → B ≤ g3 → Below B w (((w1.setRow g1 #[.int .u8 0, .int .u16 0, .bool false, .bool false, .int .i64 0, .int .u8 0, .int .u8 0, .int .u8 0, .int .u8 0, .int .u8 0, .int .u8 0, .int .u8 0, .int .u8 0, .int .u8 0, .int .u8 0, .slice none 0 0, .slice none 0 0]).setCell ⟨g2, 0, none⟩ (.int .i64 p)).setCell ⟨g3, 0, none⟩ (.int .i64 s)) := fun B b1 b2 b3 =>
    below_setCell (below_setCell (below_setRow (hb.mono (by omega)) b1 _) b2 0 _) b3 0 _
  refine wpAnyH_done (by kernel_rfl) ?_ _
  generalize ((w1.setRow g1 #[.int .u8 0, .int .u16 0, .bool false, .bool false, .int .i64 0, .int .u8 0, .int .u8 0, .int .u8 0, .int .u8 0, .int .u8 0, .int .u8 0, .int .u8 0, .int .u8 0, .int .u8 0, .int .u8 0, .slice none 0 0, .slice none 0 0]).setCell ⟨g2, 0, none⟩ (.int .i64 p)).setCell ⟨g3, 0, none⟩ (.int .i64 s) = w2 at h1 h2 h3 hall ⊢
  refine ⟨rfl, _, rfl, _, by simp [results, Try.results105], rfl, rfl, h1, h2, h3, hall⟩

end Go.Proofs.Ytijnifbpbgckgaa
namespace Go.Proofs.Ytijnifbpbgckgaa
open Go.RowKit Go.Shelf

/-- a datagram that is told, with a place and an error's number; its bytes are the call's own -/
def Told4p (base : Nat) (w' : World) (D : D4) (at_ s : Int) (e : Ending) : Prop := ∃ p a' s', e = .returned (.tuple #[.agg (D.cells p), .int .i64 a', .int .i64 s']) ∧ Hid (a' = at_) ∧ Hid (s' = s) ∧ Own4 w' base D p
theorem own4_zero (w : World) (base : Nat) : Own4 w base zero4 pZ := ⟨(zero4_rd w).ok, OwnB.nil _ _, OwnB.nil _ _⟩
section
variable {P : Program}
theorem load_cell {ty : TypeId} {b k : Nat} {v : Value} {w : World} {d : TypeDesc} (hu : P.underlying ty = some d) (hd : d.isRow = false) (h : w.cell? ⟨b, k, none⟩ = some v) : (loadVar ty ⟨b, k, none⟩).run P w = .ok v w := by
  have hagg : (isAgg ty).run P w = .ok false w := by
    unfold isAgg
    rw [Sem.run_bind, run_underlying hu w]
    cases d <;> simp_all [TypeDesc.isRow]
  simp [loadVar, Sem.run_bind, hagg, h]
theorem res_ccc {fn : Func} {tmps : Array Value} {a b c : Nat} {ta tb tc : TypeId} {ga gb gc : Nat} {u v x : Value} {w : World} (hr : fn.results = #[.cell a ta, .cell b tb, .cell c tc])
    (ha : tmps.getD a undef = .pointer (some ⟨ga, 0, none⟩)) (hb : tmps.getD b undef = .pointer (some ⟨gb, 0, none⟩)) (hc : tmps.getD c undef = .pointer (some ⟨gc, 0, none⟩))
    (la : (loadVar ta ⟨ga, 0, none⟩).run P w = .ok u w) (lb : (loadVar tb ⟨gb, 0, none⟩).run P w = .ok v w) (lc : (loadVar tc ⟨gc, 0, none⟩).run P w = .ok x w) :
    (results fn tmps).run P w = .ok (.tuple #[u, v, x]) w := by
  rw [Array.getD_eq_getD_getElem?] at ha hb hc
  simp [results, hr, ha, hb, hc, asAddr, la, lb, lc]
end
theorem told_mk {fn : Func} {tmps : Array Value} {w w' : World} {gV gA gE : Nat} {D : D4} {p : W4} {a s a' s' : Int} (hr : fn.results = #[.cell 4 27, .cell 5 3, .cell 6 37])
    (h4 : tmps.getD 4 undef = .pointer (some ⟨gV, 0, none⟩)) (h5 : tmps.getD 5 undef = .pointer (some ⟨gA, 0, none⟩)) (h6 : tmps.getD 6 undef = .pointer (some ⟨gE, 0, none⟩))
    (hV : Has w' gV (.cells (D.cells p) 27 (0, 0))) (hA : Has w' gA (.cells #[.int .i64 a'] 3 (0, 0))) (hE : Has w' gE (.cells #[.int .i64 s'] 37 (0, 0)))
    (ho : Own4 w' w.heap.size D p) (ha : a' = a) (hs : s' = s) (hb : Below w.heap.size w w') :
    Leaves Try.prog fn tmps (fun e w' => Told4p w.heap.size w' D a s e ∧ Below w.heap.size w w') [] .returning w' :=
  ⟨_, res_ccc hr h4 h5 h6 (hV.load (P := Try.prog) 27 Try.underlying27 rfl v4_info) (load_cell Try.underlying3 rfl (hA.cell 0 rfl)) (load_cell Try.underlying37 rfl (hE.cell 0 rfl)),
    ⟨p, a', s', rfl, Lib.hid ha, Lib.hid hs, ho⟩, hb⟩

set_option maxRecDepth 100000 in
set_option maxHeartbeats 2000000 in
theorem parse4_any (part : Bool) (A : Option Addr) (c : Nat) (l : List Int) (w : World) (hy : By w.heap.size w A l.length c l) :
    Calls Try.prog 84 #[.slice A l.length c, .bool part] w fun e w' => Told4p w.heap.size w' (got4 part l) (pat4 (pe4 part l)) (pe4 part l) e ∧ Below w.heap.size w w' := by
  have hmf : ∀ (fn : Fn) (first cap : Array Value) (w : World), (Instr.makeFunc fn first cap).run Try.prog w = .ok (.func fn first cap) w := fun _ _ _ _ => rfl
  have hBl : Below w.heap.size w ((((w.alloc (.cells z4cells 27)).alloc (.cells #[.int .i64 0] 3)).alloc (.cells #[.int .i64 0] 37)).alloc (.cells #[.slice A l.length c] 161)) :=
    ((((Below.refl _ _).alloc (Nat.le_refl _) _).alloc (by simp) _).alloc (by simp; omega) _).alloc (by simp; omega) _
  have hV : Has ((((w.alloc (.cells z4cells 27)).alloc (.cells #[.int .i64 0] 3)).alloc (.cells #[.int .i64 0] 37)).alloc (.cells #[.slice A l.length c] 161)) w.heap.size (.cells z4cells 27 (0, 0)) := (((Has.newAt rfl).alloc).alloc).alloc
  have hA : Has ((((w.alloc (.cells z4cells 27)).alloc (.cells #[.int .i64 0] 3)).alloc (.cells #[.int .i64 0] 37)).alloc (.cells #[.slice A l.length c] 161)) (w.heap.size + 1) (.cells #[.int .i64 0] 3 (0, 0)) := ((Has.newAt (by simp)).alloc).alloc
  have hE : Has ((((w.alloc (.cells z4cells 27)).alloc (.cells #[.int .i64 0] 3)).alloc (.cells #[.int .i64 0] 37)).alloc (.cells #[.slice A l.length c] 161)) (w.heap.size + 1 + 1) (.cells #[.int .i64 0] 37 (0, 0)) := (Has.newAt (by simp)).alloc
  have hG : Has ((((w.alloc (.cells z4cells 27)).alloc (.cells #[.int .i64 0] 3)).alloc (.cells #[.int .i64 0] 37)).alloc (.cells #[.slice A l.length c] 161)) (w.heap.size + 1 + 1 + 1) (.cells #[.slice A l.length c] 161 (0, 0)) := Has.newAt (by simp)
  have y1 := (hy.below hBl (Nat.le_refl _)).more (show w.heap.size ≤ w.heap.size + 1 + 1 + 1 by omega)
  have hR : RD (w.heap.size + 1 + 1 + 1) (w.heap.size + 1 + 1 + 1) 161 ((((w.alloc (.cells z4cells 27)).alloc (.cells #[.int .i64 0] 3)).alloc (.cells #[.int .i64 0] 37)).alloc (.cells #[.slice A l.length c] 161)) ((((w.alloc (.cells z4cells 27)).alloc (.cells #[.int .i64 0] 3)).alloc (.cells #[.int .i64 0] 37)).alloc (.cells #[.slice A l.length c] 161)) l 0 :=
    ⟨⟨A, c, hG, y1⟩, Nat.le_refl _, Below.refl _ _⟩
  by_cases he : pe4 part l = 0
  · have hgot : got4 part l = of4 l := by unfold got4; rw [if_pos he]
    rw [hgot, he]
    go_enter_defers Try.func84, Try.ntmps84
    go_wp2_with fail
    refine (read_ok A c part hR y1 hy.rng he).mono ?_
    rintro e w2 ⟨p, rfl, ho, hb⟩
    have hV := hV.below hb (by omega)
    have hA := hA.below hb (by omega)
    have hE := hE.below hb (by omega)
    have hb2 := hBl.trans (hb.mono (by omega))
    clear hmf hG hR hb y1 hBl he
    have nA : w.heap.size + 1 ≠ w.heap.size := by omega
    have nE : w.heap.size + 1 + 1 ≠ w.heap.size := by omega
    have nEA : w.heap.size + 1 + 1 ≠ w.heap.size + 1 := by omega
    have hA := hA.setRow_other (cs' := (of4 l).cells p) nA
    have hE := hE.setRow_other (cs' := (of4 l).cells p) nE
    have cA := hA.cell 0 (v := .int .i64 0) rfl
    have fA := hA.free 0
    have hE' := hE.setCell_other nEA 0 (.int .i64 0)
    have cE := hE'.cell 0 (v := .int .i64 0) rfl
    have fE := hE'.free 0
    go_wp2_with (refine wpList_store_row rfl 27 (.tmp 4) (.tmp 16) rfl w.heap.size _ rfl rfl 27 _ hV v4_info rfl (by simp [D4.cells, Value.oneCell']) ?_)
    have hV := ((hV.setRow_same (cs' := (of4 l).cells p)).setCell_other (Ne.symm nA) 0 (.int .i64 0)).setCell_other (Ne.symm nE) 0 (.int .i64 0)
    have hA := (hA.setCell 0 (.int .i64 0)).setCell_other (Ne.symm nEA) 0 (.int .i64 0)
    have hE := hE'.setCell 0 (.int .i64 0)
    have hb3 := below_setCell (below_setCell (hb2.trans (below_setRow' (cs := (of4 l).cells p))) (show w.heap.size ≤ w.heap.size + 1 by omega) 0 (.int .i64 0)) (show w.heap.size ≤ w.heap.size + 1 + 1 by omega) 0 (.int .i64 0)
    have ho3 : Own4 (((w2.setRow w.heap.size ((of4 l).cells p)).setCell ⟨w.heap.size + 1, 0, none⟩ (.int .i64 0)).setCell ⟨w.heap.size + 1 + 1, 0, none⟩ (.int .i64 0)) w.heap.size (of4 l) p :=
      ⟨ho.ok, (((ho.opt.setRow (by omega)).setCell (by omega) 0 _).setCell (by omega) 0 _).more (by omega), (((ho.body.setRow (by omega)).setCell (by omega) 0 _).setCell (by omega) 0 _).more (by omega)⟩
    refine leaves_cons (f := 105) (args := #[.pointer (some ⟨w.heap.size, 0, none⟩), .pointer (some ⟨w.heap.size + 1, 0, none⟩), .pointer (some ⟨w.heap.size + 1 + 1, 0, none⟩)]) (by simp) (by simp [go_sem]) ?_
    refine (catch_idle _ _ _ _).mono ?_
    rintro e u' w'' ⟨rfl, rfl, rfl⟩
    exact told_mk Try.results84 rfl rfl rfl hV hA hE ho3 rfl rfl hb3
  · have hgot : got4 part l = zero4 := by unfold got4; rw [if_neg he]
    rw [hgot]
    go_enter_defers Try.func84, Try.ntmps84
    go_wp2_with fail
    refine (read_bad A c part hR y1 hy.rng he).mono ?_
    rintro e w2 ⟨rfl, hb⟩
    have hV := hV.below hb (by omega)
    have hA := hA.below hb (by omega)
    have hE := hE.below hb (by omega)
    have hb2 := hBl.trans (hb.mono (by omega))
    clear hmf hG hR hb y1 hBl he
    refine leaves_cons (f := 105) (args := #[.pointer (some ⟨w.heap.size, 0, none⟩), .pointer (some ⟨w.heap.size + 1, 0, none⟩), .pointer (some ⟨w.heap.size + 1 + 1, 0, none⟩)]) (by simp) (by simp [go_sem]) ?_
    refine (catch_fault _ _ _ _ _ [] _ _ _ _ hV rfl hA hE (by omega) (by omega) (by omega)).mono ?_
    rintro e u' w'' ⟨rfl, rfl, h1, h2, h3, hall⟩
    exact told_mk (p := pZ) Try.results84 rfl rfl rfl h1 h2 h3 (own4_zero _ _) rfl rfl (hb2.trans (hall _ (by omega) (by omega) (by omega)))

theorem ppart_any (A : Option Addr) (c : Nat) (l : List Int) (w : World) (hy : By w.heap.size w A l.length c l) :
    Calls Try.prog 53 #[.slice A l.length c] w fun e w' => Told4p w.heap.size w' (got4 true l) (pat4 (pe4 true l)) (pe4 true l) e ∧ Below w.heap.size w w' := by
  have hV : Has (w.alloc (.cells z4cells 27)) w.heap.size (.cells z4cells 27 (0, 0)) := Has.newAt rfl
  have hB : Below w.heap.size w (w.alloc (.cells z4cells 27)) := (Below.refl _ _).alloc (Nat.le_refl _) _
  have hc := Lib.hid (parse4_any true A c l (w.alloc (.cells z4cells 27)) ((hy.below hB (Nat.le_refl _)).more hB.size))
  go_enter Try.func53, Try.ntmps53
  go_wp2_with fail
  refine hc.out.mono ?_
  rintro e w1 ⟨⟨p, a, s, rfl, h1, h2, h3⟩, hb⟩
  have hV := hV.below hb hV.lt
  have hlt : w.heap.size < (w.alloc (.cells z4cells 27)).heap.size := by simp
  clear hc
  go_wp2_with (refine wpList_store_row rfl 27 (.tmp 2) (.tmp 7) rfl w.heap.size _ rfl rfl 27 _ hV v4_info rfl (by simp [D4.cells, Value.oneCell']) ?_)
  exact bodyPost_ret (res_cell3 Try.results53 rfl (hV.setRow_same.load (P := Try.prog) 27 Try.underlying27 rfl v4_info) rfl rfl) rfl
    ⟨⟨p, a, s, rfl, h1, h2, h3.ok, (h3.opt.setRow hlt).more hB.size, (h3.body.setRow hlt).more hB.size⟩, hB.trans ((hb.mono hB.size).trans below_setRow')⟩
end Go.Proofs.Ytijnifbpbgckgaa
namespace Go.Proofs.Ytijnifbpbgckgaa
open Go.RowKit Go.Shelf

theorem check_x {d : D4} {p : W4} {w : World} (hR : Rd4 w.heap.size w d p) : Calls Try.prog 34 #[.agg (d.cells p)] w fun e w' => ∃ v, e = .returned v ∧ v = .int .i64 d.check ∧ Below w.heap.size w w' := by
  refine (check_any d p w (Nat.le_trans hR.opt.cap hR.opt.big) (Nat.le_trans hR.body.cap hR.body.big)).mono fun e w' h => ?_
  obtain ⟨⟨q, rfl, hq⟩, hb⟩ := h
  exact ⟨_, rfl, by rw [hq.out], hb⟩
theorem routed_x {A : Option Addr} {n c : Nat} {l : List Int} {w : World} (y : By w.heap.size w A n c l) (hs : n ≤ 1048576) :
    Calls Try.prog 36 #[.slice A n c] w fun e w' => ∃ v, e = .returned v ∧ v = .bool (routOf l) ∧ Below w.heap.size w w' := by
  obtain rfl := y.len
  refine (routed_any A c l w y hs).mono fun e w' h => ?_
  exact ⟨_, h.1, rfl, h.2⟩
theorem ppart_x {A : Option Addr} {n c : Nat} {l : List Int} {w : World} (y : By w.heap.size w A n c l) :
    Calls Try.prog 53 #[.slice A n c] w fun e w' => ∃ v, e = .returned v ∧ (∃ p, v = .tuple #[.agg ((got4 true l).cells p), .int .i64 (pat4 (pe4 true l)), .int .i64 (pe4 true l)] ∧ Own4 w' w.heap.size (got4 true l) p) ∧ Below w.heap.size w w' := by
  obtain rfl := y.len
  refine (ppart_any A c l w y).mono fun e w' h => ?_
  obtain ⟨⟨p, a', s', rfl, ha, hs, ho⟩, hb⟩ := h
  exact ⟨_, rfl, ⟨p, by rw [ha.out, hs.out], ho⟩, hb⟩
theorem iparse4_x {A : Option Addr} {n c : Nat} {l : List Int} {w : World} (y : By w.heap.size w A n c l) :
    Calls Try.prog 40 #[.slice A n c] w fun e w' => ∃ v, e = .returned v ∧ (∃ A' c', v = .tuple #[.agg ((parse7 l []).cells A' c'), .int .i64 (perr7 l [])] ∧ (parse7 l []).ok ∧ OwnB w' w.heap.size (.slice A' (parse7 l []).bl.length c') (parse7 l []).bl) ∧ Below w.heap.size w w' := by
  obtain rfl := y.len
  refine (iparse4_any A c l w y).mono fun e w' h => ?_
  obtain ⟨⟨A', c', s', rfl, hs, hk, ho⟩, hb⟩ := h
  exact ⟨_, rfl, ⟨A', c', by rw [hs.out], hk, ho⟩, hb⟩
theorem iwrite6_x {a b : List Int} (ha : a.length = 16) (hb : b.length = 16) (ra : InB a) (rb : InB b) {d : D7} {A : Option Addr} {c : Nat} {w : World} (hR : Rd7 w.heap.size w d A c) :
    Calls Try.prog 41 #[.agg (u8s (l16 a)).toArray, .agg (u8s (l16 b)).toArray, .agg (d.cells A c)] w fun e w' => ∃ v, e = .returned v ∧ (∃ u, v = .tuple #[u, .int .i64 d.err] ∧ OwnB w' w.heap.size u (d.write (pse6 a b (8 + d.bl.length) 58))) ∧ Below w.heap.size w w' := by
  rw [u8s_16 ha, u8s_16 hb]
  refine (iwrite6_any a b ha hb ra rb d A c w hR).mono fun e w' h => ?_
  obtain ⟨u, s', rfl, hs, ho, hB⟩ := h
  exact ⟨_, rfl, ⟨u, by rw [hs.out], ho⟩, hB⟩
theorem check6_x {d : D6} {p : W6} {w : World} (hR : Rd6 w.heap.size w d p) : Calls Try.prog 43 #[.agg (d.cells p)] w fun e w' => ∃ v, e = .returned v ∧ v = .int .i64 d.check ∧ Below w.heap.size w w' := by
  refine (check6_any d p w hR).mono fun e w' h => ?_
  obtain ⟨⟨q, rfl, hq⟩, hb⟩ := h
  exact ⟨_, rfl, by rw [hq.out], hb⟩
theorem write6_x {d : D6} {p : W6} {w : World} (hR : Rd6 w.heap.size w d p) :
    Calls Try.prog 54 #[.agg (d.cells p)] w fun e w' => ∃ v, e = .returned v ∧ (∃ u, v = .tuple #[u, .int .i64 d.check] ∧ OwnB w' w.heap.size u d.write) ∧ Below w.heap.size w w' := by
  refine (write6_any d p w hR).mono fun e w' h => ?_
  obtain ⟨u, s', rfl, hs, ho, hB⟩ := h
  exact ⟨_, rfl, ⟨u, by rw [hs.out], ho⟩, hB⟩
end Go.Proofs.Ytijnifbpbgckgaa
