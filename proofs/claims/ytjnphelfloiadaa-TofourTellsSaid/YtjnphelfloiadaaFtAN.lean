/-
  Lemmas and walks for the row of TofourTells (part 14 of 37).
-/
import Derived.Test.YtjnphelfloiadaaFtAC
import Derived.Test.YtjnphelfloiadaaFtAI
import Derived.Test.YtjnphelfloiadaaFtAM
import Derived.Recover
set_option linter.unusedVariables false
set_option linter.unusedSimpArgs false
namespace Go.Proofs.Ytjnphelfloiadaa
open Go.RowKit Go.Shelf

def z6cells : Array Value := #[.int .u8 0, .int .u32 0, .int .u8 0, .int .u8 0, .int .u8 0, .int .u8 0, .int .u8 0, .int .u8 0, .int .u8 0, .int .u8 0, .int .u8 0, .int .u8 0, .int .u8 0, .int .u8 0, .int .u8 0, .int .u8 0, .int .u8 0, .int .u8 0, .int .u8 0, .int .u8 0, .int .u8 0, .int .u8 0, .int .u8 0, .int .u8 0, .int .u8 0, .int .u8 0, .int .u8 0, .int .u8 0, .int .u8 0, .int .u8 0, .int .u8 0, .int .u8 0, .int .u8 0, .int .u8 0, .int .u8 0, .slice none 0 0, .bool false, .int .u32 0, .int .i64 0, .bool false, .int .u8 0, .slice none 0 0]
theorem any_iface6 : Try.prog.underlying 20 = some (.interface (Try.prog.methodsAt 20)) := by kernel_rfl
theorem eql_nil6 (w : World) : (binOp .eql 20 .nilIface .nilIface).run Try.prog w = .ok (.bool true) w := run_eql_nil_nil w _ any_iface6
theorem eql_fault6 (v : Value) (w : World) : (binOp .eql 20 (.iface 141 v) .nilIface).run Try.prog w = .ok (.bool false) w := run_eql_held_nil w _ _ _ any_iface6
theorem assert_fault6 (v : Value) (w : World) : (Instr.typeAssert (.iface 141 v) 20 141 true).run Try.prog w = .ok (.tuple #[v, .bool true]) w := by
 unfold Instr.typeAssert
 simp [run_underlying Try.underlying141]

theorem catch6_idle (g1 g2 g3 : Nat) (w : World) :
  CallsD Try.prog 100 #[.pointer (some ⟨g1, 0, none⟩), .pointer (some ⟨g2, 0, none⟩), .pointer (some ⟨g3, 0, none⟩)] .returning w fun e u' w' => e = .returned (.tuple #[]) ∧ u' = .returning ∧ w' = w := by
 have hn0 := eql_nil6
 refine callsD_of_wpS Try.func100 rfl fun c₀ cs hu => ?_
 apply wpS_seq
 apply wpS_region
 simp [wpOpsS, go_sem, recoverD, hu, Try.ntmps100, Exit.thenS]
 refine wpS_of_wp ?_
 rw [show (#[Value.pointer (some ⟨g1, 0, none⟩), .pointer (some ⟨g2, 0, none⟩), .pointer (some ⟨g3, 0, none⟩)] ++ ((Array.replicate 19 undef).setIfInBounds 3 .nilIface).setIfInBounds 0 .nilIface) = #[.pointer (some ⟨g1, 0, none⟩), .pointer (some ⟨g2, 0, none⟩), .pointer (some ⟨g3, 0, none⟩), .nilIface, undef, undef, .nilIface, undef, undef, undef, undef, undef, undef, undef, undef, undef, undef, undef, undef, undef, undef, undef] from by apply Array.ext'; simp [List.replicate]]
 refine (?_ : ∀ Q : Exit → Act → World → Prop, Q = _ → Code.wp _ _ Q _ _) _ rfl
 intro Q hQ
 have hQ := Lib.hid hQ
 go_wp2
 subst hQ
 cases c₀
 simp_all [bodyPostS, results, Try.results100]


theorem catch6_fault (g1 g2 g3 : Nat) (p s : Int) (older : List PanicEntry) (w : World) (o1 : Array Value) (a0 e0 : Int) (h1 : Has w g1 (.cells o1 28 (0, 0))) (hs : o1.size = 42) (h2 : Has w g2 (.cells #[.int .i64 a0] 3 (0, 0))) (h3 : Has w g3 (.cells #[.int .i64 e0] 36 (0, 0))) (h12 : g2 ≠ g1) (h13 : g3 ≠ g1) (h23 : g3 ≠ g2) :
  CallsD Try.prog 100 #[.pointer (some ⟨g1, 0, none⟩), .pointer (some ⟨g2, 0, none⟩), .pointer (some ⟨g3, 0, none⟩)] (.panicking ({ v := .iface 141 (.agg #[.int .i64 p, .int .i64 s]), recovered := false } :: older)) w fun e u' w' =>
   e = .returned (.tuple #[]) ∧ u' = .panicking ({ v := .iface 141 (.agg #[.int .i64 p, .int .i64 s]), recovered := true } :: older) ∧
   Has w' g1 (.cells z6cells 28 (0, 0)) ∧ Has w' g2 (.cells #[.int .i64 p] 3 (0, 0)) ∧ Has w' g3 (.cells #[.int .i64 s] 36 (0, 0)) ∧ ∀ B, B ≤ g1 → B ≤ g2 → B ≤ g3 → Below B w w' := by
 have hn0 := eql_fault6 (.agg #[.int .i64 p, .int .i64 s])
 have hn1 := assert_fault6 (.agg #[.int .i64 p, .int .i64 s])
 refine callsD_of_wpS Try.func100 rfl fun c₀ cs hu => ?_
 apply wpS_seq
 apply wpS_region
 simp [wpOpsS, go_sem, recoverD, hu, Try.ntmps100, Exit.thenS]
 refine wpS_of_wp ?_
 rw [show (#[Value.pointer (some ⟨g1, 0, none⟩), .pointer (some ⟨g2, 0, none⟩), .pointer (some ⟨g3, 0, none⟩)] ++ ((Array.replicate 19 undef).setIfInBounds 3 (.iface 141 (.agg #[.int .i64 p, .int .i64 s]))).setIfInBounds 0 (.iface 141 (.agg #[.int .i64 p, .int .i64 s]))) = #[.pointer (some ⟨g1, 0, none⟩), .pointer (some ⟨g2, 0, none⟩), .pointer (some ⟨g3, 0, none⟩), (.iface 141 (.agg #[.int .i64 p, .int .i64 s])), undef, undef, (.iface 141 (.agg #[.int .i64 p, .int .i64 s])), undef, undef, undef, undef, undef, undef, undef, undef, undef, undef, undef, undef, undef, undef, undef] from by apply Array.ext'; simp [List.replicate]]
 refine (?_ : ∀ Q : Exit → Act → World → Prop, Q = _ → Code.wp _ _ Q _ _) _ rfl
 intro Q hQ
 have hQ := Lib.hid hQ
 go_wp2
 have hF : Has (w.alloc (.cells #[.int .i64 p, .int .i64 s] 141)) w.heap.size (.cells #[.int .i64 p, .int .i64 s] 141 (0, 0)) := Has.newAt rfl
 have hb := (Below.refl w.heap.size w).alloc (Nat.le_refl _) (.cells #[.int .i64 p, .int .i64 s] 141)
 have k1 := h1.lt
 have k2 := h2.lt
 have k3 := h3.lt
 have h1 := (h1.below hb k1).drew
 have h2 := (h2.below hb k2).drew
 have h3 := (h3.below hb k3).drew
 rw [hQ.out]
 refine wp_region_held_drew (S := fun w' => Has w' w.heap.size (.cells #[.int .i64 p, .int .i64 s] 141 (0, 0))) (by kernel_rfl) hF.drew (fun hS => ?_)
 have hb : Below w.heap.size w (w.alloc (.cells #[.int .i64 p, .int .i64 s] 141)).drew := hb.trans (below_drew _ _)
 generalize (w.alloc (.cells #[.int .i64 p, .int .i64 s] 141)).drew = w1 at hS h1 h2 h3 hb ⊢
 refine te 0 (.agg #[.int .u8 0, .int .u32 0, .int .u8 0, .int .u8 0, .int .u8 0, .int .u8 0, .int .u8 0, .int .u8 0, .int .u8 0, .int .u8 0, .int .u8 0, .int .u8 0, .int .u8 0, .int .u8 0, .int .u8 0, .int .u8 0, .int .u8 0, .int .u8 0, .int .u8 0, .int .u8 0, .int .u8 0, .int .u8 0, .int .u8 0, .int .u8 0, .int .u8 0, .int .u8 0, .int .u8 0, .int .u8 0, .int .u8 0, .int .u8 0, .int .u8 0, .int .u8 0, .int .u8 0, .int .u8 0, .int .u8 0, .slice none 0 0, .bool false, .int .u32 0, .int .i64 0, .bool false, .int .u8 0, .slice none 0 0]) hS rfl (by intro _ _; go_simp) ?_
 simp only [lay]
 refine te 1 (.pointer (some ⟨w.heap.size, 0, none⟩)) hS rfl (by intro _ _; exact ex_field 0 0 (by exact rfl) Try.underlying141 (by exact rfl) rfl (by kernel_rfl) (by exact rfl)) ?_
 simp only [lay]
 refine te 2 (.int .i64 p) hS rfl (by intro _ h; exact ex_cell (by exact rfl) Try.underlying3 rfl (by exact rfl) (Has.cell h 0 rfl)) ?_
 simp only [lay]
 refine te 3 (.pointer (some ⟨w.heap.size, 1, none⟩)) hS rfl (by intro _ _; exact ex_field 1 0 (by exact rfl) Try.underlying141 (by exact rfl) rfl (by kernel_rfl) (by exact rfl)) ?_
 simp only [lay]
 refine te 4 (.int .i64 s) hS rfl (by intro _ h; exact ex_cell (by exact rfl) Try.underlying36 rfl (by exact rfl) (Has.cell h 1 rfl)) ?_
 simp only [lay]
 have n1 : w.heap.size ≠ g1 := by omega
 have n2 : w.heap.size ≠ g2 := by omega
 have n3 : w.heap.size ≠ g3 := by omega
 have hS5 := hS.setRow_other (cs' := #[.int .u8 0, .int .u32 0, .int .u8 0, .int .u8 0, .int .u8 0, .int .u8 0, .int .u8 0, .int .u8 0, .int .u8 0, .int .u8 0, .int .u8 0, .int .u8 0, .int .u8 0, .int .u8 0, .int .u8 0, .int .u8 0, .int .u8 0, .int .u8 0, .int .u8 0, .int .u8 0, .int .u8 0, .int .u8 0, .int .u8 0, .int .u8 0, .int .u8 0, .int .u8 0, .int .u8 0, .int .u8 0, .int .u8 0, .int .u8 0, .int .u8 0, .int .u8 0, .int .u8 0, .int .u8 0, .int .u8 0, .slice none 0 0, .bool false, .int .u32 0, .int .i64 0, .bool false, .int .u8 0, .slice none 0 0]) n1
 have hS6 := hS5.setCell_other n2 0 (.int .i64 p)
 have hS7 := hS6.setCell_other n3 0 (.int .i64 s)
 refine tk_store (i := 5) (by kernel_rfl) rfl (by kernel_rfl) rfl rfl rfl h1 v6_info hs (by simp [Value.oneCell']) hS5 ?_
 simp only [lay]
 have h2 := h2.setRow_other (cs' := #[.int .u8 0, .int .u32 0, .int .u8 0, .int .u8 0, .int .u8 0, .int .u8 0, .int .u8 0, .int .u8 0, .int .u8 0, .int .u8 0, .int .u8 0, .int .u8 0, .int .u8 0, .int .u8 0, .int .u8 0, .int .u8 0, .int .u8 0, .int .u8 0, .int .u8 0, .int .u8 0, .int .u8 0, .int .u8 0, .int .u8 0, .int .u8 0, .int .u8 0, .int .u8 0, .int .u8 0, .int .u8 0, .int .u8 0, .int .u8 0, .int .u8 0, .int .u8 0, .int .u8 0, .int .u8 0, .int .u8 0, .slice none 0 0, .bool false, .int .u32 0, .int .i64 0, .bool false, .int .u8 0, .slice none 0 0]) h12
 have h3 := h3.setRow_other (cs' := #[.int .u8 0, .int .u32 0, .int .u8 0, .int .u8 0, .int .u8 0, .int .u8 0, .int .u8 0, .int .u8 0, .int .u8 0, .int .u8 0, .int .u8 0, .int .u8 0, .int .u8 0, .int .u8 0, .int .u8 0, .int .u8 0, .int .u8 0, .int .u8 0, .int .u8 0, .int .u8 0, .int .u8 0, .int .u8 0, .int .u8 0, .int .u8 0, .int .u8 0, .int .u8 0, .int .u8 0, .int .u8 0, .int .u8 0, .int .u8 0, .int .u8 0, .int .u8 0, .int .u8 0, .int .u8 0, .int .u8 0, .slice none 0 0, .bool false, .int .u32 0, .int .i64 0, .bool false, .int .u8 0, .slice none 0 0]) h13
 have h1 := h1.setRow_same (cs' := #[.int .u8 0, .int .u32 0, .int .u8 0, .int .u8 0, .int .u8 0, .int .u8 0, .int .u8 0, .int .u8 0, .int .u8 0, .int .u8 0, .int .u8 0, .int .u8 0, .int .u8 0, .int .u8 0, .int .u8 0, .int .u8 0, .int .u8 0, .int .u8 0, .int .u8 0, .int .u8 0, .int .u8 0, .int .u8 0, .int .u8 0, .int .u8 0, .int .u8 0, .int .u8 0, .int .u8 0, .int .u8 0, .int .u8 0, .int .u8 0, .int .u8 0, .int .u8 0, .int .u8 0, .int .u8 0, .int .u8 0, .slice none 0 0, .bool false, .int .u32 0, .int .i64 0, .bool false, .int .u8 0, .slice none 0 0])
 refine tk_store1 (i := 6) (v := .int .i64 p) (by kernel_rfl) rfl (by kernel_rfl) rfl rfl rfl rfl (by kernel_rfl) (h2.cell 0 rfl) (h2.free 0) rfl hS6 ?_
 simp only [lay]
 have h3 := h3.setCell_other h23 0 (.int .i64 p)
 have h1 := h1.setCell_other (Ne.symm h12) 0 (.int .i64 p)
 have h2 := h2.setCell 0 (.int .i64 p)
 refine tk_store1 (i := 7) (v := .int .i64 s) (by kernel_rfl) rfl (by kernel_rfl) rfl rfl rfl rfl (by kernel_rfl) (h3.cell 0 rfl) (h3.free 0) rfl hS7 ?_
 simp only [lay]
 have h1 := h1.setCell_other (Ne.symm h13) 0 (.int .i64 s)
 have h2 := h2.setCell_other (Ne.symm h23) 0 (.int .i64 s)
 have h3 := h3.setCell 0 (.int .i64 s)
 have hall : ∀ B, B ≤ g1 → B ≤ g2 → B ≤ g3 → Below B w (((w1.setRow g1 #[.int .u8 0, .int .u32 0, .int .u8 0, .int .u8 0, .int .u8 0, .int .u8 0, .int .u8 0, .int .u8 0, .int .u8 0, .int .u8 0, .int .u8 0, .int .u8 0, .int .u8 0, .int .u8 0, .int .u8 0, .int .u8 0, .int .u8 0, .int .u8 0, .int .u8 0, .int .u8 0, .int .u8 0, .int .u8 0, .int .u8 0, .int .u8 0, .int .u8 0, .int .u8 0, .int .u8 0, .int .u8 0, .int .u8 0, .int .u8 0, .int .u8 0, .int .u8 0, .int .u8 0, .int .u8 0, .int .u8 0, .slice none 0 0, .bool false, .int .u32 0, .int .i64 0, .bool false, .int .u8 0, .slice none 0 0]).setCell ⟨g2, 0, none⟩ (.int .i64 p)).setCell ⟨g3, 0, none⟩ (.int .i64 s)) := fun B b1 b2 b3 =>
  below_setCell (below_setCell (below_setRow (hb.mono (by omega)) b1 _) b2 0 _) b3 0 _
 refine wpAnyH_done (by kernel_rfl) ?_ _
 generalize ((w1.setRow g1 #[.int .u8 0, .int .u32 0, .int .u8 0, .int .u8 0, .int .u8 0, .int .u8 0, .int .u8 0, .int .u8 0, .int .u8 0, .int .u8 0, .int .u8 0, .int .u8 0, .int .u8 0, .int .u8 0, .int .u8 0, .int .u8 0, .int .u8 0, .int .u8 0, .int .u8 0, .int .u8 0, .int .u8 0, .int .u8 0, .int .u8 0, .int .u8 0, .int .u8 0, .int .u8 0, .int .u8 0, .int .u8 0, .int .u8 0, .int .u8 0, .int .u8 0, .int .u8 0, .int .u8 0, .int .u8 0, .int .u8 0, .slice none 0 0, .bool false, .int .u32 0, .int .i64 0, .bool false, .int .u8 0, .slice none 0 0]).setCell ⟨g2, 0, none⟩ (.int .i64 p)).setCell ⟨g3, 0, none⟩ (.int .i64 s) = w2 at h1 h2 h3 hall ⊢
 refine ⟨rfl, _, rfl, _, by simp [results, Try.results100], rfl, rfl, h1, h2, h3, hall⟩

end Go.Proofs.Ytjnphelfloiadaa
namespace Go.Proofs.Ytjnphelfloiadaa
open Go.RowKit Go.Shelf

def pZ6 : W6 := ⟨none, 0, [], none, 0⟩
/-- a datagram whose heads and bytes lie in memory of the call's own -/
structure Own6 (w : World) (base : Nat) (D : D6) (p : W6) : Prop where
 ok : D.ok
 own : OwnK w base 108 (.slice p.hA D.hs.length p.hc) p.ps
 hl : kdL p.ps = D.hs
 body : OwnB w base (.slice p.bA D.bl.length p.bc) D.bl
theorem own6_zero (w : World) (base : Nat) : Own6 w base zero6 pZ6 := ⟨zero6_ok, OwnK.nil _ _ _, rfl, OwnB.nil _ _⟩
theorem own_by6 {w : World} {base n : Nat} {A : Option Addr} {c : Nat} {l : List Int} (h : OwnB w base (.slice A n c) l) : By w.heap.size w A n c l := by
 obtain ⟨A', c', e, y⟩ := h.by_
 injection e with e1 e2 e3
 subst e1 e2 e3
 exact y
theorem Own6.rd {w : World} {base : Nat} {D : D6} {p : W6} (h : Own6 w base D p) : Rd6 w.heap.size w D p := by
 refine ⟨h.ok, h.hl, ?_, own_by6 h.body⟩
 obtain ⟨A, c, e, K⟩ := h.own.kds
 have hn : p.ps.length = D.hs.length := by rw [← h.hl, kdL_len]
 injection e with e1 e2 e3
 rw [hn] at K
 rw [e1, e3]
 exact K
/-- a datagram that is told, with a place and an error's number; its bytes are the call's own -/
def Told6 (base : Nat) (w' : World) (D : D6) (at_ s : Int) (e : Ending) : Prop := ∃ p a' s', e = .returned (.tuple #[.agg (D.cells p), .int .i64 a', .int .i64 s']) ∧ Hid (a' = at_) ∧ Hid (s' = s) ∧ Own6 w' base D p
section
variable {P : Program}
theorem load_cell6 {ty : TypeId} {b k : Nat} {v : Value} {w : World} {d : TypeDesc} (hu : P.underlying ty = some d) (hd : d.isRow = false) (h : w.cell? ⟨b, k, none⟩ = some v) : (loadVar ty ⟨b, k, none⟩).run P w = .ok v w := by
 have hagg : (isAgg ty).run P w = .ok false w := by
  unfold isAgg
  rw [Sem.run_bind, run_underlying hu w]
  cases d <;> simp_all [TypeDesc.isRow]
 simp [loadVar, Sem.run_bind, hagg, h]
theorem res_ccc6 {fn : Func} {tmps : Array Value} {a b c : Nat} {ta tb tc : TypeId} {ga gb gc : Nat} {u v x : Value} {w : World} (hr : fn.results = #[.cell a ta, .cell b tb, .cell c tc])
  (ha : tmps.getD a undef = .pointer (some ⟨ga, 0, none⟩)) (hb : tmps.getD b undef = .pointer (some ⟨gb, 0, none⟩)) (hc : tmps.getD c undef = .pointer (some ⟨gc, 0, none⟩))
  (la : (loadVar ta ⟨ga, 0, none⟩).run P w = .ok u w) (lb : (loadVar tb ⟨gb, 0, none⟩).run P w = .ok v w) (lc : (loadVar tc ⟨gc, 0, none⟩).run P w = .ok x w) :
  (results fn tmps).run P w = .ok (.tuple #[u, v, x]) w := by
 rw [Array.getD_eq_getD_getElem?] at ha hb hc
 simp [results, hr, ha, hb, hc, asAddr, la, lb, lc]
end
theorem told6_mk {fn : Func} {tmps : Array Value} {w w' : World} {gV gA gE : Nat} {D : D6} {p : W6} {a s a' s' : Int} (hr : fn.results = #[.cell 4 28, .cell 5 3, .cell 6 36])
  (h4 : tmps.getD 4 undef = .pointer (some ⟨gV, 0, none⟩)) (h5 : tmps.getD 5 undef = .pointer (some ⟨gA, 0, none⟩)) (h6 : tmps.getD 6 undef = .pointer (some ⟨gE, 0, none⟩))
  (hV : Has w' gV (.cells (D.cells p) 28 (0, 0))) (hA : Has w' gA (.cells #[.int .i64 a'] 3 (0, 0))) (hE : Has w' gE (.cells #[.int .i64 s'] 36 (0, 0)))
  (ho : Own6 w' w.heap.size D p) (ha : a' = a) (hs : s' = s) (hb : Below w.heap.size w w') :
  Leaves Try.prog fn tmps (fun e w' => Told6 w.heap.size w' D a s e ∧ Below w.heap.size w w') [] .returning w' :=
 ⟨_, res_ccc6 hr h4 h5 h6 (hV.load (P := Try.prog) 28 Try.underlying28 rfl v6_info) (load_cell6 Try.underlying3 rfl (hA.cell 0 rfl)) (load_cell6 Try.underlying36 rfl (hE.cell 0 rfl)),
  ⟨p, a', s', rfl, Lib.hid ha, Lib.hid hs, ho⟩, hb⟩
theorem or8_i64' {a b : Int} (ha : 0 ≤ a ∧ a ≤ 255) (hb : 0 ≤ b ∧ b ≤ 255) : bits .or .i64 (a * 256) b = a * 256 + b := by
 have e1 : a * 256 = ((a * 256).toNat : Int) := by omega
 have e2 : b = (b.toNat : Int) := by omega
 rw [e1, e2, (bits_nat .i64 63 (by decide) (fun n h0 h1 => IntWalk.i64_in n (by omega)) (a * 256).toNat b.toNat (by omega) (by omega)).2, nat_join 8 _ _ (by omega) (by omega)]
 omega
section
variable {P : Program} {md : Region.Mode} {ops : Array Oper} {Q : Exit → Act → World → Prop} {S : World → Prop}
theorem b_shl64 (t : TypeId) {x : Int} (n : Nat) (z : Int) (h : x * 2 ^ n = z) (h0 : 0 ≤ z ∧ z < 9223372036854775808) (hn : n ≤ 64) (w : World) : (binOp .shl t (.int .i64 x) (.int .u64 (n : Int))).run P w = .ok (.int .i64 z) w := by
 subst h
 have h := shift_shl .i64 .u64 x (n : Int) (Int.natCast_nonneg n) (by show (n : Int) ≤ 64; omega)
 rw [binOp_shl, h]
 show Result.ok (Value.int .i64 (IntKind.i64.wrap (x * 2 ^ (n : Int).toNat))) w = _
 rw [Int.toNat_natCast, IntWalk.i64_in _ (by omega)]
theorem b_or64 (t : TypeId) {x y : Int} (z : Int) (h : bits .or .i64 x y = z) (w : World) : (binOp .or t (.int .i64 x) (.int .i64 y)).run P w = .ok (.int .i64 z) w := by subst h; rfl
/-- number i alone is ready: a row of cells stored from some cell of a block of the call's own on -/
theorem tk_storeO {i : Nat} {o : Oper} {ty : TypeId} {x y : Operand} {g off : Nat} {cells cur new : Array Value} {t : TypeId} {fuel : Nat} {listed : Array Bool} {a : Act} {w : World} (hr : Region.ready md ops listed = [i]) (hi : ops.toList[i]? = some o) (hw : Region.wanted o (yielded ops a.tmps) = true)
  (ho : o.op = .store ty x y) (hx : a.eval x = .pointer (some ⟨g, off, none⟩)) (hy : a.eval y = .agg cells) (hg : Has w g (.cells cur t (0, 0))) (hti : (P.info? ty).map (·.size) = some cells.size) (hfit : off + cells.size ≤ cur.size) (h1 : cells.all (·.oneCell') = true)
  (hnew : (cur.toList.take off ++ cells.toList ++ cur.toList.drop (off + cells.size)).toArray = new)
  (hS : S (w.setRow g new)) (h : wpAnyH P md ops Q S fuel (listed.setIfInBounds i true) (a.put o.dst undef) (w.setRow g new)) : wpAnyH P md ops Q S (fuel + 1) listed a w :=
 wpAnyH_all hr (by simp) fun j hj => by
  obtain rfl : j = i := by simpa using hj
  have hi : ops[j]? = some o := by simpa using hi
  unfold wpOp
  rw [hi]
  simp only [hw, if_true]
  left
  have hst := run_storeCells_at P g off t cells.toList 0 cur w hg (by simpa using hfit) (fun v hv => (Array.all_eq_true_iff_forall_mem.1 h1) v (by simpa using hv))
  rw [Nat.add_zero, Array.length_toList, hnew] at hst
  have hsz : (sizeOf ty).run P w = .ok cells.size w := by
   cases hq : P.info? ty with
   | none => simp [hq] at hti
   | some i => simp [hq] at hti; simp [sizeOf, typeInfo, hq, hti]
  have hsv : (storeVar ty ⟨g, off, none⟩ (.agg cells)).run P w = .ok () (w.setRow g new) := by simp [storeVar, hsz, Value.cells, hst]
  unfold Oper.wp execOp
  simp only [ho, hx, hy, Instr.storeAt, Instr.sureAddr, Sem.run_bind, Sem.run_pure, Result.andThen_ok]
  simp only [hsv, Result.andThen_ok, Oper.upon_skip]
  exact ⟨hS, h⟩
theorem exec_copyM {a : Act} {o : Oper} {w : World} (d s : Operand) (dT sT : TypeId) (ho : o.op = .call { callee := .builtin .copy, args := #[d, s], argTypes := #[dT, sT] }) {e : TypeId} (hu : P.underlying dT = some (.slice e)) (hsz : (P.info? e).map (·.size) = some 1)
  {g off n m dc : Nat} (hd : a.eval d = .slice (some ⟨g, off, none⟩) n dc) {A : Option Addr} {c : Nat} {l : List Int} (hs : a.eval s = .slice A m c) {B : Nat} (hy : By B w A m c l) (hm : n ≤ m) (hpos : 0 < n) {cur new : Array Value} {t : TypeId} (hg : Has w g (.cells cur t (0, 0)))
  (hfit : off + n ≤ cur.size) (hnew : (cur.toList.take off ++ u8s (l.take n) ++ cur.toList.drop (off + n)).toArray = new) : (execOp a.eval o).run P w = .ok (.value (goInt n)) (w.setRow g new) := by
 have hl := hy.len
 have hln : (u8s (l.take n)).length = n := by rw [u8s_length, List.length_take]; omega
 obtain ⟨b, o2, rfl, _, hc⟩ := hy.row.at_ (by omega)
 have hr := run_copy_row (P := P) w dT sT o.type e g off n dc ⟨b, o2, none⟩ m c cur t (u8s (l.take n)) hu hsz hg (by rw [hln]; exact (Nat.min_eq_right hm).symm) (fun j v hj => by
  rw [Go.WideShapes.add_plain]
  have hj2 : j < n := by have := (List.getElem?_eq_some_iff.1 hj).1; omega
  rw [hc j (by omega)]
  rw [u8s, List.getElem?_map, List.getElem?_take, if_pos hj2, ← List.getElem?_map] at hj
  exact hj) (by rw [hln]; exact hfit) (fun v hv => by obtain ⟨y, _, rfl⟩ := List.mem_map.1 hv; rfl)
 rw [hln, hnew] at hr
 unfold execOp
 simp [ho, resolve, invoke, builtin, hd, hs, hr, Result.andThen]
/-- number i alone is ready: a copy of the first bytes into a block of the call's own -/
theorem tk_copyM {i : Nat} {o : Oper} {fuel : Nat} {listed : Array Bool} {a : Act} {w : World} (d s : Operand) (dT sT : TypeId) (hr : Region.ready md ops listed = [i]) (hi : ops.toList[i]? = some o) (hw : Region.wanted o (yielded ops a.tmps) = true) (ho : o.op = .call { callee := .builtin .copy, args := #[d, s], argTypes := #[dT, sT] }) {e : TypeId} (hu : P.underlying dT = some (.slice e)) (hsz : (P.info? e).map (·.size) = some 1)
  {g off n m dc : Nat} (hd : a.eval d = .slice (some ⟨g, off, none⟩) n dc) {A : Option Addr} {c : Nat} {l : List Int} (hs : a.eval s = .slice A m c) {B : Nat} (hy : By B w A m c l) (hm : n ≤ m) (hpos : 0 < n) {cur new : Array Value} {t : TypeId} (hg : Has w g (.cells cur t (0, 0)))
  (hfit : off + n ≤ cur.size) (hnew : (cur.toList.take off ++ u8s (l.take n) ++ cur.toList.drop (off + n)).toArray = new) (hS : S (w.setRow g new))
  (h : wpAnyH P md ops Q S fuel (listed.setIfInBounds i true) (a.put o.dst (goInt n)) (w.setRow g new)) : wpAnyH P md ops Q S (fuel + 1) listed a w :=
 wpAnyH_all hr (by simp) fun j hj => by
  obtain rfl : j = i := by simpa using hj
  have hi : ops[j]? = some o := by simpa using hi
  unfold wpOp
  rw [hi]
  simp only [hw, if_true]
  left
  unfold Oper.wp
  rw [exec_copyM d s dT sT ho hu hsz hd hs hy hm hpos hg hfit hnew]
  exact ⟨hS, h⟩
end
theorem rc_src (A : Option Addr) (N c : Nat) (k : Int) (D : D6) (p : W6) {S : List Int} (h : S.length = 16) : ((rcells A N c k D p).toList.take 5 ++ u8s S ++ (rcells A N c k D p).toList.drop (5 + 16)).toArray = rcells A N c k { D with src := S } p := by
 obtain ⟨x0, x1, x2, x3, x4, x5, x6, x7, x8, x9, x10, x11, x12, x13, x14, x15, rfl⟩ := len16 h
 rfl
theorem rc_dst (A : Option Addr) (N c : Nat) (k : Int) (D : D6) (p : W6) {S : List Int} (h : S.length = 16) : ((rcells A N c k D p).toList.take 21 ++ u8s S ++ (rcells A N c k D p).toList.drop (21 + 16)).toArray = rcells A N c k { D with dst := S } p := by
 obtain ⟨x0, x1, x2, x3, x4, x5, x6, x7, x8, x9, x10, x11, x12, x13, x14, x15, rfl⟩ := len16 h
 rfl
theorem rc_v (A : Option Addr) (N c : Nat) (k : Int) (D D' : D6) (p p' : W6) : ((rcells A N c k D p).toList.take 2 ++ (D'.cells p').toList ++ (rcells A N c k D p).toList.drop (2 + (D'.cells p').size)).toArray = rcells A N c k D' p' := rfl
theorem rc_load {w : World} {g : Nat} {A : Option Addr} {N c : Nat} {k : Int} {D : D6} {p : W6} (h : Has w g (.cells (rcells A N c k D p) 147 (0, 0))) : (loadVar 28 ⟨g, 2, none⟩).run Try.prog w = .ok (.agg (D.cells p)) w :=
 h.loadAt (P := Try.prog) 2 (D.cells p).toList (fun j v hj => by
  have e : (rcells A N c k D p).toList.drop 2 = (D.cells p).toList := rfl
  rw [← e, List.getElem?_drop, Array.getElem?_toList] at hj
  exact hj) 28 Try.underlying28 rfl v6_info
/-- where a reader is -/
def atOf (w : World) (g : Nat) : Nat := match w.cell? ⟨g, 1, none⟩ with
 | some (.int _ k) => k.toNat
 | _ => 0
theorem RS.atOf {B g : Nat} {W0 w : World} {A : Option Addr} {N c k : Nat} {D : D6} {p : W6} (h : RS B g W0 w A N c k D p) : atOf w g = k := by
 unfold Go.Proofs.Ytjnphelfloiadaa.atOf
 rw [h.has.cell 1 (v := .int .i64 (k : Int)) rfl]
 simp
theorem RS.set {B g j : Nat} {W0 w : World} {A : Option Addr} {N c k : Nat} {D D' : D6} {p p' : W6} {v : Value} (h : RS B g W0 w A N c k D p) (hB : B ≤ g) (e : (rcells A N c (k : Int) D p).setIfInBounds j v = rcells A N c (k : Int) D' p') (h1 : p'.hA = p.hA) (h2 : p'.hc = p.hc) (h3 : p'.ps = p.ps) (h4 : D'.hs = D.hs) : RS B g W0 (w.setCell ⟨g, j, none⟩ v) A N c k D' p' := by
 refine ⟨e ▸ h.has.setCell j v, ?_, by rw [h3, h4]; exact h.hl, below_setCell h.bel hB j v⟩
 rw [h1, h2, h3, h4]
 exact h.own.but6 (But6.setCell g j w v) (Nat.lt_succ_self g)
theorem RS.drew {B g : Nat} {W0 w : World} {A : Option Addr} {N c k : Nat} {D : D6} {p : W6} (h : RS B g W0 w A N c k D p) : RS B g W0 w.drew A N c k D p := ⟨h.has.drew, h.own.below (below_drew _ _), h.hl, h.bel.trans (below_drew _ _)⟩
end Go.Proofs.Ytjnphelfloiadaa
namespace Go.Proofs.Ytjnphelfloiadaa
open Go.RowKit Go.Shelf

theorem leaves_tmps {P : Program} {fn : Func} {t1 t2 : Array Value} {R : Ending → World → Prop} (h : results fn t1 = results fn t2) : ∀ (ds : List Deferred) (u : FrameMode) (w : World), Leaves P fn t1 R ds u w → Leaves P fn t2 R ds u w
 | [], .returning, w, ⟨v, hv, hr⟩ => ⟨v, h ▸ hv, hr⟩
 | [], .panicking c, w, hl => hl
 | [], .run, w, hl => hl.elim
 | d :: ds, u, w, ⟨h0, fv, cap, f, args, h1, h2, hc⟩ => ⟨h0, fv, cap, f, args, h1, h2, hc.mono fun e u' w' he => by
  cases e with
  | returned v => exact leaves_tmps h ds _ _ he
  | panicked c => exact leaves_tmps h ds _ _ he
  | outgrown => exact he⟩
theorem hqp6 {P : Program} {fn : Func} {R : Ending → World → Prop} {ta tb tc : TypeId} (hr : fn.results = #[.cell 4 ta, .cell 5 tb, .cell 6 tc]) (d : Nat) (hd : d ≠ 4 ∧ d ≠ 5 ∧ d ≠ 6) (v : Value) (c : List PanicEntry) (a : Act) (w : World) (h : bodyPostD P fn R (.panic c) (a.put (some d) v) w) : bodyPostD P fn R (.panic c) a w := by
 refine leaves_tmps ?_ a.defers _ w h
 have e4 : (a.tmps.setIfInBounds d v)[4]? = a.tmps[4]? := Array.getElem?_setIfInBounds_ne hd.1
 have e5 : (a.tmps.setIfInBounds d v)[5]? = a.tmps[5]? := Array.getElem?_setIfInBounds_ne hd.2.1
 have e6 : (a.tmps.setIfInBounds d v)[6]? = a.tmps[6]? := Array.getElem?_setIfInBounds_ne hd.2.2
 show results fn (a.tmps.setIfInBounds d v) = results fn a.tmps
 simp [results, hr, e4, e5, e6]
theorem RS.below6 {B g : Nat} {W0 w w' : World} {A : Option Addr} {N c k : Nat} {D : D6} {p : W6} (h : RS B g W0 w A N c k D p) (hB : B ≤ g) (hb : Below w.heap.size w w') : RS B g W0 w' A N c k D p :=
 ⟨h.has.below hb h.has.lt, h.own.below hb, h.hl, h.bel.trans (hb.mono (Nat.le_trans hB (Nat.le_of_lt h.has.lt)))⟩
/-- the blocks above lie as they lay -/
structure But6g (w w' : World) (B : Nat) : Prop where
 size : w'.heap.size = w.heap.size
 has : ∀ j, B ≤ j → w'.heap[j]? = w.heap[j]?
theorem But6g.trans {w w' w'' : World} {B B' : Nat} (h : But6g w w' B) (h' : But6g w' w'' B') : But6g w w'' (max B B') := ⟨h'.size.trans h.size, fun j hj => (h'.has j (by omega)).trans (h.has j (by omega))⟩
theorem But6g.setRow (g : Nat) (w : World) (cs : Array Value) : But6g w (w.setRow g cs) (g + 1) := ⟨by simp [World.setRow], fun j hj => Go.setRow_other w g j cs (by omega)⟩
theorem But6g.setCell (g k : Nat) (w : World) (v : Value) {B : Nat} (hB : g < B) : But6g w (w.setCell ⟨g, k, none⟩ v) B := ⟨by simp [World.setCell], fun j hj => by simp [World.setCell, Array.getElem?_modify]; intro h; omega⟩
theorem But6g.ownB {w w' : World} {B base : Nat} {v : Value} {l : List Int} (hb : But6g w w' B) (h : OwnB w base v l) (hg : B ≤ base) : OwnB w' base v l := by
 refine ⟨⟨h.own.1, ?_⟩, h.rng⟩
 rcases h.own.2 with h0 | ⟨g', cap, cur, h0, hb', hh, rest⟩
 ·exact .inl h0
 ·exact .inr ⟨g', cap, cur, h0, hb', (hb.has g' (by omega)).trans hh, rest⟩
theorem But6g.ownK {w w' : World} {B base : Nat} {e : TypeId} {v : Value} {ps : List Kd} (hb : But6g w w' B) (h : OwnK w base e v ps) (hg : B ≤ base) : OwnK w' base e v ps := by
 refine ⟨⟨h.own.1, ?_⟩, fun p hp => ⟨(h.each p hp).1, (h.each p hp).2.1, hb.ownB (h.each p hp).2.2.1 hg, (h.each p hp).2.2.2⟩⟩
 rcases h.own.2 with h0 | ⟨g', cap, cur, h0, hb', hh, rest⟩
 ·exact .inl h0
 ·exact .inr ⟨g', cap, cur, h0, hb', (hb.has g' (by omega)).trans hh, rest⟩

end Go.Proofs.Ytjnphelfloiadaa
