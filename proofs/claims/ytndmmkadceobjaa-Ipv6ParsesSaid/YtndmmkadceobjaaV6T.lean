/-
  The deferred closure of ipv6.read: the fault of a reader is caught.
-/
import Derived.Test.YtndmmkadceobjaaV6S
import Derived.Recover
namespace Go.Proofs.Ytndmmkadceobjaa
open Go.RowKit Go.Shelf

def z6cells : Array Value := #[.int .u8 0, .int .u32 0, .int .u8 0, .int .u8 0, .int .u8 0, .int .u8 0, .int .u8 0, .int .u8 0, .int .u8 0, .int .u8 0, .int .u8 0, .int .u8 0, .int .u8 0, .int .u8 0, .int .u8 0, .int .u8 0, .int .u8 0, .int .u8 0, .int .u8 0, .int .u8 0, .int .u8 0, .int .u8 0, .int .u8 0, .int .u8 0, .int .u8 0, .int .u8 0, .int .u8 0, .int .u8 0, .int .u8 0, .int .u8 0, .int .u8 0, .int .u8 0, .int .u8 0, .int .u8 0, .int .u8 0, .slice none 0 0, .bool false, .int .u32 0, .int .i64 0, .bool false, .int .u8 0, .slice none 0 0]
theorem any_iface6 : Try.prog.underlying 20 = some (.interface (Try.prog.methodsAt 20)) := by kernel_rfl
theorem eql_nil6 (w : World) : (binOp .eql 20 .nilIface .nilIface).run Try.prog w = .ok (.bool true) w := run_eql_nil_nil w _ any_iface6
theorem eql_fault6 (v : Value) (w : World) : (binOp .eql 20 (.iface 65 v) .nilIface).run Try.prog w = .ok (.bool false) w := run_eql_held_nil w _ _ _ any_iface6
theorem assert_fault6 (v : Value) (w : World) : (Instr.typeAssert (.iface 65 v) 20 65 true).run Try.prog w = .ok (.tuple #[v, .bool true]) w := by
  unfold Instr.typeAssert
  simp [run_underlying Try.underlying65]

theorem catch6_idle (g1 g2 g3 : Nat) (w : World) :
    CallsD Try.prog 36 #[.pointer (some ⟨g1, 0, none⟩), .pointer (some ⟨g2, 0, none⟩), .pointer (some ⟨g3, 0, none⟩)] .returning w fun e u' w' => e = .returned (.tuple #[]) ∧ u' = .returning ∧ w' = w := by
  have hn0 := eql_nil6
  refine callsD_of_wpS Try.func36 rfl fun c₀ cs hu => ?_
  apply wpS_seq
  apply wpS_region
  simp [wpOpsS, go_sem, recoverD, hu, Try.ntmps36, Exit.thenS]
  refine wpS_of_wp ?_
  rw [show (#[Value.pointer (some ⟨g1, 0, none⟩), .pointer (some ⟨g2, 0, none⟩), .pointer (some ⟨g3, 0, none⟩)] ++ ((Array.replicate 19 undef).setIfInBounds 3 .nilIface).setIfInBounds 0 .nilIface) = #[.pointer (some ⟨g1, 0, none⟩), .pointer (some ⟨g2, 0, none⟩), .pointer (some ⟨g3, 0, none⟩), .nilIface, undef, undef, .nilIface, undef, undef, undef, undef, undef, undef, undef, undef, undef, undef, undef, undef, undef, undef, undef] from by apply Array.ext'; simp [List.replicate]]
  refine (?_ : ∀ Q : Exit → Act → World → Prop, Q = _ → Code.wp _ _ Q _ _) _ rfl
  intro Q hQ
  have hQ := Lib.hid hQ
  go_wp2
  subst hQ
  cases c₀
  simp_all [bodyPostS, results, Try.results36]


theorem catch6_fault (g1 g2 g3 : Nat) (p s : Int) (older : List PanicEntry) (w : World) (o1 : Array Value) (a0 e0 : Int) (h1 : Has w g1 (.cells o1 28 (0, 0))) (hs : o1.size = 42) (h2 : Has w g2 (.cells #[.int .i64 a0] 3 (0, 0))) (h3 : Has w g3 (.cells #[.int .i64 e0] 29 (0, 0))) (h12 : g2 ≠ g1) (h13 : g3 ≠ g1) (h23 : g3 ≠ g2) :
    CallsD Try.prog 36 #[.pointer (some ⟨g1, 0, none⟩), .pointer (some ⟨g2, 0, none⟩), .pointer (some ⟨g3, 0, none⟩)] (.panicking ({ v := .iface 65 (.agg #[.int .i64 p, .int .i64 s]), recovered := false } :: older)) w fun e u' w' =>
      e = .returned (.tuple #[]) ∧ u' = .panicking ({ v := .iface 65 (.agg #[.int .i64 p, .int .i64 s]), recovered := true } :: older) ∧
      Has w' g1 (.cells z6cells 28 (0, 0)) ∧ Has w' g2 (.cells #[.int .i64 p] 3 (0, 0)) ∧ Has w' g3 (.cells #[.int .i64 s] 29 (0, 0)) ∧ ∀ B, B ≤ g1 → B ≤ g2 → B ≤ g3 → Below B w w' := by
  have hn0 := eql_fault6 (.agg #[.int .i64 p, .int .i64 s])
  have hn1 := assert_fault6 (.agg #[.int .i64 p, .int .i64 s])
  refine callsD_of_wpS Try.func36 rfl fun c₀ cs hu => ?_
  apply wpS_seq
  apply wpS_region
  simp [wpOpsS, go_sem, recoverD, hu, Try.ntmps36, Exit.thenS]
  refine wpS_of_wp ?_
  rw [show (#[Value.pointer (some ⟨g1, 0, none⟩), .pointer (some ⟨g2, 0, none⟩), .pointer (some ⟨g3, 0, none⟩)] ++ ((Array.replicate 19 undef).setIfInBounds 3 (.iface 65 (.agg #[.int .i64 p, .int .i64 s]))).setIfInBounds 0 (.iface 65 (.agg #[.int .i64 p, .int .i64 s]))) = #[.pointer (some ⟨g1, 0, none⟩), .pointer (some ⟨g2, 0, none⟩), .pointer (some ⟨g3, 0, none⟩), (.iface 65 (.agg #[.int .i64 p, .int .i64 s])), undef, undef, (.iface 65 (.agg #[.int .i64 p, .int .i64 s])), undef, undef, undef, undef, undef, undef, undef, undef, undef, undef, undef, undef, undef, undef, undef] from by apply Array.ext'; simp [List.replicate]]
  refine (?_ : ∀ Q : Exit → Act → World → Prop, Q = _ → Code.wp _ _ Q _ _) _ rfl
  intro Q hQ
  have hQ := Lib.hid hQ
  go_wp2
  have hF : Has (w.alloc (.cells #[.int .i64 p, .int .i64 s] 65)) w.heap.size (.cells #[.int .i64 p, .int .i64 s] 65 (0, 0)) := Has.newAt rfl
  have hb := (Below.refl w.heap.size w).alloc (Nat.le_refl _) (.cells #[.int .i64 p, .int .i64 s] 65)
  have k1 := h1.lt
  have k2 := h2.lt
  have k3 := h3.lt
  have h1 := (h1.below hb k1).drew
  have h2 := (h2.below hb k2).drew
  have h3 := (h3.below hb k3).drew
  rw [hQ.out]
  refine wp_region_held_drew (S := fun w' => Has w' w.heap.size (.cells #[.int .i64 p, .int .i64 s] 65 (0, 0))) (by kernel_rfl) hF.drew (fun hS => ?_)
  have hb : Below w.heap.size w (w.alloc (.cells #[.int .i64 p, .int .i64 s] 65)).drew := hb.trans (below_drew _ _)
  generalize (w.alloc (.cells #[.int .i64 p, .int .i64 s] 65)).drew = w1 at hS h1 h2 h3 hb ⊢
  refine tk (i := 0) (.agg #[.int .u8 0, .int .u32 0, .int .u8 0, .int .u8 0, .int .u8 0, .int .u8 0, .int .u8 0, .int .u8 0, .int .u8 0, .int .u8 0, .int .u8 0, .int .u8 0, .int .u8 0, .int .u8 0, .int .u8 0, .int .u8 0, .int .u8 0, .int .u8 0, .int .u8 0, .int .u8 0, .int .u8 0, .int .u8 0, .int .u8 0, .int .u8 0, .int .u8 0, .int .u8 0, .int .u8 0, .int .u8 0, .int .u8 0, .int .u8 0, .int .u8 0, .int .u8 0, .int .u8 0, .int .u8 0, .int .u8 0, .slice none 0 0, .bool false, .int .u32 0, .int .i64 0, .bool false, .int .u8 0, .slice none 0 0]) hS rfl (by kernel_rfl) (by kernel_rfl) (by kernel_rfl) (fun _ _ _ h => h) (by kernel_rfl) (by intro _ _; go_simp) ?_
  simp only [Act.put, List.setIfInBounds_toArray, List.set_cons_zero, List.set_cons_succ]
  refine tk (i := 1) (.pointer (some ⟨w.heap.size, 0, none⟩)) hS rfl (by kernel_rfl) (by kernel_rfl) (by kernel_rfl) (fun _ _ _ h => h) (by kernel_rfl) (by intro _ _; exact ex_field 0 0 (by exact rfl) Try.underlying65 (by exact rfl) rfl (by kernel_rfl) (by exact rfl)) ?_
  simp only [Act.put, List.setIfInBounds_toArray, List.set_cons_zero, List.set_cons_succ]
  refine tk (i := 2) (.int .i64 p) hS rfl (by kernel_rfl) (by kernel_rfl) (by kernel_rfl) (fun _ _ _ h => h) (by kernel_rfl) (by intro _ h; exact ex_cell (by exact rfl) Try.underlying3 rfl (by exact rfl) (Has.cell h 0 rfl)) ?_
  simp only [Act.put, List.setIfInBounds_toArray, List.set_cons_zero, List.set_cons_succ]
  refine tk (i := 3) (.pointer (some ⟨w.heap.size, 1, none⟩)) hS rfl (by kernel_rfl) (by kernel_rfl) (by kernel_rfl) (fun _ _ _ h => h) (by kernel_rfl) (by intro _ _; exact ex_field 1 0 (by exact rfl) Try.underlying65 (by exact rfl) rfl (by kernel_rfl) (by exact rfl)) ?_
  simp only [Act.put, List.setIfInBounds_toArray, List.set_cons_zero, List.set_cons_succ]
  refine tk (i := 4) (.int .i64 s) hS rfl (by kernel_rfl) (by kernel_rfl) (by kernel_rfl) (fun _ _ _ h => h) (by kernel_rfl) (by intro _ h; exact ex_cell (by exact rfl) Try.underlying29 rfl (by exact rfl) (Has.cell h 1 rfl)) ?_
  simp only [Act.put, List.setIfInBounds_toArray, List.set_cons_zero, List.set_cons_succ]
  have n1 : w.heap.size ≠ g1 := by omega
  have n2 : w.heap.size ≠ g2 := by omega
  have n3 : w.heap.size ≠ g3 := by omega
  have hS5 := hS.setRow_other (cs' := #[.int .u8 0, .int .u32 0, .int .u8 0, .int .u8 0, .int .u8 0, .int .u8 0, .int .u8 0, .int .u8 0, .int .u8 0, .int .u8 0, .int .u8 0, .int .u8 0, .int .u8 0, .int .u8 0, .int .u8 0, .int .u8 0, .int .u8 0, .int .u8 0, .int .u8 0, .int .u8 0, .int .u8 0, .int .u8 0, .int .u8 0, .int .u8 0, .int .u8 0, .int .u8 0, .int .u8 0, .int .u8 0, .int .u8 0, .int .u8 0, .int .u8 0, .int .u8 0, .int .u8 0, .int .u8 0, .int .u8 0, .slice none 0 0, .bool false, .int .u32 0, .int .i64 0, .bool false, .int .u8 0, .slice none 0 0]) n1
  have hS6 := hS5.setCell_other n2 0 (.int .i64 p)
  have hS7 := hS6.setCell_other n3 0 (.int .i64 s)
  refine tk_store (i := 5) (by kernel_rfl) rfl (by kernel_rfl) rfl rfl rfl h1 v6_info hs (by simp [Value.oneCell']) hS5 ?_
  simp only [Act.put]
  have h2 := h2.setRow_other (cs' := #[.int .u8 0, .int .u32 0, .int .u8 0, .int .u8 0, .int .u8 0, .int .u8 0, .int .u8 0, .int .u8 0, .int .u8 0, .int .u8 0, .int .u8 0, .int .u8 0, .int .u8 0, .int .u8 0, .int .u8 0, .int .u8 0, .int .u8 0, .int .u8 0, .int .u8 0, .int .u8 0, .int .u8 0, .int .u8 0, .int .u8 0, .int .u8 0, .int .u8 0, .int .u8 0, .int .u8 0, .int .u8 0, .int .u8 0, .int .u8 0, .int .u8 0, .int .u8 0, .int .u8 0, .int .u8 0, .int .u8 0, .slice none 0 0, .bool false, .int .u32 0, .int .i64 0, .bool false, .int .u8 0, .slice none 0 0]) h12
  have h3 := h3.setRow_other (cs' := #[.int .u8 0, .int .u32 0, .int .u8 0, .int .u8 0, .int .u8 0, .int .u8 0, .int .u8 0, .int .u8 0, .int .u8 0, .int .u8 0, .int .u8 0, .int .u8 0, .int .u8 0, .int .u8 0, .int .u8 0, .int .u8 0, .int .u8 0, .int .u8 0, .int .u8 0, .int .u8 0, .int .u8 0, .int .u8 0, .int .u8 0, .int .u8 0, .int .u8 0, .int .u8 0, .int .u8 0, .int .u8 0, .int .u8 0, .int .u8 0, .int .u8 0, .int .u8 0, .int .u8 0, .int .u8 0, .int .u8 0, .slice none 0 0, .bool false, .int .u32 0, .int .i64 0, .bool false, .int .u8 0, .slice none 0 0]) h13
  have h1 := h1.setRow_same (cs' := #[.int .u8 0, .int .u32 0, .int .u8 0, .int .u8 0, .int .u8 0, .int .u8 0, .int .u8 0, .int .u8 0, .int .u8 0, .int .u8 0, .int .u8 0, .int .u8 0, .int .u8 0, .int .u8 0, .int .u8 0, .int .u8 0, .int .u8 0, .int .u8 0, .int .u8 0, .int .u8 0, .int .u8 0, .int .u8 0, .int .u8 0, .int .u8 0, .int .u8 0, .int .u8 0, .int .u8 0, .int .u8 0, .int .u8 0, .int .u8 0, .int .u8 0, .int .u8 0, .int .u8 0, .int .u8 0, .int .u8 0, .slice none 0 0, .bool false, .int .u32 0, .int .i64 0, .bool false, .int .u8 0, .slice none 0 0])
  refine tk_store1 (i := 6) (v := .int .i64 p) (by kernel_rfl) rfl (by kernel_rfl) rfl rfl rfl rfl (by kernel_rfl) (h2.cell 0 rfl) (h2.free 0) rfl hS6 ?_
  simp only [Act.put]
  have h3 := h3.setCell_other h23 0 (.int .i64 p)
  have h1 := h1.setCell_other (Ne.symm h12) 0 (.int .i64 p)
  have h2 := h2.setCell 0 (.int .i64 p)
  refine tk_store1 (i := 7) (v := .int .i64 s) (by kernel_rfl) rfl (by kernel_rfl) rfl rfl rfl rfl (by kernel_rfl) (h3.cell 0 rfl) (h3.free 0) rfl hS7 ?_
  simp only [Act.put]
  have h1 := h1.setCell_other (Ne.symm h13) 0 (.int .i64 s)
  have h2 := h2.setCell_other (Ne.symm h23) 0 (.int .i64 s)
  have h3 := h3.setCell 0 (.int .i64 s)
  have hall : ∀ B, B ≤ g1 → B ≤ g2 → B ≤ g3 → Below B w (((w1.setRow g1 #[.int .u8 0, .int .u32 0, .int .u8 0, .int .u8 0, .int .u8 0, .int .u8 0, .int .u8 0, .int .u8 0, .int .u8 0, .int .u8 0, .int .u8 0, .int .u8 0, .int .u8 0, .int .u8 0, .int .u8 0, .int .u8 0, .int .u8 0, .int .u8 0, .int .u8 0, .int .u8 0, .int .u8 0, .int .u8 0, .int .u8 0, .int .u8 0, .int .u8 0, .int .u8 0, .int .u8 0, .int .u8 0, .int .u8 0, .int .u8 0, .int .u8 0, .int .u8 0, .int .u8 0, .int .u8 0, .int .u8 0, .slice none 0 0, .bool false, .int .u32 0, .int .i64 0, .bool false, .int .u8 0, .slice none 0 0]).setCell ⟨g2, 0, none⟩ (.int .i64 p)).setCell ⟨g3, 0, none⟩ (.int .i64 s)) := fun B b1 b2 b3 =>
    below_setCell (below_setCell (below_setRow (hb.mono (by omega)) b1 _) b2 0 _) b3 0 _
  refine wpAnyH_done (by kernel_rfl) ?_ _
  generalize ((w1.setRow g1 #[.int .u8 0, .int .u32 0, .int .u8 0, .int .u8 0, .int .u8 0, .int .u8 0, .int .u8 0, .int .u8 0, .int .u8 0, .int .u8 0, .int .u8 0, .int .u8 0, .int .u8 0, .int .u8 0, .int .u8 0, .int .u8 0, .int .u8 0, .int .u8 0, .int .u8 0, .int .u8 0, .int .u8 0, .int .u8 0, .int .u8 0, .int .u8 0, .int .u8 0, .int .u8 0, .int .u8 0, .int .u8 0, .int .u8 0, .int .u8 0, .int .u8 0, .int .u8 0, .int .u8 0, .int .u8 0, .int .u8 0, .slice none 0 0, .bool false, .int .u32 0, .int .i64 0, .bool false, .int .u8 0, .slice none 0 0]).setCell ⟨g2, 0, none⟩ (.int .i64 p)).setCell ⟨g3, 0, none⟩ (.int .i64 s) = w2 at h1 h2 h3 hall ⊢
  refine ⟨rfl, _, rfl, _, by simp [results, Try.results36], rfl, rfl, h1, h2, h3, hall⟩

end Go.Proofs.Ytndmmkadceobjaa
