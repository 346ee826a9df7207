/-
  Lemmas and walks for the row of TosixLong (part 20 of 37).
-/
import Derived.Test.YtijnifbpbgckgaaTlAS
import Derived.Recover
set_option linter.unusedVariables false
set_option linter.unusedSimpArgs false
namespace Go.Proofs.Ytijnifbpbgckgaa
open Go.RowKit Go.Shelf

theorem any_iface17 : Try.prog.underlying 20 = some (.interface (Try.prog.methodsAt 20)) := by kernel_rfl
theorem eql_nil17 (w : World) : (binOp .eql 20 .nilIface .nilIface).run Try.prog w = .ok (.bool true) w := run_eql_nil_nil w _ any_iface17
theorem eql_fault17 (v : Value) (w : World) : (binOp .eql 20 (.iface 111 v) .nilIface).run Try.prog w = .ok (.bool false) w := run_eql_held_nil w _ _ _ any_iface17
theorem assert_fault17 (v : Value) (w : World) : (Instr.typeAssert (.iface 111 v) 20 111 true).run Try.prog w = .ok (.tuple #[v, .bool true]) w := by
  unfold Instr.typeAssert
  simp [run_underlying Try.underlying111]

theorem caught17_idle (g : Nat) (w : World) :
    CallsD Try.prog 32 #[.pointer (some ⟨g, 0, none⟩)] .returning w fun e u' w' => e = .returned (.tuple #[]) ∧ u' = .returning ∧ w' = w := by
  have hn0 := eql_nil17
  refine callsD_of_wpS Try.func32 rfl fun c₀ cs hu => ?_
  apply wpS_seq
  apply wpS_region
  simp [wpOpsS, go_sem, recoverD, hu, Try.ntmps32, Exit.thenS]
  refine wpS_of_wp ?_
  rw [show (#[Value.pointer (some ⟨g, 0, none⟩)] ++ ((Array.replicate 19 undef).setIfInBounds 4 .nilIface).setIfInBounds 1 .nilIface) = #[.pointer (some ⟨g, 0, none⟩), undef, .nilIface, undef, undef, .nilIface, undef, undef, undef, undef, undef, undef, undef, undef, undef, undef, undef, undef, undef, undef] from by apply Array.ext'; simp [List.replicate]]
  refine (?_ : ∀ Q : Exit → Act → World → Prop, Q = _ → Code.wp _ _ Q _ _) _ rfl
  intro Q hQ
  have hQ := Lib.hid hQ
  go_wp2
  subst hQ
  cases c₀
  simp_all [bodyPostS, results, Try.results32]

set_option maxHeartbeats 1000000 in
theorem caught17_fault (g : Nat) (s e0 : Int) (older : List PanicEntry) (w : World) (h1 : Has w g (.cells #[.int .i64 e0] 37 (0, 0))) :
    CallsD Try.prog 32 #[.pointer (some ⟨g, 0, none⟩)] (.panicking ({ v := .iface 111 (.agg #[.int .i64 s]), recovered := false } :: older)) w fun e u' w' =>
      e = .returned (.tuple #[]) ∧ u' = .panicking ({ v := .iface 111 (.agg #[.int .i64 s]), recovered := true } :: older) ∧
      Has w' g (.cells #[.int .i64 s] 37 (0, 0)) ∧ Below g w w' ∧ ∀ j o, j ≠ g → Has w j o → Has w' j o := by
  have hn0 := eql_fault17 (.agg #[.int .i64 s])
  have hn1 := assert_fault17 (.agg #[.int .i64 s])
  refine callsD_of_wpS Try.func32 rfl fun c₀ cs hu => ?_
  apply wpS_seq
  apply wpS_region
  simp [wpOpsS, go_sem, recoverD, hu, Try.ntmps32, Exit.thenS]
  refine wpS_of_wp ?_
  rw [show (#[Value.pointer (some ⟨g, 0, none⟩)] ++ ((Array.replicate 19 undef).setIfInBounds 4 (.iface 111 (.agg #[.int .i64 s]))).setIfInBounds 1 (.iface 111 (.agg #[.int .i64 s]))) = #[.pointer (some ⟨g, 0, none⟩), undef, (.iface 111 (.agg #[.int .i64 s])), undef, undef, (.iface 111 (.agg #[.int .i64 s])), undef, undef, undef, undef, undef, undef, undef, undef, undef, undef, undef, undef, undef, undef] from by apply Array.ext'; simp [List.replicate]]
  refine (?_ : ∀ Q : Exit → Act → World → Prop, Q = _ → Code.wp _ _ Q _ _) _ rfl
  intro Q hQ
  have hQ := Lib.hid hQ
  have hF : Has (w.alloc (.cells #[.int .i64 s] 111)) w.heap.size (.cells #[.int .i64 s] 111 (0, 0)) := Has.newAt rfl
  have hb := (Below.refl w.heap.size w).alloc (Nat.le_refl _) (.cells #[.int .i64 s] 111)
  have k1 := h1.lt
  have h1' := h1.below hb k1
  have c0 := hF.cell 0 rfl
  have c1 := h1'.cell 0 rfl
  have f1 := h1'.free 0
  go_wp2
  rw [hQ.out]
  refine ⟨rfl, _, rfl, _, by simp [results, Try.results32], rfl, rfl, (h1.setCell 0 (.int .i64 s)).alloc, (below_setCell (Below.refl _ _) (Nat.le_refl _) 0 _).alloc (by simp [World.setCell]; omega) _, fun j o hj ho => (ho.setCell_other hj 0 _).alloc⟩
/-- the act with the fault's catcher deferred -/
def dfr17 (g : Nat) : Deferred := { target := .fn (.func 32) #[], args := #[.pointer (some ⟨g, 0, none⟩)] }
section
variable {fn : Func} {T : Array Value} {R : Ending → World → Prop} {g : Nat} {w : World}
theorem leave17_ok {v : Value} (hr : (results fn T).run Try.prog w = .ok v w) (hR : R (.returned v) w) : Leaves Try.prog fn T R [dfr17 g] .returning w := by
  refine leaves_cons (f := 32) (args := #[.pointer (some ⟨g, 0, none⟩)]) (by simp) (by simp [go_sem]) ?_
  refine (caught17_idle g w).mono ?_
  rintro e u' w' ⟨rfl, rfl, rfl⟩
  exact ⟨v, hr, hR⟩
theorem leave17_fault {s e0 : Int} (hE : Has w g (.cells #[.int .i64 e0] 37 (0, 0)))
    (h : ∀ w', Has w' g (.cells #[.int .i64 s] 37 (0, 0)) → Below g w w' → (∀ j o, j ≠ g → Has w j o → Has w' j o) → ∃ v, (results fn T).run Try.prog w' = .ok v w' ∧ R (.returned v) w') :
    Leaves Try.prog fn T R [dfr17 g] (.panicking [{ v := .iface 111 (.agg #[.int .i64 s]), recovered := false }]) w := by
  refine leaves_cons (f := 32) (args := #[.pointer (some ⟨g, 0, none⟩)]) (by simp) (by simp [go_sem]) ?_
  refine (caught17_fault g s e0 [] w hE).mono ?_
  rintro e u' w' ⟨rfl, rfl, h1, h2, h3⟩
  obtain ⟨v, hv, hR⟩ := h w' h1 h2 h3
  exact ⟨v, hv, hR⟩
end
theorem ow_defer {P : Program} {o : Oper} {a : Act} {w : World} {K : Act → World → Prop} {Q : Exit → Act → World → Prop} {k : Nat} {x : Operand} {v : Value} {ts : Array TypeId} (ho : o.op = .defer { callee := .value (.func k), args := #[x], argTypes := ts }) (hx : a.eval x = v)
    (h : K ({ a with defers := { target := .fn (.func k) #[], args := #[v] } :: a.defers }.put o.dst undef) w) : o.wp P a w K Q := by
  subst hx
  have hr : (execOp a.eval o).run P w = .ok (.defer { target := .fn (.func k) #[], args := #[a.eval x] }) w := by
    have he : a.eval (.func k) = .func (.func k) #[] #[] := rfl
    generalize a.eval = ρ at he ⊢
    unfold execOp
    simp [ho, resolve, he, Deferred.ofValue]
  unfold Oper.wp
  rw [hr]
  exact h
theorem leaves_tmps17 {P : Program} {fn : Func} {t1 t2 : Array Value} {R : Ending → World → Prop} (h : results fn t1 = results fn t2) : ∀ (ds : List Deferred) (u : FrameMode) (w : World), Leaves P fn t1 R ds u w → Leaves P fn t2 R ds u w
  | [], .returning, w, ⟨v, hv, hr⟩ => ⟨v, h ▸ hv, hr⟩
  | [], .panicking c, w, hl => hl
  | [], .run, w, hl => hl.elim
  | d :: ds, u, w, ⟨h0, fv, cap, f, args, h1, h2, hc⟩ => ⟨h0, fv, cap, f, args, h1, h2, hc.mono fun e u' w' he => by
    cases e with
    | returned v => exact leaves_tmps17 h ds _ _ he
    | panicked c => exact leaves_tmps17 h ds _ _ he
    | outgrown => exact he⟩
theorem hqD45 {P : Program} {fn : Func} {R : Ending → World → Prop} {tb : TypeId} (hr : fn.results = #[.tmp 4, .cell 5 tb]) (d : Nat) (hd : d ≠ 4 ∧ d ≠ 5) (v : Value) (c : List PanicEntry) (a : Act) (w : World) (h : bodyPostD P fn R (.panic c) (a.put (some d) v) w) : bodyPostD P fn R (.panic c) a w := by
  refine leaves_tmps17 ?_ a.defers _ w h
  have e4 : (a.tmps.setIfInBounds d v)[4]? = a.tmps[4]? := Array.getElem?_setIfInBounds_ne hd.1
  have e5 : (a.tmps.setIfInBounds d v)[5]? = a.tmps[5]? := Array.getElem?_setIfInBounds_ne hd.2
  show results fn (a.tmps.setIfInBounds d v) = results fn a.tmps
  simp [results, hr, e4, e5]
theorem res_tc {P : Program} {fn : Func} {tmps : Array Value} {a b : Nat} {t : TypeId} {g : Nat} {v u : Value} {w : World} (hr : fn.results = #[.tmp b, .cell a t]) (hx : tmps.getD a undef = .pointer (some ⟨g, 0, none⟩)) (hl : (loadVar t ⟨g, 0, none⟩).run P w = .ok v w) (hb : tmps.getD b undef = u) :
    (results fn tmps).run P w = .ok (.tuple #[u, v]) w := by
  rw [Array.getD_eq_getD_getElem?] at hx hb
  simp [results, hr, hx, hb, hl, asAddr]
theorem res_cc {P : Program} {fn : Func} {tmps : Array Value} {a b : Nat} {t t' : TypeId} {g g' : Nat} {v u : Value} {w : World} (hr : fn.results = #[.cell a t, .cell b t']) (hx : tmps.getD a undef = .pointer (some ⟨g, 0, none⟩)) (hl : (loadVar t ⟨g, 0, none⟩).run P w = .ok v w) (hy : tmps.getD b undef = .pointer (some ⟨g', 0, none⟩)) (hl' : (loadVar t' ⟨g', 0, none⟩).run P w = .ok u w) :
    (results fn tmps).run P w = .ok (.tuple #[v, u]) w := by
  rw [Array.getD_eq_getD_getElem?] at hx hy
  simp [results, hr, hx, hy, hl, hl', asAddr]
theorem load_errno {w : World} {g : Nat} {s : Int} (h : Has w g (.cells #[.int .i64 s] 37 (0, 0))) : (loadVar 37 ⟨g, 0, none⟩).run Try.prog w = .ok (.int .i64 s) w := by
  have := h.cell 0 rfl
  go_simp
end Go.Proofs.Ytijnifbpbgckgaa
