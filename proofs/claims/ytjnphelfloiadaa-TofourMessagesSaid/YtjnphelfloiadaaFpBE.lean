/-
  Lemmas and walks for the row of TofourPackets,TofourMessages,TofourInside (part 31 of 42).
-/
import Derived.Test.YtjnphelfloiadaaFpAQ
import Derived.Test.YtjnphelfloiadaaFpAR
import Derived.Test.YtjnphelfloiadaaFpAS
import Derived.Test.YtjnphelfloiadaaFpBC
import Derived.Recover
set_option linter.unusedVariables false
set_option linter.unusedSimpArgs false
namespace Go.Proofs.Ytjnphelfloiadaa
open Go.RowKit Go.Shelf

theorem any_iface18 : Try.prog.underlying 20 = some (.interface (Try.prog.methodsAt 20)) := by kernel_rfl
theorem eql_nil18 (w : World) : (binOp .eql 20 .nilIface .nilIface).run Try.prog w = .ok (.bool true) w := run_eql_nil_nil w _ any_iface18
theorem eql_fault18 (v : Value) (w : World) : (binOp .eql 20 (.iface 36 v) .nilIface).run Try.prog w = .ok (.bool false) w := run_eql_held_nil w _ _ _ any_iface18
theorem assert_fault18 (v : Value) (w : World) : (Instr.typeAssert (.iface 36 v) 20 36 true).run Try.prog w = .ok (.tuple #[v, .bool true]) w := by
 unfold Instr.typeAssert
 simp [run_underlying Try.underlying36]

theorem caught18_idle (g : Nat) (w : World) :
  CallsD Try.prog 27 #[.pointer (some ⟨g, 0, none⟩)] .returning w fun e u' w' => e = .returned (.tuple #[]) ∧ u' = .returning ∧ w' = w := by
 have hn0 := eql_nil18
 refine callsD_of_wpS Try.func27 rfl fun c₀ cs hu => ?_
 apply wpS_seq
 apply wpS_region
 simp [wpOpsS, go_sem, recoverD, hu, Try.ntmps27, Exit.thenS]
 refine wpS_of_wp ?_
 rw [show (#[Value.pointer (some ⟨g, 0, none⟩)] ++ ((Array.replicate 18 undef).setIfInBounds 4 .nilIface).setIfInBounds 1 .nilIface) = #[.pointer (some ⟨g, 0, none⟩), undef, .nilIface, undef, undef, .nilIface, undef, undef, undef, undef, undef, undef, undef, undef, undef, undef, undef, undef, undef] from by apply Array.ext'; simp [List.replicate]]
 refine (?_ : ∀ Q : Exit → Act → World → Prop, Q = _ → Code.wp _ _ Q _ _) _ rfl
 intro Q hQ
 have hQ := Lib.hid hQ
 go_wp2
 subst hQ
 cases c₀
 simp_all [bodyPostS, results, Try.results27]

set_option maxHeartbeats 1000000 in
theorem caught18_fault (g : Nat) (s e0 : Int) (older : List PanicEntry) (w : World) (h1 : Has w g (.cells #[.int .i64 e0] 36 (0, 0))) :
  CallsD Try.prog 27 #[.pointer (some ⟨g, 0, none⟩)] (.panicking ({ v := .iface 36 (.int .i64 s), recovered := false } :: older)) w fun e u' w' =>
   e = .returned (.tuple #[]) ∧ u' = .panicking ({ v := .iface 36 (.int .i64 s), recovered := true } :: older) ∧
   Has w' g (.cells #[.int .i64 s] 36 (0, 0)) ∧ Below g w w' ∧ ∀ j o, j ≠ g → Has w j o → Has w' j o := by
 have hn0 := eql_fault18 (.int .i64 s)
 have hn1 := assert_fault18 (.int .i64 s)
 refine callsD_of_wpS Try.func27 rfl fun c₀ cs hu => ?_
 apply wpS_seq
 apply wpS_region
 simp [wpOpsS, go_sem, recoverD, hu, Try.ntmps27, Exit.thenS]
 refine wpS_of_wp ?_
 rw [show (#[Value.pointer (some ⟨g, 0, none⟩)] ++ ((Array.replicate 18 undef).setIfInBounds 4 (.iface 36 (.int .i64 s))).setIfInBounds 1 (.iface 36 (.int .i64 s))) = #[.pointer (some ⟨g, 0, none⟩), undef, (.iface 36 (.int .i64 s)), undef, undef, (.iface 36 (.int .i64 s)), undef, undef, undef, undef, undef, undef, undef, undef, undef, undef, undef, undef, undef] from by apply Array.ext'; simp [List.replicate]]
 refine (?_ : ∀ Q : Exit → Act → World → Prop, Q = _ → Code.wp _ _ Q _ _) _ rfl
 intro Q hQ
 have hQ := Lib.hid hQ
 have c1 := h1.cell 0 rfl
 have f1 := h1.free 0
 go_wp2
 rw [hQ.out]
 refine ⟨rfl, _, rfl, _, by simp [results, Try.results27], rfl, rfl, h1.setCell 0 (.int .i64 s), below_setCell (Below.refl _ _) (Nat.le_refl _) 0 _, fun j o hj ho => ho.setCell_other hj 0 _⟩
def dfr18 (g : Nat) : Deferred := { target := .fn (.func 27) #[], args := #[.pointer (some ⟨g, 0, none⟩)] }
section
variable {fn : Func} {T : Array Value} {R : Ending → World → Prop} {g : Nat} {w : World}
theorem leave18_ok {v : Value} (hr : (results fn T).run Try.prog w = .ok v w) (hR : R (.returned v) w) : Leaves Try.prog fn T R [dfr18 g] .returning w := by
 refine leaves_cons (f := 27) (args := #[.pointer (some ⟨g, 0, none⟩)]) (by simp) (by simp [go_sem]) ?_
 refine (caught18_idle g w).mono ?_
 rintro e u' w' ⟨rfl, rfl, rfl⟩
 exact ⟨v, hr, hR⟩
theorem leave18_fault {s e0 : Int} (hE : Has w g (.cells #[.int .i64 e0] 36 (0, 0)))
  (h : ∀ w', Has w' g (.cells #[.int .i64 s] 36 (0, 0)) → Below g w w' → (∀ j o, j ≠ g → Has w j o → Has w' j o) → ∃ v, (results fn T).run Try.prog w' = .ok v w' ∧ R (.returned v) w') :
  Leaves Try.prog fn T R [dfr18 g] (.panicking [{ v := .iface 36 (.int .i64 s), recovered := false }]) w := by
 refine leaves_cons (f := 27) (args := #[.pointer (some ⟨g, 0, none⟩)]) (by simp) (by simp [go_sem]) ?_
 refine (caught18_fault g s e0 [] w hE).mono ?_
 rintro e u' w' ⟨rfl, rfl, h1, h2, h3⟩
 obtain ⟨v, hv, hR⟩ := h w' h1 h2 h3
 exact ⟨v, hv, hR⟩
end
end Go.Proofs.Ytjnphelfloiadaa
namespace Go.Proofs.Ytjnphelfloiadaa
open Go.RowKit Go.Shelf
attribute [local irreducible] wpList Code.wp Oper.wp wpOp wpAnyH

def KindR (r : (Int × Int × Int) × Bool) (e : Ending) : Prop := ∃ a b c, e = .returned (.tuple #[.agg #[.int .u8 a, .int .u8 b, .int .u32 c, .slice none 0 0], .bool r.2]) ∧ (r.2 = true → r.1 = (a, b, c))
theorem KindR.mk {r : (Int × Int × Int) × Bool} {a b c : Int} {q : Bool} (h : r.2 = q) (h' : q = true → r.1 = (a, b, c)) : KindR r (.returned (.tuple #[.agg #[.int .u8 a, .int .u8 b, .int .u32 c, .slice none 0 0], .bool q])) := by
 subst h
 exact ⟨a, b, c, rfl, h'⟩

end Go.Proofs.Ytjnphelfloiadaa
