/-
  Lemmas and walks for the row of TofourTells (part 28 of 37).
-/
import Derived.Test.YtjnphelfloiadaaFtAF
import Derived.Test.YtjnphelfloiadaaFtAI
import Derived.Test.YtjnphelfloiadaaFtAQ
import Derived.Test.YtjnphelfloiadaaFtAW
import Derived.Test.YtjnphelfloiadaaFtAX
import Derived.Recover
set_option linter.unusedVariables false
set_option linter.unusedSimpArgs false
namespace Go.Proofs.Ytjnphelfloiadaa
open Go.RowKit Go.Shelf

theorem any_iface18 : Try.prog.underlying 20 = some (.interface (Try.prog.methodsAt 20)) := by kernel_rfl
theorem eql_nil18 (w : World) : (binOp .eql 20 .nilIface .nilIface).run Try.prog w = .ok (.bool true) w := run_eql_nil_nil w _ any_iface18
theorem eql_fault18 (v : Value) (w : World) : (binOp .eql 20 (.iface 36 v) .nilIface).run Try.prog w = .ok (.bool false) w := run_eql_held_nil w _ _ _ any_iface18
theorem assert_fault18 (v : Value) (w : World) : (Instr.typeAssert (.iface 36 v) 20 36 true).run Try.prog w = .ok (.tuple #[v, .bool true]) w := by
 unfold Instr.typeAssert
 simp [run_underlying Try.underlying36]

theorem caught18_idle (g : Nat) (w : World) :
  CallsD Try.prog 27 #[.pointer (some ⟨g, 0, none⟩)] .returning w fun e u' w' => e = .returned (.tuple #[]) ∧ u' = .returning ∧ w' = w := by
 have hn0 := eql_nil18
 refine callsD_of_wpS Try.func27 rfl fun c₀ cs hu => ?_
 apply wpS_seq
 apply wpS_region
 simp [wpOpsS, go_sem, recoverD, hu, Try.ntmps27, Exit.thenS]
 refine wpS_of_wp ?_
 rw [show (#[Value.pointer (some ⟨g, 0, none⟩)] ++ ((Array.replicate 18 undef).setIfInBounds 4 .nilIface).setIfInBounds 1 .nilIface) = #[.pointer (some ⟨g, 0, none⟩), undef, .nilIface, undef, undef, .nilIface, undef, undef, undef, undef, undef, undef, undef, undef, undef, undef, undef, undef, undef] from by apply Array.ext'; simp [List.replicate]]
 refine (?_ : ∀ Q : Exit → Act → World → Prop, Q = _ → Code.wp _ _ Q _ _) _ rfl
 intro Q hQ
 have hQ := Lib.hid hQ
 go_wp2
 subst hQ
 cases c₀
 simp_all [bodyPostS, results, Try.results27]

set_option maxHeartbeats 1000000 in
theorem caught18_fault (g : Nat) (s e0 : Int) (older : List PanicEntry) (w : World) (h1 : Has w g (.cells #[.int .i64 e0] 36 (0, 0))) :
  CallsD Try.prog 27 #[.pointer (some ⟨g, 0, none⟩)] (.panicking ({ v := .iface 36 (.int .i64 s), recovered := false } :: older)) w fun e u' w' =>
   e = .returned (.tuple #[]) ∧ u' = .panicking ({ v := .iface 36 (.int .i64 s), recovered := true } :: older) ∧
   Has w' g (.cells #[.int .i64 s] 36 (0, 0)) ∧ Below g w w' ∧ ∀ j o, j ≠ g → Has w j o → Has w' j o := by
 have hn0 := eql_fault18 (.int .i64 s)
 have hn1 := assert_fault18 (.int .i64 s)
 refine callsD_of_wpS Try.func27 rfl fun c₀ cs hu => ?_
 apply wpS_seq
 apply wpS_region
 simp [wpOpsS, go_sem, recoverD, hu, Try.ntmps27, Exit.thenS]
 refine wpS_of_wp ?_
 rw [show (#[Value.pointer (some ⟨g, 0, none⟩)] ++ ((Array.replicate 18 undef).setIfInBounds 4 (.iface 36 (.int .i64 s))).setIfInBounds 1 (.iface 36 (.int .i64 s))) = #[.pointer (some ⟨g, 0, none⟩), undef, (.iface 36 (.int .i64 s)), undef, undef, (.iface 36 (.int .i64 s)), undef, undef, undef, undef, undef, undef, undef, undef, undef, undef, undef, undef, undef] from by apply Array.ext'; simp [List.replicate]]
 refine (?_ : ∀ Q : Exit → Act → World → Prop, Q = _ → Code.wp _ _ Q _ _) _ rfl
 intro Q hQ
 have hQ := Lib.hid hQ
 have c1 := h1.cell 0 rfl
 have f1 := h1.free 0
 go_wp2
 rw [hQ.out]
 refine ⟨rfl, _, rfl, _, by simp [results, Try.results27], rfl, rfl, h1.setCell 0 (.int .i64 s), below_setCell (Below.refl _ _) (Nat.le_refl _) 0 _, fun j o hj ho => ho.setCell_other hj 0 _⟩
/-- the act with the fault's catcher deferred -/
def dfr18 (g : Nat) : Deferred := { target := .fn (.func 27) #[], args := #[.pointer (some ⟨g, 0, none⟩)] }
section
variable {fn : Func} {T : Array Value} {R : Ending → World → Prop} {g : Nat} {w : World}
theorem leave18_ok {v : Value} (hr : (results fn T).run Try.prog w = .ok v w) (hR : R (.returned v) w) : Leaves Try.prog fn T R [dfr18 g] .returning w := by
 refine leaves_cons (f := 27) (args := #[.pointer (some ⟨g, 0, none⟩)]) (by simp) (by simp [go_sem]) ?_
 refine (caught18_idle g w).mono ?_
 rintro e u' w' ⟨rfl, rfl, rfl⟩
 exact ⟨v, hr, hR⟩
theorem leave18_fault {s e0 : Int} (hE : Has w g (.cells #[.int .i64 e0] 36 (0, 0)))
  (h : ∀ w', Has w' g (.cells #[.int .i64 s] 36 (0, 0)) → Below g w w' → (∀ j o, j ≠ g → Has w j o → Has w' j o) → ∃ v, (results fn T).run Try.prog w' = .ok v w' ∧ R (.returned v) w') :
  Leaves Try.prog fn T R [dfr18 g] (.panicking [{ v := .iface 36 (.int .i64 s), recovered := false }]) w := by
 refine leaves_cons (f := 27) (args := #[.pointer (some ⟨g, 0, none⟩)]) (by simp) (by simp [go_sem]) ?_
 refine (caught18_fault g s e0 [] w hE).mono ?_
 rintro e u' w' ⟨rfl, rfl, h1, h2, h3⟩
 obtain ⟨v, hv, hR⟩ := h w' h1 h2 h3
 exact ⟨v, hv, hR⟩
end
end Go.Proofs.Ytjnphelfloiadaa
namespace Go.Proofs.Ytjnphelfloiadaa
open Go.RowKit Go.Shelf
attribute [local irreducible] wpList Code.wp Oper.wp wpOp wpAnyH

/-- a message without a body, and whether it has a meaning -/
def KindR (r : (Int × Int × Int) × Bool) (e : Ending) : Prop := ∃ a b c, e = .returned (.tuple #[.agg #[.int .u8 a, .int .u8 b, .int .u32 c, .slice none 0 0], .bool r.2]) ∧ (r.2 = true → r.1 = (a, b, c))
theorem KindR.mk {r : (Int × Int × Int) × Bool} {a b c : Int} {q : Bool} (h : r.2 = q) (h' : q = true → r.1 = (a, b, c)) : KindR r (.returned (.tuple #[.agg #[.int .u8 a, .int .u8 b, .int .u32 c, .slice none 0 0], .bool q])) := by
 subst h
 exact ⟨a, b, c, rfl, h'⟩

end Go.Proofs.Ytjnphelfloiadaa
namespace Go.Proofs.Ytjnphelfloiadaa
open Go.RowKit Go.Shelf
attribute [local irreducible] wpList Code.wp Oper.wp wpOp wpAnyH

/-- a message without a body, or a panic with an error's number -/
def Kind18 (r : (Int × Int × Int) × Bool) (e : Ending) : Prop := (r.2 = true → e = .returned (.agg ((⟨r.1.1, r.1.2.1, r.1.2.2, []⟩ : D7).cells none 0))) ∧ (r.2 = false → e = Fault18 175)
theorem Kind18.ok {r : (Int × Int × Int) × Bool} {a b c : Int} (h : r = ((a, b, c), true)) : Kind18 r (.returned (.agg #[.int .u8 a, .int .u8 b, .int .u32 c, .slice none 0 0])) := by
 subst h
 exact ⟨fun _ => rfl, fun h => by cases h⟩
theorem Kind18.bad {r : (Int × Int × Int) × Bool} (h : r.2 = false) : Kind18 r (Fault18 175) := ⟨fun h' => (by rw [h] at h'; cases h'), fun _ => rfl⟩

set_option maxRecDepth 100000 in
set_option maxHeartbeats 8000000 in
theorem kind18_any (m : D7) (hm : m.ok) (A : Option Addr) (c : Nat) (w : World) :
  Calls Try.prog 45 #[.agg (m.cells A c)] w fun e w' => Kind18 (kind18 m) e ∧ Below w.heap.size w w' := by
 have r1 := hm.rest
 have r2 := hm.ty
 have r3 := hm.code
 have rm := mtu18_rng m.rest
 go_enter Try.func45, Try.ntmps45
 refine wp_sr ?_
 refine lz (ow_box 43 (.tmp 0) _ rfl rfl ?_)
 intro g1 W2 hg3 ge4 sz5 hb6
 have z7 := hb6.size
 simp only [lay]
 refine lz (oa #[.int .u8 0, .int .u8 0, .int .u32 0, .slice none 0 0] ?_)
 intro g8 W9 hg10 ge11 sz12 hb13
 have z14 := hb13.size
 simp only [lay]
 refine wn ?_
 refine wp_seq ?_
 refine wp_sr ?_
 refine lv (.pointer (some ⟨g1, 0, none⟩)) (by exact xf 0 0 Try.underlying43) ?_
 simp only [lay]
 have has15 := hg3.to hb13
 refine lv (.int .u8 m.ty) (by exact xc Try.underlying5 (has15.cell 0 rfl)) ?_
 simp only [lay]
 refine wn ?_
 refine wp_block ?_
 refine wp_sr ?_
 by_cases q16 : m.ty = 128
 case pos =>
  refine lv (.bool true) (by exact yq) ?_
  simp only [lay]
  refine lv (.bool true) (by exact xa) ?_
  simp only [lay]
  refine wn ?_
  refine cT9 ?_
  refine wp_sr ?_
  refine lv (.pointer (some ⟨g1, 1, none⟩)) (by exact xf 1 0 Try.underlying43) ?_
  simp only [lay]
  refine lv (.int .u8 m.code) (by exact xc Try.underlying5 (has15.cell 1 rfl)) ?_
  simp only [lay]
  refine lv (.pointer (some ⟨g1, 2, none⟩)) (by exact xf 2 0 Try.underlying43) ?_
  simp only [lay]
  refine lv (.int .u32 m.rest) (by exact xc Try.underlying22 (has15.cell 2 rfl)) ?_
  simp only [lay]
  refine lv (.agg #[.int .u8 8, .int .u8 m.code, .int .u32 m.rest, .slice none 0 0]) (by kernel_rfl) ?_
  simp only [lay]
  refine lz (ow_st 43 (.tmp 2) (.tmp 13) g8 #[.int .u8 8, .int .u8 m.code, .int .u32 m.rest, .slice none 0 0] _ _ rfl (by exact rfl) (by exact rfl) hg10 (by kernel_rfl) rfl (by kernel_rfl) ?_)
  intro W17 hg18 bs19 hb20
  have z21 := hb20.size
  simp only [lay]
  refine wn ?_
  refine wp_ret ?_
  simp only [Exit.inBlock, Exit.then]
  have e : kind18 m = ((8, m.code, m.rest), true) := by
   unfold kind18
   repeat (first | rw [if_pos (by first | assumption | omega | exact ne_true_of_eq_false (by assumption))] | rw [if_neg (by first | assumption | omega | exact ne_true_of_eq_false (by assumption))])
   try simp [*]
  have b22 := bt hb6 hb13
  have l23 := lq hb6 ge11
  have b24 := b22.trans (hb20.mono l23)
  exact bodyPost_ret (res_cell Try.results45 rfl (hg18.load (P := Try.prog) 43 Try.underlying43 rfl (by kernel_rfl))) rfl ⟨Kind18.ok e, b24⟩
 refine lv (.bool false) (by exact yqn) ?_
 simp only [lay]
 refine lv (.bool false) (by exact xa) ?_
 simp only [lay]
 refine wn ?_
 refine cF9 ?_
 refine wp_sr ?_
 by_cases q25 : m.ty = 129
 case pos =>
  refine lv (.bool true) (by exact yq) ?_
  simp only [lay]
  refine lv (.bool true) (by exact xa) ?_
  simp only [lay]
  refine wn ?_
  refine cT9 ?_
  refine wp_sr ?_
  refine lv (.pointer (some ⟨g1, 1, none⟩)) (by exact xf 1 0 Try.underlying43) ?_
  simp only [lay]
  refine lv (.int .u8 m.code) (by exact xc Try.underlying5 (has15.cell 1 rfl)) ?_
  simp only [lay]
  refine lv (.pointer (some ⟨g1, 2, none⟩)) (by exact xf 2 0 Try.underlying43) ?_
  simp only [lay]
  refine lv (.int .u32 m.rest) (by exact xc Try.underlying22 (has15.cell 2 rfl)) ?_
  simp only [lay]
  refine lv (.agg #[.int .u8 0, .int .u8 m.code, .int .u32 m.rest, .slice none 0 0]) (by kernel_rfl) ?_
  simp only [lay]
  refine lz (ow_st 43 (.tmp 2) (.tmp 20) g8 #[.int .u8 0, .int .u8 m.code, .int .u32 m.rest, .slice none 0 0] _ _ rfl (by exact rfl) (by exact rfl) hg10 (by kernel_rfl) rfl (by kernel_rfl) ?_)
  intro W26 hg27 bs28 hb29
  have z30 := hb29.size
  simp only [lay]
  refine wn ?_
  refine wp_ret ?_
  simp only [Exit.inBlock, Exit.then]
  have e : kind18 m = ((0, m.code, m.rest), true) := by
   unfold kind18
   repeat (first | rw [if_pos (by first | assumption | omega | exact ne_true_of_eq_false (by assumption))] | rw [if_neg (by first | assumption | omega | exact ne_true_of_eq_false (by assumption))])
   try simp [*]
  have b31 := bt hb6 hb13
  have l32 := lq hb6 ge11
  have b33 := b31.trans (hb29.mono l32)
  exact bodyPost_ret (res_cell Try.results45 rfl (hg27.load (P := Try.prog) 43 Try.underlying43 rfl (by kernel_rfl))) rfl ⟨Kind18.ok e, b33⟩
 refine lv (.bool false) (by exact yqn) ?_
 simp only [lay]
 refine lv (.bool false) (by exact xa) ?_
 simp only [lay]
 refine wn ?_
 refine cF9 ?_
 refine wp_sr ?_
 by_cases q34 : m.ty = 1
 case pos =>
  refine lv (.bool true) (by exact yq) ?_
  simp only [lay]
  refine lv (.bool true) (by exact xa) ?_
  simp only [lay]
  refine wn ?_
  refine cT9 ?_
  refine wp_sr ?_
  refine lv (.pointer (some ⟨g1, 1, none⟩)) (by exact xf 1 0 Try.underlying43) ?_
  simp only [lay]
  refine lv (.int .u8 m.code) (by exact xc Try.underlying5 (has15.cell 1 rfl)) ?_
  simp only [lay]
  refine wn ?_
  refine wp_block ?_
  refine wp_seq ?_
  refine wp_sr ?_
  by_cases q35 : m.code = 0
  case pos =>
   refine lv (.bool true) (by exact yq) ?_
   simp only [lay]
   refine lv (.bool true) (by exact xa) ?_
   simp only [lay]
   refine wn ?_
   refine cT9 ?_
   refine wp_skip ?_
   change Code.wp _ _ _ _ _
   refine cT9 ?_
   refine wp_sr ?_
   refine lv (.agg #[.int .u8 3, .int .u8 1, .int .u32 0, .slice none 0 0]) (by kernel_rfl) ?_
   simp only [lay]
   refine lz (ow_st 43 (.tmp 2) (.tmp 29) g8 #[.int .u8 3, .int .u8 1, .int .u32 0, .slice none 0 0] _ _ rfl (by exact rfl) (by exact rfl) hg10 (by kernel_rfl) rfl (by kernel_rfl) ?_)
   intro W36 hg37 bs38 hb39
   have z40 := hb39.size
   simp only [lay]
   refine wn ?_
   refine wp_ret ?_
   simp only [Exit.inBlock, Exit.then]
   have e : kind18 m = ((3, 1, 0), true) := by
    unfold kind18
    repeat (first | rw [if_pos (by first | assumption | omega | exact ne_true_of_eq_false (by assumption))] | rw [if_neg (by first | assumption | omega | exact ne_true_of_eq_false (by assumption))])
    try simp [*]
   have b41 := bt hb6 hb13
   have l42 := lq hb6 ge11
   have b43 := b41.trans (hb39.mono l42)
   exact bodyPost_ret (res_cell Try.results45 rfl (hg37.load (P := Try.prog) 43 Try.underlying43 rfl (by kernel_rfl))) rfl ⟨Kind18.ok e, b43⟩
  refine lv (.bool false) (by exact yqn) ?_
  simp only [lay]
  refine lv (.bool false) (by exact xa) ?_
  simp only [lay]
  refine wn ?_
  refine cF9 ?_
  refine wp_sr ?_
  by_cases q44 : m.code = 2
  case pos =>
   refine lv (.bool true) (by exact yq) ?_
   simp only [lay]
   refine lv (.bool true) (by exact xa) ?_
   simp only [lay]
   refine wn ?_
   refine cT9 ?_
   refine wp_skip ?_
   change Code.wp _ _ _ _ _
   refine cT9 ?_
   refine wp_sr ?_
   refine lv (.agg #[.int .u8 3, .int .u8 1, .int .u32 0, .slice none 0 0]) (by kernel_rfl) ?_
   simp only [lay]
   refine lz (ow_st 43 (.tmp 2) (.tmp 29) g8 #[.int .u8 3, .int .u8 1, .int .u32 0, .slice none 0 0] _ _ rfl (by exact rfl) (by exact rfl) hg10 (by kernel_rfl) rfl (by kernel_rfl) ?_)
   intro W45 hg46 bs47 hb48
   have z49 := hb48.size
   simp only [lay]
   refine wn ?_
   refine wp_ret ?_
   simp only [Exit.inBlock, Exit.then]
   have e : kind18 m = ((3, 1, 0), true) := by
    unfold kind18
    repeat (first | rw [if_pos (by first | assumption | omega | exact ne_true_of_eq_false (by assumption))] | rw [if_neg (by first | assumption | omega | exact ne_true_of_eq_false (by assumption))])
    try simp [*]
   have b50 := bt hb6 hb13
   have l51 := lq hb6 ge11
   have b52 := b50.trans (hb48.mono l51)
   exact bodyPost_ret (res_cell Try.results45 rfl (hg46.load (P := Try.prog) 43 Try.underlying43 rfl (by kernel_rfl))) rfl ⟨Kind18.ok e, b52⟩
  refine lv (.bool false) (by exact yqn) ?_
  simp only [lay]
  refine lv (.bool false) (by exact xa) ?_
  simp only [lay]
  refine wn ?_
  refine cF9 ?_
  refine wp_region_lit ?_
  by_cases q53 : m.code = 3
  case pos =>
   refine lv (.bool true) (by exact yq) ?_
   simp only [lay]
   refine lv (.bool true) (by exact xa) ?_
   simp only [lay]
   refine wn ?_
   refine cT9 ?_
   refine wp_sr ?_
   refine lv (.agg #[.int .u8 3, .int .u8 1, .int .u32 0, .slice none 0 0]) (by kernel_rfl) ?_
   simp only [lay]
   refine lz (ow_st 43 (.tmp 2) (.tmp 29) g8 #[.int .u8 3, .int .u8 1, .int .u32 0, .slice none 0 0] _ _ rfl (by exact rfl) (by exact rfl) hg10 (by kernel_rfl) rfl (by kernel_rfl) ?_)
   intro W54 hg55 bs56 hb57
   have z58 := hb57.size
   simp only [lay]
   refine wn ?_
   refine wp_ret ?_
   simp only [Exit.inBlock, Exit.then]
   have e : kind18 m = ((3, 1, 0), true) := by
    unfold kind18
    repeat (first | rw [if_pos (by first | assumption | omega | exact ne_true_of_eq_false (by assumption))] | rw [if_neg (by first | assumption | omega | exact ne_true_of_eq_false (by assumption))])
    try simp [*]
   have b59 := bt hb6 hb13
   have l60 := lq hb6 ge11
   have b61 := b59.trans (hb57.mono l60)
   exact bodyPost_ret (res_cell Try.results45 rfl (hg55.load (P := Try.prog) 43 Try.underlying43 rfl (by kernel_rfl))) rfl ⟨Kind18.ok e, b61⟩
  refine lv (.bool false) (by exact yqn) ?_
  simp only [lay]
  refine lv (.bool false) (by exact xa) ?_
  simp only [lay]
  refine wn ?_
  refine cF9 ?_
  refine wp_sr ?_
  by_cases q62 : m.code = 1
  case pos =>
   refine lv (.bool true) (by exact yq) ?_
   simp only [lay]
   refine lv (.bool true) (by exact xa) ?_
   simp only [lay]
   refine wn ?_
   refine cT9 ?_
   refine wp_sr ?_
   refine lv (.agg #[.int .u8 3, .int .u8 10, .int .u32 0, .slice none 0 0]) (by kernel_rfl) ?_
   simp only [lay]
   refine lz (ow_st 43 (.tmp 2) (.tmp 32) g8 #[.int .u8 3, .int .u8 10, .int .u32 0, .slice none 0 0] _ _ rfl (by exact rfl) (by exact rfl) hg10 (by kernel_rfl) rfl (by kernel_rfl) ?_)
   intro W63 hg64 bs65 hb66
   have z67 := hb66.size
   simp only [lay]
   refine wn ?_
   refine wp_ret ?_
   simp only [Exit.inBlock, Exit.then]
   have e : kind18 m = ((3, 10, 0), true) := by
    unfold kind18
    repeat (first | rw [if_pos (by first | assumption | omega | exact ne_true_of_eq_false (by assumption))] | rw [if_neg (by first | assumption | omega | exact ne_true_of_eq_false (by assumption))])
    try simp [*]
   have b68 := bt hb6 hb13
   have l69 := lq hb6 ge11
   have b70 := b68.trans (hb66.mono l69)
   exact bodyPost_ret (res_cell Try.results45 rfl (hg64.load (P := Try.prog) 43 Try.underlying43 rfl (by kernel_rfl))) rfl ⟨Kind18.ok e, b70⟩
  refine lv (.bool false) (by exact yqn) ?_
  simp only [lay]
  refine lv (.bool false) (by exact xa) ?_
  simp only [lay]
  refine wn ?_
  refine cF9 ?_
  refine wp_sr ?_
  by_cases q71 : m.code = 4
  case pos =>
   refine lv (.bool true) (by exact yq) ?_
   simp only [lay]
   refine lv (.bool true) (by exact xa) ?_
   simp only [lay]
   refine wn ?_
   refine cT9 ?_
   refine wp_sr ?_
   refine lv (.agg #[.int .u8 3, .int .u8 3, .int .u32 0, .slice none 0 0]) (by kernel_rfl) ?_
   simp only [lay]
   refine lz (ow_st 43 (.tmp 2) (.tmp 35) g8 #[.int .u8 3, .int .u8 3, .int .u32 0, .slice none 0 0] _ _ rfl (by exact rfl) (by exact rfl) hg10 (by kernel_rfl) rfl (by kernel_rfl) ?_)
   intro W72 hg73 bs74 hb75
   have z76 := hb75.size
   simp only [lay]
   refine wn ?_
   refine wp_ret ?_
   simp only [Exit.inBlock, Exit.then]
   have e : kind18 m = ((3, 3, 0), true) := by
    unfold kind18
    repeat (first | rw [if_pos (by first | assumption | omega | exact ne_true_of_eq_false (by assumption))] | rw [if_neg (by first | assumption | omega | exact ne_true_of_eq_false (by assumption))])
    try simp [*]
   have b77 := bt hb6 hb13
   have l78 := lq hb6 ge11
   have b79 := b77.trans (hb75.mono l78)
   exact bodyPost_ret (res_cell Try.results45 rfl (hg73.load (P := Try.prog) 43 Try.underlying43 rfl (by kernel_rfl))) rfl ⟨Kind18.ok e, b79⟩
  refine lv (.bool false) (by exact yqn) ?_
  simp only [lay]
  refine lv (.bool false) (by exact xa) ?_
  simp only [lay]
  refine wn ?_
  refine cF9 ?_
  refine wp_skip ?_
  change Code.wp _ _ _ _ _
  refine wp_region_lit ?_
  refine lv (.iface 36 (.int .i64 175)) (by kernel_rfl) ?_
  simp only [lay]
  refine lz (ow_raise _ _ rfl (by exact rfl) ?_)
  have e : (kind18 m).2 = false := by
   unfold kind18
   repeat (first | rw [if_pos (by first | assumption | omega | exact ne_true_of_eq_false (by assumption))] | rw [if_neg (by first | assumption | omega | exact ne_true_of_eq_false (by assumption))])
   try simp [*]
  have b80 := bt hb6 hb13
  exact ⟨rfl, Kind18.bad e, b80⟩
 refine lv (.bool false) (by exact yqn) ?_
 simp only [lay]
 refine lv (.bool false) (by exact xa) ?_
 simp only [lay]
 refine wn ?_
 refine cF9 ?_
 refine wp_sr ?_
 by_cases q81 : m.ty = 2
 case pos =>
  refine lv (.bool true) (by exact yq) ?_
  simp only [lay]
  refine lv (.bool true) (by exact xa) ?_
  simp only [lay]
  refine wn ?_
  refine cT9 ?_
  refine wp_sr ?_
  refine lv (.pointer (some ⟨g1, 1, none⟩)) (by exact xf 1 0 Try.underlying43) ?_
  simp only [lay]
  refine lv (.int .u8 m.code) (by exact xc Try.underlying5 (has15.cell 1 rfl)) ?_
  simp only [lay]
  by_cases q82 : m.code = 0
  case pos =>
   refine lv (.bool true) (by exact yq) ?_
   simp only [lay]
   refine wn ?_
   refine cT9 ?_
   refine wp_sr ?_
   refine lv (.pointer (some ⟨g1, 2, none⟩)) (by exact xf 2 0 Try.underlying43) ?_
   simp only [lay]
   refine lv (.int .u32 m.rest) (by exact xc Try.underlying22 (has15.cell 2 rfl)) ?_
   simp only [lay]
   refine lz (ow_same (.int .u16 (mtu18 m.rest)) (by exact xk Try.func25) (mtu18_any m.rest (by omega) W9) ?_)
   simp only [lay]
   refine lv (.int .u32 (mtu18 m.rest)) (by exact xv (conv_u32 33 22 .u16 (mtu18 m.rest) (by kernel_rfl) Try.underlying22 (by omega) (by omega) _)) ?_
   simp only [lay]
   refine lv (.agg #[.int .u8 3, .int .u8 4, .int .u32 (mtu18 m.rest), .slice none 0 0]) (by kernel_rfl) ?_
   simp only [lay]
   refine lz (ow_st 43 (.tmp 2) (.tmp 45) g8 #[.int .u8 3, .int .u8 4, .int .u32 (mtu18 m.rest), .slice none 0 0] _ _ rfl (by exact rfl) (by exact rfl) hg10 (by kernel_rfl) rfl (by kernel_rfl) ?_)
   intro W83 hg84 bs85 hb86
   have z87 := hb86.size
   simp only [lay]
   refine wn ?_
   refine wp_ret ?_
   simp only [Exit.inBlock, Exit.then]
   have e : kind18 m = ((3, 4, mtu18 m.rest), true) := by
    unfold kind18
    repeat (first | rw [if_pos (by first | assumption | omega | exact ne_true_of_eq_false (by assumption))] | rw [if_neg (by first | assumption | omega | exact ne_true_of_eq_false (by assumption))])
    try simp [*]
   have b88 := bt hb6 hb13
   have l89 := lq hb6 ge11
   have b90 := b88.trans (hb86.mono l89)
   exact bodyPost_ret (res_cell Try.results45 rfl (hg84.load (P := Try.prog) 43 Try.underlying43 rfl (by kernel_rfl))) rfl ⟨Kind18.ok e, b90⟩
  refine lv (.bool false) (by exact yqn) ?_
  simp only [lay]
  refine wn ?_
  refine cF9 ?_
  refine wp_skip ?_
  change Code.wp _ _ _ _ _
  refine wp_region_lit ?_
  refine lv (.iface 36 (.int .i64 175)) (by kernel_rfl) ?_
  simp only [lay]
  refine lz (ow_raise _ _ rfl (by exact rfl) ?_)
  have e : (kind18 m).2 = false := by
   unfold kind18
   repeat (first | rw [if_pos (by first | assumption | omega | exact ne_true_of_eq_false (by assumption))] | rw [if_neg (by first | assumption | omega | exact ne_true_of_eq_false (by assumption))])
   try simp [*]
  have b91 := bt hb6 hb13
  exact ⟨rfl, Kind18.bad e, b91⟩
 refine lv (.bool false) (by exact yqn) ?_
 simp only [lay]
 refine lv (.bool false) (by exact xa) ?_
 simp only [lay]
 refine wn ?_
 refine cF9 ?_
 refine wp_sr ?_
 by_cases q92 : m.ty = 3
 case pos =>
  refine lv (.bool true) (by exact yq) ?_
  simp only [lay]
  refine lv (.bool true) (by exact xa) ?_
  simp only [lay]
  refine wn ?_
  refine cT9 ?_
  refine wp_sr ?_
  refine lv (.pointer (some ⟨g1, 1, none⟩)) (by exact xf 1 0 Try.underlying43) ?_
  simp only [lay]
  refine lv (.int .u8 m.code) (by exact xc Try.underlying5 (has15.cell 1 rfl)) ?_
  simp only [lay]
  refine lv (.agg #[.int .u8 11, .int .u8 m.code, .int .u32 0, .slice none 0 0]) (by kernel_rfl) ?_
  simp only [lay]
  refine lz (ow_st 43 (.tmp 2) (.tmp 50) g8 #[.int .u8 11, .int .u8 m.code, .int .u32 0, .slice none 0 0] _ _ rfl (by exact rfl) (by exact rfl) hg10 (by kernel_rfl) rfl (by kernel_rfl) ?_)
  intro W93 hg94 bs95 hb96
  have z97 := hb96.size
  simp only [lay]
  refine wn ?_
  refine wp_ret ?_
  simp only [Exit.inBlock, Exit.then]
  have e : kind18 m = ((11, m.code, 0), true) := by
   unfold kind18
   repeat (first | rw [if_pos (by first | assumption | omega | exact ne_true_of_eq_false (by assumption))] | rw [if_neg (by first | assumption | omega | exact ne_true_of_eq_false (by assumption))])
   try simp [*]
  have b98 := bt hb6 hb13
  have l99 := lq hb6 ge11
  have b100 := b98.trans (hb96.mono l99)
  exact bodyPost_ret (res_cell Try.results45 rfl (hg94.load (P := Try.prog) 43 Try.underlying43 rfl (by kernel_rfl))) rfl ⟨Kind18.ok e, b100⟩
 refine lv (.bool false) (by exact yqn) ?_
 simp only [lay]
 refine lv (.bool false) (by exact xa) ?_
 simp only [lay]
 refine wn ?_
 refine cF9 ?_
 refine wp_sr ?_
 by_cases q101 : m.ty = 4
 case pos =>
  refine lv (.bool true) (by exact yq) ?_
  simp only [lay]
  refine lv (.bool true) (by exact xa) ?_
  simp only [lay]
  refine wn ?_
  refine cT9 ?_
  refine wp_seq ?_
  refine wp_sr ?_
  refine lv (.pointer (some ⟨g1, 2, none⟩)) (by exact xf 2 0 Try.underlying43) ?_
  simp only [lay]
  refine lv (.int .u32 m.rest) (by exact xc Try.underlying22 (has15.cell 2 rfl)) ?_
  simp only [lay]
  refine lz (ow_same (.tuple #[.int .u8 ((ptr18 m.rest).1), .bool ((ptr18 m.rest).2)]) (by exact xk Try.func23) (ptr18_any m.rest (by omega) W9) ?_)
  simp only [lay]
  refine lv (.tuple #[.int .u8 ((ptr18 m.rest).1), .bool ((ptr18 m.rest).2)]) (by exact xm) ?_
  simp only [lay]
  refine lv (.int .u8 ((ptr18 m.rest).1)) (by exact xe) ?_
  simp only [lay]
  refine lv (.bool ((ptr18 m.rest).2)) (by exact xe) ?_
  simp only [lay]
  refine lv (.int .u8 ((ptr18 m.rest).1)) (by exact xa) ?_
  simp only [lay]
  refine lv (.bool ((ptr18 m.rest).2)) (by exact xa) ?_
  simp only [lay]
  refine wn ?_
  refine wp_sr ?_
  refine lv (.bool ((ptr18 m.rest).2)) (by exact xm) ?_
  simp only [lay]
  refine lv (.bool ((ptr18 m.rest).2)) (by exact xm) ?_
  simp only [lay]
  by_cases q102 : (ptr18 m.rest).2 = true
  case pos =>
   rw [q102]
   refine lv (.pointer (some ⟨g1, 1, none⟩)) (by exact xf 1 0 Try.underlying43) ?_
   simp only [lay]
   refine lv (.int .u8 m.code) (by exact xc Try.underlying5 (has15.cell 1 rfl)) ?_
   simp only [lay]
   by_cases q103 : m.code = 0
   case pos =>
    refine lv (.bool true) (by exact yq) ?_
    simp only [lay]
    refine lv (.bool true) (by exact xp (b := true)) ?_
    simp only [lay]
    refine wn ?_
    refine cT9 ?_
    refine wp_sr ?_
    refine lv (.int .u8 ((ptr18 m.rest).1)) (by exact xm) ?_
    simp only [lay]
    refine lv (.int .u32 ((ptr18 m.rest).1)) (by exact xv (conv_u32 5 22 .u8 ((ptr18 m.rest).1) (by kernel_rfl) Try.underlying22 (in_rng (ptr18_rng hm.rest.1)).1 (in_rng (ptr18_rng hm.rest.1)).2.2 _)) ?_
    simp only [lay]
    refine lv (.int .u32 (((ptr18 m.rest).1) * 16777216)) (by exact xb (w_shl32 _ 24 _ (((ptr18 m.rest).1) * 16777216) rfl (by decide) (by have := (ptr18_rng hm.rest.1); omega) _)) ?_
    simp only [lay]
    refine lv (.agg #[.int .u8 12, .int .u8 0, .int .u32 (((ptr18 m.rest).1) * 16777216), .slice none 0 0]) (by kernel_rfl) ?_
    simp only [lay]
    refine lz (ow_st 43 (.tmp 2) (.tmp 68) g8 #[.int .u8 12, .int .u8 0, .int .u32 (((ptr18 m.rest).1) * 16777216), .slice none 0 0] _ _ rfl (by exact rfl) (by exact rfl) hg10 (by kernel_rfl) rfl (by kernel_rfl) ?_)
    intro W104 hg105 bs106 hb107
    have z108 := hb107.size
    simp only [lay]
    refine wn ?_
    refine wp_ret ?_
    simp only [Exit.inBlock, Exit.then]
    have e : kind18 m = ((12, 0, ((ptr18 m.rest).1) * 16777216), true) := by
     unfold kind18
     repeat (first | rw [if_pos (by first | assumption | omega | exact ne_true_of_eq_false (by assumption))] | rw [if_neg (by first | assumption | omega | exact ne_true_of_eq_false (by assumption))])
     try simp [*]
    have b109 := bt hb6 hb13
    have l110 := lq hb6 ge11
    have b111 := b109.trans (hb107.mono l110)
    exact bodyPost_ret (res_cell Try.results45 rfl (hg105.load (P := Try.prog) 43 Try.underlying43 rfl (by kernel_rfl))) rfl ⟨Kind18.ok e, b111⟩
   refine lv (.bool false) (by exact yqn) ?_
   simp only [lay]
   refine lv (.bool false) (by exact xp (b := true)) ?_
   simp only [lay]
   refine wn ?_
   refine cF9 ?_
   refine wp_skip ?_
   change Code.wp _ _ _ _ _
   refine wp_sr ?_
   refine lv (.pointer (some ⟨g1, 1, none⟩)) (by exact xf 1 0 Try.underlying43) ?_
   simp only [lay]
   refine lv (.int .u8 m.code) (by exact xc Try.underlying5 (has15.cell 1 rfl)) ?_
   simp only [lay]
   by_cases q112 : m.code = 1
   case pos =>
    refine lv (.bool true) (by exact yq) ?_
    simp only [lay]
    refine wn ?_
    refine cT9 ?_
    refine wp_sr ?_
    refine lv (.agg #[.int .u8 3, .int .u8 2, .int .u32 0, .slice none 0 0]) (by kernel_rfl) ?_
    simp only [lay]
    refine lz (ow_st 43 (.tmp 2) (.tmp 72) g8 #[.int .u8 3, .int .u8 2, .int .u32 0, .slice none 0 0] _ _ rfl (by exact rfl) (by exact rfl) hg10 (by kernel_rfl) rfl (by kernel_rfl) ?_)
    intro W113 hg114 bs115 hb116
    have z117 := hb116.size
    simp only [lay]
    refine wn ?_
    refine wp_ret ?_
    simp only [Exit.inBlock, Exit.then]
    have e : kind18 m = ((3, 2, 0), true) := by
     unfold kind18
     repeat (first | rw [if_pos (by first | assumption | omega | exact ne_true_of_eq_false (by assumption))] | rw [if_neg (by first | assumption | omega | exact ne_true_of_eq_false (by assumption))])
     try simp [*]
    have b118 := bt hb6 hb13
    have l119 := lq hb6 ge11
    have b120 := b118.trans (hb116.mono l119)
    exact bodyPost_ret (res_cell Try.results45 rfl (hg114.load (P := Try.prog) 43 Try.underlying43 rfl (by kernel_rfl))) rfl ⟨Kind18.ok e, b120⟩
   refine lv (.bool false) (by exact yqn) ?_
   simp only [lay]
   refine wn ?_
   refine cF9 ?_
   refine wp_skip ?_
   change Code.wp _ _ _ _ _
   refine wp_region_lit ?_
   refine lv (.iface 36 (.int .i64 175)) (by kernel_rfl) ?_
   simp only [lay]
   refine lz (ow_raise _ _ rfl (by exact rfl) ?_)
   have e : (kind18 m).2 = false := by
    unfold kind18
    repeat (first | rw [if_pos (by first | assumption | omega | exact ne_true_of_eq_false (by assumption))] | rw [if_neg (by first | assumption | omega | exact ne_true_of_eq_false (by assumption))])
    try simp [*]
   have b121 := bt hb6 hb13
   exact ⟨rfl, Kind18.bad e, b121⟩
  replace q102 := eq_false_of_ne_true q102
  rw [q102]
  refine lzn ?_
  simp only [lay]
  refine lzn ?_
  simp only [lay]
  refine lzn ?_
  simp only [lay]
  refine lv (.bool false) (by exact xp (b := false)) ?_
  simp only [lay]
  refine wn ?_
  refine cF9 ?_
  refine wp_skip ?_
  change Code.wp _ _ _ _ _
  refine wp_sr ?_
  refine lv (.pointer (some ⟨g1, 1, none⟩)) (by exact xf 1 0 Try.underlying43) ?_
  simp only [lay]
  refine lv (.int .u8 m.code) (by exact xc Try.underlying5 (has15.cell 1 rfl)) ?_
  simp only [lay]
  by_cases q122 : m.code = 1
  case pos =>
   refine lv (.bool true) (by exact yq) ?_
   simp only [lay]
   refine wn ?_
   refine cT9 ?_
   refine wp_sr ?_
   refine lv (.agg #[.int .u8 3, .int .u8 2, .int .u32 0, .slice none 0 0]) (by kernel_rfl) ?_
   simp only [lay]
   refine lz (ow_st 43 (.tmp 2) (.tmp 72) g8 #[.int .u8 3, .int .u8 2, .int .u32 0, .slice none 0 0] _ _ rfl (by exact rfl) (by exact rfl) hg10 (by kernel_rfl) rfl (by kernel_rfl) ?_)
   intro W123 hg124 bs125 hb126
   have z127 := hb126.size
   simp only [lay]
   refine wn ?_
   refine wp_ret ?_
   simp only [Exit.inBlock, Exit.then]
   have e : kind18 m = ((3, 2, 0), true) := by
    unfold kind18
    repeat (first | rw [if_pos (by first | assumption | omega | exact ne_true_of_eq_false (by assumption))] | rw [if_neg (by first | assumption | omega | exact ne_true_of_eq_false (by assumption))])
    try simp [*]
   have b128 := bt hb6 hb13
   have l129 := lq hb6 ge11
   have b130 := b128.trans (hb126.mono l129)
   exact bodyPost_ret (res_cell Try.results45 rfl (hg124.load (P := Try.prog) 43 Try.underlying43 rfl (by kernel_rfl))) rfl ⟨Kind18.ok e, b130⟩
  refine lv (.bool false) (by exact yqn) ?_
  simp only [lay]
  refine wn ?_
  refine cF9 ?_
  refine wp_skip ?_
  change Code.wp _ _ _ _ _
  refine wp_region_lit ?_
  refine lv (.iface 36 (.int .i64 175)) (by kernel_rfl) ?_
  simp only [lay]
  refine lz (ow_raise _ _ rfl (by exact rfl) ?_)
  have e : (kind18 m).2 = false := by
   unfold kind18
   repeat (first | rw [if_pos (by first | assumption | omega | exact ne_true_of_eq_false (by assumption))] | rw [if_neg (by first | assumption | omega | exact ne_true_of_eq_false (by assumption))])
   try simp [*]
  have b131 := bt hb6 hb13
  exact ⟨rfl, Kind18.bad e, b131⟩
 refine lv (.bool false) (by exact yqn) ?_
 simp only [lay]
 refine lv (.bool false) (by exact xa) ?_
 simp only [lay]
 refine wn ?_
 refine cF9 ?_
 refine wp_skip ?_
 change Code.wp _ _ _ _ _
 refine wp_region_lit ?_
 refine lv (.iface 36 (.int .i64 175)) (by kernel_rfl) ?_
 simp only [lay]
 refine lz (ow_raise _ _ rfl (by exact rfl) ?_)
 have e : (kind18 m).2 = false := by
  unfold kind18
  repeat (first | rw [if_pos (by first | assumption | omega | exact ne_true_of_eq_false (by assumption))] | rw [if_neg (by first | assumption | omega | exact ne_true_of_eq_false (by assumption))])
  try simp [*]
 have b132 := bt hb6 hb13
 exact ⟨rfl, Kind18.bad e, b132⟩
end Go.Proofs.Ytjnphelfloiadaa
