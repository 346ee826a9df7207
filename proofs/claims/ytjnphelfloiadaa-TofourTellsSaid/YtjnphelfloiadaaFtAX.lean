/-
  Lemmas and walks for the row of TofourTells (part 24 of 37).
-/
import Derived.Test.YtjnphelfloiadaaFtAI
import Derived.Test.YtjnphelfloiadaaFtAP
import Derived.Test.YtjnphelfloiadaaFtAQ
import Derived.Test.YtjnphelfloiadaaFtAR
import Derived.Test.YtjnphelfloiadaaFtAW
set_option linter.unusedVariables false
set_option linter.unusedSimpArgs false
namespace Go.Proofs.Ytjnphelfloiadaa
open Go.RowKit Go.Shelf
attribute [local irreducible] wpList Code.wp Oper.wp wpOp wpAnyH

section
variable {P : Program}
theorem b_sub32 (t : TypeId) {x y : Int} (z : Int) (h : x - y = z) (h0 : 0 ≤ z ∧ z < 4294967296) (w : World) : (binOp .sub t (.int .u32 x) (.int .u32 y)).run P w = .ok (.int .u32 z) w := by
 subst h
 have hz : IntKind.u32.wrap (x - y) = x - y := IntWalk.u32_in _ (by omega)
 simp [go_sem, hz]
end
section
variable {P : Program}
variable {md : Region.Mode} {ops : Array Oper} {Q : Exit → Act → World → Prop} {S : World → Prop}
/-- of three that are ready, whichever comes up -/
theorem tk_three {i j k : Nat} {fuel : Nat} {listed : Array Bool} {a : Act} {w : World} (hr : Region.ready md ops listed = [i, j, k])
  (h1 : wpOp P ops Q i (fun a' w' => S w' ∧ wpAnyH P md ops Q S fuel (listed.setIfInBounds i true) a' w') a w)
  (h2 : wpOp P ops Q j (fun a' w' => S w' ∧ wpAnyH P md ops Q S fuel (listed.setIfInBounds j true) a' w') a w)
  (h3 : wpOp P ops Q k (fun a' w' => S w' ∧ wpAnyH P md ops Q S fuel (listed.setIfInBounds k true) a' w') a w) : wpAnyH P md ops Q S (fuel + 1) listed a w :=
 wpAnyH_all hr (by simp) fun m hm => by
  rcases List.mem_cons.1 hm with rfl | hm
  ·exact h1
  rcases List.mem_cons.1 hm with rfl | hm
  ·exact h2
  ·obtain rfl : m = k := by simpa using hm
   exact h3
end
def l4 (s : List Int) : List Int := [s.getD 0 0, s.getD 1 0, s.getD 2 0, s.getD 3 0]
theorem u8s_4 {a : List Int} (h : a.length = 4) : u8s (l4 a) = u8s a := by
 match a, h with
 | [_, _, _, _], _ => rfl
def pZ18 : W4 := ⟨none, 0, none, 0⟩
def pB4 (A : Option Addr) (c : Nat) : W4 := ⟨none, 0, A, c⟩
/-- all blocks but g lie as they lay, and others may be new -/
structure ButG (g : Nat) (w w' : World) : Prop where
 size : w.heap.size ≤ w'.heap.size
 has : ∀ j o, j ≠ g → Has w j o → Has w' j o
theorem ButG.of6 {g : Nat} {w w' : World} (h : But6 g w w') : ButG g w w' := ⟨Nat.le_of_eq h.size.symm, fun _ _ hj ho => ho.but6 h hj⟩
theorem ButG.ofB {g : Nat} {w w' : World} (h : Below w.heap.size w w') : ButG g w w' := ⟨h.size, fun _ _ _ ho => ho.below h ho.lt⟩
theorem ButG.trans {g : Nat} {w w' w'' : World} (h : ButG g w w') (h' : ButG g w' w'') : ButG g w w'' := ⟨Nat.le_trans h.size h'.size, fun j o hj ho => h'.has j o hj (h.has j o hj ho)⟩
set_option maxRecDepth 100000 in
theorem ptr18_any (n : Int) (hn : 0 ≤ n ∧ n < 4294967296) (w : World) :
  Calls Try.prog 23 #[.int .u32 n] w fun e w' => e = .returned (.tuple #[.int .u8 (ptr18 n).1, .bool (ptr18 n).2]) ∧ w = w' := by
 go_enter Try.func23, Try.ntmps23
 refine wp_sr ?_
 refine lv (.int .u8 0) (by exact xa) ?_
 simp only [lay]
 refine lv (.bool false) (by exact xa) ?_
 simp only [lay]
 refine wn ?_
 refine wp_seq ?_
 refine wp_block ?_
 refine wp_sr ?_
 refine lv (.int .u32 n) (by exact xm) ?_
 simp only [lay]
 by_cases q1 : n ≤ 1
 case pos =>
  refine lv (.bool true) (by exact ex_leq (by exact rfl) (by exact rfl) (by exact rfl) (decide_eq_true (by first | assumption | omega | decide))) ?_
  simp only [lay]
  refine lv (.bool true) (by exact xa) ?_
  simp only [lay]
  refine wn ?_
  refine cT9 ?_
  refine wp_sr ?_
  refine lv (.int .u32 n) (by exact xm) ?_
  simp only [lay]
  refine lv (.int .u8 n) (by exact xv (conv_u8' 22 5 .u32 n (by kernel_rfl) Try.underlying5 (by omega) _)) ?_
  simp only [lay]
  refine lv (.int .u8 n) (by exact xa) ?_
  simp only [lay]
  refine lv (.bool true) (by exact xa) ?_
  simp only [lay]
  refine wn ?_
  refine wp_ret ?_
  simp only [Exit.inBlock, Exit.then]
  have e : ptr18 n = (n, true) := by
   first | (exfalso; omega) | (unfold ptr18; repeat (first | rw [if_pos (by first | assumption | omega | exact ne_true_of_eq_false (by assumption))] | rw [if_neg (by first | assumption | omega | exact ne_true_of_eq_false (by assumption))]))
  exact bodyPost_ret (res_tt Try.results23 rfl rfl) rfl ⟨by rw [e]; rfl, rfl⟩
 refine lv (.bool false) (by exact ex_leq (by exact rfl) (by exact rfl) (by exact rfl) (decide_eq_false (by first | assumption | omega | decide))) ?_
 simp only [lay]
 refine lv (.bool false) (by exact xa) ?_
 simp only [lay]
 refine wn ?_
 refine cF9 ?_
 refine wp_sr ?_
 refine lv (.int .u32 n) (by exact xm) ?_
 simp only [lay]
 by_cases q2 : n = 4
 case pos =>
  refine lv (.bool true) (by exact yq) ?_
  simp only [lay]
  refine lv (.bool true) (by exact xm) ?_
  simp only [lay]
  refine lzn ?_
  simp only [lay]
  refine lzn ?_
  simp only [lay]
  refine lv (.bool true) (by exact xp (b := true)) ?_
  simp only [lay]
  refine lv (.bool true) (by exact xa) ?_
  simp only [lay]
  refine wn ?_
  refine cT9 ?_
  refine wp_sr ?_
  refine lv (.int .u8 2) (by exact xa) ?_
  simp only [lay]
  refine lv (.bool true) (by exact xa) ?_
  simp only [lay]
  refine wn ?_
  refine wp_ret ?_
  simp only [Exit.inBlock, Exit.then]
  have e : ptr18 n = (2, true) := by
   first | (exfalso; omega) | (unfold ptr18; repeat (first | rw [if_pos (by first | assumption | omega | exact ne_true_of_eq_false (by assumption))] | rw [if_neg (by first | assumption | omega | exact ne_true_of_eq_false (by assumption))]))
  exact bodyPost_ret (res_tt Try.results23 rfl rfl) rfl ⟨by rw [e]; rfl, rfl⟩
 refine lv (.bool false) (by exact yqn) ?_
 simp only [lay]
 refine lv (.bool false) (by exact xm) ?_
 simp only [lay]
 refine lv (.int .u32 n) (by exact xm) ?_
 simp only [lay]
 by_cases q3 : n = 5
 case pos =>
  refine lv (.bool true) (by exact yq) ?_
  simp only [lay]
  refine lv (.bool true) (by exact xp (b := false)) ?_
  simp only [lay]
  refine lv (.bool true) (by exact xa) ?_
  simp only [lay]
  refine wn ?_
  refine cT9 ?_
  refine wp_sr ?_
  refine lv (.int .u8 2) (by exact xa) ?_
  simp only [lay]
  refine lv (.bool true) (by exact xa) ?_
  simp only [lay]
  refine wn ?_
  refine wp_ret ?_
  simp only [Exit.inBlock, Exit.then]
  have e : ptr18 n = (2, true) := by
   first | (exfalso; omega) | (unfold ptr18; repeat (first | rw [if_pos (by first | assumption | omega | exact ne_true_of_eq_false (by assumption))] | rw [if_neg (by first | assumption | omega | exact ne_true_of_eq_false (by assumption))]))
  exact bodyPost_ret (res_tt Try.results23 rfl rfl) rfl ⟨by rw [e]; rfl, rfl⟩
 refine lv (.bool false) (by exact yqn) ?_
 simp only [lay]
 refine lv (.bool false) (by exact xp (b := false)) ?_
 simp only [lay]
 refine lv (.bool false) (by exact xa) ?_
 simp only [lay]
 refine wn ?_
 refine cF9 ?_
 refine wp_sr ?_
 refine lv (.int .u32 n) (by exact xm) ?_
 simp only [lay]
 by_cases q4 : n = 6
 case pos =>
  refine lv (.bool true) (by exact yq) ?_
  simp only [lay]
  refine lv (.bool true) (by exact xa) ?_
  simp only [lay]
  refine wn ?_
  refine cT9 ?_
  refine wp_sr ?_
  refine lv (.int .u8 9) (by exact xa) ?_
  simp only [lay]
  refine lv (.bool true) (by exact xa) ?_
  simp only [lay]
  refine wn ?_
  refine wp_ret ?_
  simp only [Exit.inBlock, Exit.then]
  have e : ptr18 n = (9, true) := by
   first | (exfalso; omega) | (unfold ptr18; repeat (first | rw [if_pos (by first | assumption | omega | exact ne_true_of_eq_false (by assumption))] | rw [if_neg (by first | assumption | omega | exact ne_true_of_eq_false (by assumption))]))
  exact bodyPost_ret (res_tt Try.results23 rfl rfl) rfl ⟨by rw [e]; rfl, rfl⟩
 refine lv (.bool false) (by exact yqn) ?_
 simp only [lay]
 refine lv (.bool false) (by exact xa) ?_
 simp only [lay]
 refine wn ?_
 refine cF9 ?_
 refine wp_sr ?_
 refine lv (.int .u32 n) (by exact xm) ?_
 simp only [lay]
 by_cases q5 : n = 7
 case pos =>
  refine lv (.bool true) (by exact yq) ?_
  simp only [lay]
  refine lv (.bool true) (by exact xa) ?_
  simp only [lay]
  refine wn ?_
  refine cT9 ?_
  refine wp_sr ?_
  refine lv (.int .u8 8) (by exact xa) ?_
  simp only [lay]
  refine lv (.bool true) (by exact xa) ?_
  simp only [lay]
  refine wn ?_
  refine wp_ret ?_
  simp only [Exit.inBlock, Exit.then]
  have e : ptr18 n = (8, true) := by
   first | (exfalso; omega) | (unfold ptr18; repeat (first | rw [if_pos (by first | assumption | omega | exact ne_true_of_eq_false (by assumption))] | rw [if_neg (by first | assumption | omega | exact ne_true_of_eq_false (by assumption))]))
  exact bodyPost_ret (res_tt Try.results23 rfl rfl) rfl ⟨by rw [e]; rfl, rfl⟩
 refine lv (.bool false) (by exact yqn) ?_
 simp only [lay]
 refine lv (.bool false) (by exact xa) ?_
 simp only [lay]
 refine wn ?_
 refine cF9 ?_
 refine wp_sr ?_
 refine lv (.int .u32 n) (by exact xm) ?_
 simp only [lay]
 by_cases q6 : n ≥ 8
 case pos =>
  refine lv (.bool true) (by exact ex_geq (by exact rfl) (by exact rfl) (by exact rfl) (decide_eq_true (by first | assumption | omega | decide))) ?_
  simp only [lay]
  refine lv (.bool true) (by exact xm) ?_
  simp only [lay]
  refine lv (.int .u32 n) (by exact xm) ?_
  simp only [lay]
  by_cases q7 : n < 24
  case pos =>
   refine lv (.bool true) (by exact ex_lss (by exact rfl) (by exact rfl) (by exact rfl) (decide_eq_true (by first | assumption | omega | decide))) ?_
   simp only [lay]
   refine lv (.bool true) (by exact xp (b := true)) ?_
   simp only [lay]
   refine lv (.bool true) (by exact xa) ?_
   simp only [lay]
   refine wn ?_
   refine cT9 ?_
   refine wp_sr ?_
   refine lv (.int .u8 12) (by exact xa) ?_
   simp only [lay]
   refine lv (.bool true) (by exact xa) ?_
   simp only [lay]
   refine wn ?_
   refine wp_ret ?_
   simp only [Exit.inBlock, Exit.then]
   have e : ptr18 n = (12, true) := by
    first | (exfalso; omega) | (unfold ptr18; repeat (first | rw [if_pos (by first | assumption | omega | exact ne_true_of_eq_false (by assumption))] | rw [if_neg (by first | assumption | omega | exact ne_true_of_eq_false (by assumption))]))
   exact bodyPost_ret (res_tt Try.results23 rfl rfl) rfl ⟨by rw [e]; rfl, rfl⟩
  refine lv (.bool false) (by exact ex_lss (by exact rfl) (by exact rfl) (by exact rfl) (decide_eq_false (by first | assumption | omega | decide))) ?_
  simp only [lay]
  refine lv (.bool false) (by exact xp (b := true)) ?_
  simp only [lay]
  refine lv (.bool false) (by exact xa) ?_
  simp only [lay]
  refine wn ?_
  refine cF9 ?_
  refine wp_sr ?_
  refine lv (.int .u32 n) (by exact xm) ?_
  simp only [lay]
  by_cases q8 : n ≥ 24
  case pos =>
   refine lv (.bool true) (by exact ex_geq (by exact rfl) (by exact rfl) (by exact rfl) (decide_eq_true (by first | assumption | omega | decide))) ?_
   simp only [lay]
   refine lv (.bool true) (by exact xm) ?_
   simp only [lay]
   refine lv (.int .u32 n) (by exact xm) ?_
   simp only [lay]
   by_cases q9 : n < 40
   case pos =>
    refine lv (.bool true) (by exact ex_lss (by exact rfl) (by exact rfl) (by exact rfl) (decide_eq_true (by first | assumption | omega | decide))) ?_
    simp only [lay]
    refine lv (.bool true) (by exact xp (b := true)) ?_
    simp only [lay]
    refine lv (.bool true) (by exact xa) ?_
    simp only [lay]
    refine wn ?_
    refine cT9 ?_
    refine wp_sr ?_
    refine lv (.int .u8 16) (by exact xa) ?_
    simp only [lay]
    refine lv (.bool true) (by exact xa) ?_
    simp only [lay]
    refine wn ?_
    refine wp_ret ?_
    simp only [Exit.inBlock, Exit.then]
    have e : ptr18 n = (16, true) := by
     first | (exfalso; omega) | (unfold ptr18; repeat (first | rw [if_pos (by first | assumption | omega | exact ne_true_of_eq_false (by assumption))] | rw [if_neg (by first | assumption | omega | exact ne_true_of_eq_false (by assumption))]))
    exact bodyPost_ret (res_tt Try.results23 rfl rfl) rfl ⟨by rw [e]; rfl, rfl⟩
   refine lv (.bool false) (by exact ex_lss (by exact rfl) (by exact rfl) (by exact rfl) (decide_eq_false (by first | assumption | omega | decide))) ?_
   simp only [lay]
   refine lv (.bool false) (by exact xp (b := true)) ?_
   simp only [lay]
   refine lv (.bool false) (by exact xa) ?_
   simp only [lay]
   refine wn ?_
   refine cF9 ?_
   refine wp_skip ?_
   change Code.wp _ _ _ _ _
   refine wp_sr ?_
   refine lv (.int .u8 0) (by exact xa) ?_
   simp only [lay]
   refine lv (.bool false) (by exact xa) ?_
   simp only [lay]
   refine wn ?_
   refine wp_ret ?_
   try simp only [Exit.then]
   have e : ptr18 n = (0, false) := by
    first | (exfalso; omega) | (unfold ptr18; repeat (first | rw [if_pos (by first | assumption | omega | exact ne_true_of_eq_false (by assumption))] | rw [if_neg (by first | assumption | omega | exact ne_true_of_eq_false (by assumption))]))
   exact bodyPost_ret (res_tt Try.results23 rfl rfl) rfl ⟨by rw [e]; rfl, rfl⟩
  refine lv (.bool false) (by exact ex_geq (by exact rfl) (by exact rfl) (by exact rfl) (decide_eq_false (by first | assumption | omega | decide))) ?_
  simp only [lay]
  refine lv (.bool false) (by exact xm) ?_
  simp only [lay]
  refine lzn ?_
  simp only [lay]
  refine lzn ?_
  simp only [lay]
  refine lv (.bool false) (by exact xp (b := false)) ?_
  simp only [lay]
  refine lv (.bool false) (by exact xa) ?_
  simp only [lay]
  refine wn ?_
  refine cF9 ?_
  refine wp_skip ?_
  change Code.wp _ _ _ _ _
  refine wp_sr ?_
  refine lv (.int .u8 0) (by exact xa) ?_
  simp only [lay]
  refine lv (.bool false) (by exact xa) ?_
  simp only [lay]
  refine wn ?_
  refine wp_ret ?_
  try simp only [Exit.then]
  have e : ptr18 n = (0, false) := by
   first | (exfalso; omega) | (unfold ptr18; repeat (first | rw [if_pos (by first | assumption | omega | exact ne_true_of_eq_false (by assumption))] | rw [if_neg (by first | assumption | omega | exact ne_true_of_eq_false (by assumption))]))
  exact bodyPost_ret (res_tt Try.results23 rfl rfl) rfl ⟨by rw [e]; rfl, rfl⟩
 refine lv (.bool false) (by exact ex_geq (by exact rfl) (by exact rfl) (by exact rfl) (decide_eq_false (by first | assumption | omega | decide))) ?_
 simp only [lay]
 refine lv (.bool false) (by exact xm) ?_
 simp only [lay]
 refine lzn ?_
 simp only [lay]
 refine lzn ?_
 simp only [lay]
 refine lv (.bool false) (by exact xp (b := false)) ?_
 simp only [lay]
 refine lv (.bool false) (by exact xa) ?_
 simp only [lay]
 refine wn ?_
 refine cF9 ?_
 refine wp_sr ?_
 refine lv (.int .u32 n) (by exact xm) ?_
 simp only [lay]
 by_cases q10 : n ≥ 24
 case pos =>
  refine lv (.bool true) (by exact ex_geq (by exact rfl) (by exact rfl) (by exact rfl) (decide_eq_true (by first | assumption | omega | decide))) ?_
  simp only [lay]
  refine lv (.bool true) (by exact xm) ?_
  simp only [lay]
  refine lv (.int .u32 n) (by exact xm) ?_
  simp only [lay]
  by_cases q11 : n < 40
  case pos =>
   refine lv (.bool true) (by exact ex_lss (by exact rfl) (by exact rfl) (by exact rfl) (decide_eq_true (by first | assumption | omega | decide))) ?_
   simp only [lay]
   refine lv (.bool true) (by exact xp (b := true)) ?_
   simp only [lay]
   refine lv (.bool true) (by exact xa) ?_
   simp only [lay]
   refine wn ?_
   refine cT9 ?_
   refine wp_sr ?_
   refine lv (.int .u8 16) (by exact xa) ?_
   simp only [lay]
   refine lv (.bool true) (by exact xa) ?_
   simp only [lay]
   refine wn ?_
   refine wp_ret ?_
   simp only [Exit.inBlock, Exit.then]
   have e : ptr18 n = (16, true) := by
    first | (exfalso; omega) | (unfold ptr18; repeat (first | rw [if_pos (by first | assumption | omega | exact ne_true_of_eq_false (by assumption))] | rw [if_neg (by first | assumption | omega | exact ne_true_of_eq_false (by assumption))]))
   exact bodyPost_ret (res_tt Try.results23 rfl rfl) rfl ⟨by rw [e]; rfl, rfl⟩
  refine lv (.bool false) (by exact ex_lss (by exact rfl) (by exact rfl) (by exact rfl) (decide_eq_false (by first | assumption | omega | decide))) ?_
  simp only [lay]
  refine lv (.bool false) (by exact xp (b := true)) ?_
  simp only [lay]
  refine lv (.bool false) (by exact xa) ?_
  simp only [lay]
  refine wn ?_
  refine cF9 ?_
  refine wp_skip ?_
  change Code.wp _ _ _ _ _
  refine wp_sr ?_
  refine lv (.int .u8 0) (by exact xa) ?_
  simp only [lay]
  refine lv (.bool false) (by exact xa) ?_
  simp only [lay]
  refine wn ?_
  refine wp_ret ?_
  try simp only [Exit.then]
  have e : ptr18 n = (0, false) := by
   first | (exfalso; omega) | (unfold ptr18; repeat (first | rw [if_pos (by first | assumption | omega | exact ne_true_of_eq_false (by assumption))] | rw [if_neg (by first | assumption | omega | exact ne_true_of_eq_false (by assumption))]))
  exact bodyPost_ret (res_tt Try.results23 rfl rfl) rfl ⟨by rw [e]; rfl, rfl⟩
 refine lv (.bool false) (by exact ex_geq (by exact rfl) (by exact rfl) (by exact rfl) (decide_eq_false (by first | assumption | omega | decide))) ?_
 simp only [lay]
 refine lv (.bool false) (by exact xm) ?_
 simp only [lay]
 refine lzn ?_
 simp only [lay]
 refine lzn ?_
 simp only [lay]
 refine lv (.bool false) (by exact xp (b := false)) ?_
 simp only [lay]
 refine lv (.bool false) (by exact xa) ?_
 simp only [lay]
 refine wn ?_
 refine cF9 ?_
 refine wp_skip ?_
 change Code.wp _ _ _ _ _
 refine wp_sr ?_
 refine lv (.int .u8 0) (by exact xa) ?_
 simp only [lay]
 refine lv (.bool false) (by exact xa) ?_
 simp only [lay]
 refine wn ?_
 refine wp_ret ?_
 try simp only [Exit.then]
 have e : ptr18 n = (0, false) := by
  first | (exfalso; omega) | (unfold ptr18; repeat (first | rw [if_pos (by first | assumption | omega | exact ne_true_of_eq_false (by assumption))] | rw [if_neg (by first | assumption | omega | exact ne_true_of_eq_false (by assumption))]))
 exact bodyPost_ret (res_tt Try.results23 rfl rfl) rfl ⟨by rw [e]; rfl, rfl⟩
set_option maxRecDepth 100000 in
theorem rptr18_any (n : Int) (hn : 0 ≤ n ∧ n < 4294967296) (w : World) :
  Calls Try.prog 24 #[.int .u32 n] w fun e w' => e = .returned (.tuple #[.int .u8 (ptr18 n).1, .bool (ptr18 n).2]) ∧ w = w' := by
 go_enter Try.func24, Try.ntmps24
 refine wp_sr ?_
 refine lv (.int .u8 0) (by exact xa) ?_
 simp only [lay]
 refine lv (.bool false) (by exact xa) ?_
 simp only [lay]
 refine wn ?_
 refine wp_seq ?_
 refine wp_block ?_
 refine wp_sr ?_
 refine lv (.int .u32 n) (by exact xm) ?_
 simp only [lay]
 by_cases q1 : n ≤ 1
 case pos =>
  refine lv (.bool true) (by exact ex_leq (by exact rfl) (by exact rfl) (by exact rfl) (decide_eq_true (by first | assumption | omega | decide))) ?_
  simp only [lay]
  refine lv (.bool true) (by exact xa) ?_
  simp only [lay]
  refine wn ?_
  refine cT9 ?_
  refine wp_sr ?_
  refine lv (.int .u32 n) (by exact xm) ?_
  simp only [lay]
  refine lv (.int .u8 n) (by exact xv (conv_u8' 22 5 .u32 n (by kernel_rfl) Try.underlying5 (by omega) _)) ?_
  simp only [lay]
  refine lv (.int .u8 n) (by exact xa) ?_
  simp only [lay]
  refine lv (.bool true) (by exact xa) ?_
  simp only [lay]
  refine wn ?_
  refine wp_ret ?_
  simp only [Exit.inBlock, Exit.then]
  have e : ptr18 n = (n, true) := by
   first | (exfalso; omega) | (unfold ptr18; repeat (first | rw [if_pos (by first | assumption | omega | exact ne_true_of_eq_false (by assumption))] | rw [if_neg (by first | assumption | omega | exact ne_true_of_eq_false (by assumption))]))
  exact bodyPost_ret (res_tt Try.results24 rfl rfl) rfl ⟨by rw [e]; rfl, rfl⟩
 refine lv (.bool false) (by exact ex_leq (by exact rfl) (by exact rfl) (by exact rfl) (decide_eq_false (by first | assumption | omega | decide))) ?_
 simp only [lay]
 refine lv (.bool false) (by exact xa) ?_
 simp only [lay]
 refine wn ?_
 refine cF9 ?_
 refine wp_sr ?_
 refine lv (.int .u32 n) (by exact xm) ?_
 simp only [lay]
 by_cases q2 : n = 4
 case pos =>
  refine lv (.bool true) (by exact yq) ?_
  simp only [lay]
  refine lv (.bool true) (by exact xm) ?_
  simp only [lay]
  refine lzn ?_
  simp only [lay]
  refine lzn ?_
  simp only [lay]
  refine lv (.bool true) (by exact xp (b := true)) ?_
  simp only [lay]
  refine lv (.bool true) (by exact xa) ?_
  simp only [lay]
  refine wn ?_
  refine cT9 ?_
  refine wp_sr ?_
  refine lv (.int .u8 2) (by exact xa) ?_
  simp only [lay]
  refine lv (.bool true) (by exact xa) ?_
  simp only [lay]
  refine wn ?_
  refine wp_ret ?_
  simp only [Exit.inBlock, Exit.then]
  have e : ptr18 n = (2, true) := by
   first | (exfalso; omega) | (unfold ptr18; repeat (first | rw [if_pos (by first | assumption | omega | exact ne_true_of_eq_false (by assumption))] | rw [if_neg (by first | assumption | omega | exact ne_true_of_eq_false (by assumption))]))
  exact bodyPost_ret (res_tt Try.results24 rfl rfl) rfl ⟨by rw [e]; rfl, rfl⟩
 refine lv (.bool false) (by exact yqn) ?_
 simp only [lay]
 refine lv (.bool false) (by exact xm) ?_
 simp only [lay]
 refine lv (.int .u32 n) (by exact xm) ?_
 simp only [lay]
 by_cases q3 : n = 5
 case pos =>
  refine lv (.bool true) (by exact yq) ?_
  simp only [lay]
  refine lv (.bool true) (by exact xp (b := false)) ?_
  simp only [lay]
  refine lv (.bool true) (by exact xa) ?_
  simp only [lay]
  refine wn ?_
  refine cT9 ?_
  refine wp_sr ?_
  refine lv (.int .u8 2) (by exact xa) ?_
  simp only [lay]
  refine lv (.bool true) (by exact xa) ?_
  simp only [lay]
  refine wn ?_
  refine wp_ret ?_
  simp only [Exit.inBlock, Exit.then]
  have e : ptr18 n = (2, true) := by
   first | (exfalso; omega) | (unfold ptr18; repeat (first | rw [if_pos (by first | assumption | omega | exact ne_true_of_eq_false (by assumption))] | rw [if_neg (by first | assumption | omega | exact ne_true_of_eq_false (by assumption))]))
  exact bodyPost_ret (res_tt Try.results24 rfl rfl) rfl ⟨by rw [e]; rfl, rfl⟩
 refine lv (.bool false) (by exact yqn) ?_
 simp only [lay]
 refine lv (.bool false) (by exact xp (b := false)) ?_
 simp only [lay]
 refine lv (.bool false) (by exact xa) ?_
 simp only [lay]
 refine wn ?_
 refine cF9 ?_
 refine wp_sr ?_
 refine lv (.int .u32 n) (by exact xm) ?_
 simp only [lay]
 by_cases q4 : n = 6
 case pos =>
  refine lv (.bool true) (by exact yq) ?_
  simp only [lay]
  refine lv (.bool true) (by exact xa) ?_
  simp only [lay]
  refine wn ?_
  refine cT9 ?_
  refine wp_sr ?_
  refine lv (.int .u8 9) (by exact xa) ?_
  simp only [lay]
  refine lv (.bool true) (by exact xa) ?_
  simp only [lay]
  refine wn ?_
  refine wp_ret ?_
  simp only [Exit.inBlock, Exit.then]
  have e : ptr18 n = (9, true) := by
   first | (exfalso; omega) | (unfold ptr18; repeat (first | rw [if_pos (by first | assumption | omega | exact ne_true_of_eq_false (by assumption))] | rw [if_neg (by first | assumption | omega | exact ne_true_of_eq_false (by assumption))]))
  exact bodyPost_ret (res_tt Try.results24 rfl rfl) rfl ⟨by rw [e]; rfl, rfl⟩
 refine lv (.bool false) (by exact yqn) ?_
 simp only [lay]
 refine lv (.bool false) (by exact xa) ?_
 simp only [lay]
 refine wn ?_
 refine cF9 ?_
 refine wp_sr ?_
 refine lv (.int .u32 n) (by exact xm) ?_
 simp only [lay]
 by_cases q5 : n = 7
 case pos =>
  refine lv (.bool true) (by exact yq) ?_
  simp only [lay]
  refine lv (.bool true) (by exact xa) ?_
  simp only [lay]
  refine wn ?_
  refine cT9 ?_
  refine wp_sr ?_
  refine lv (.int .u8 8) (by exact xa) ?_
  simp only [lay]
  refine lv (.bool true) (by exact xa) ?_
  simp only [lay]
  refine wn ?_
  refine wp_ret ?_
  simp only [Exit.inBlock, Exit.then]
  have e : ptr18 n = (8, true) := by
   first | (exfalso; omega) | (unfold ptr18; repeat (first | rw [if_pos (by first | assumption | omega | exact ne_true_of_eq_false (by assumption))] | rw [if_neg (by first | assumption | omega | exact ne_true_of_eq_false (by assumption))]))
  exact bodyPost_ret (res_tt Try.results24 rfl rfl) rfl ⟨by rw [e]; rfl, rfl⟩
 refine lv (.bool false) (by exact yqn) ?_
 simp only [lay]
 refine lv (.bool false) (by exact xa) ?_
 simp only [lay]
 refine wn ?_
 refine cF9 ?_
 refine wp_sr ?_
 refine lv (.int .u32 n) (by exact xm) ?_
 simp only [lay]
 by_cases q6 : n ≥ 8
 case pos =>
  refine lv (.bool true) (by exact ex_geq (by exact rfl) (by exact rfl) (by exact rfl) (decide_eq_true (by first | assumption | omega | decide))) ?_
  simp only [lay]
  refine lv (.bool true) (by exact xm) ?_
  simp only [lay]
  refine lv (.int .u32 n) (by exact xm) ?_
  simp only [lay]
  by_cases q7 : n ≤ 23
  case pos =>
   refine lv (.bool true) (by exact ex_leq (by exact rfl) (by exact rfl) (by exact rfl) (decide_eq_true (by first | assumption | omega | decide))) ?_
   simp only [lay]
   refine lv (.bool true) (by exact xp (b := true)) ?_
   simp only [lay]
   refine lv (.bool true) (by exact xa) ?_
   simp only [lay]
   refine wn ?_
   refine cT9 ?_
   refine wp_sr ?_
   refine lv (.int .u8 12) (by exact xa) ?_
   simp only [lay]
   refine lv (.bool true) (by exact xa) ?_
   simp only [lay]
   refine wn ?_
   refine wp_ret ?_
   simp only [Exit.inBlock, Exit.then]
   have e : ptr18 n = (12, true) := by
    first | (exfalso; omega) | (unfold ptr18; repeat (first | rw [if_pos (by first | assumption | omega | exact ne_true_of_eq_false (by assumption))] | rw [if_neg (by first | assumption | omega | exact ne_true_of_eq_false (by assumption))]))
   exact bodyPost_ret (res_tt Try.results24 rfl rfl) rfl ⟨by rw [e]; rfl, rfl⟩
  refine lv (.bool false) (by exact ex_leq (by exact rfl) (by exact rfl) (by exact rfl) (decide_eq_false (by first | assumption | omega | decide))) ?_
  simp only [lay]
  refine lv (.bool false) (by exact xp (b := true)) ?_
  simp only [lay]
  refine lv (.bool false) (by exact xa) ?_
  simp only [lay]
  refine wn ?_
  refine cF9 ?_
  refine wp_sr ?_
  refine lv (.int .u32 n) (by exact xm) ?_
  simp only [lay]
  by_cases q8 : n ≥ 24
  case pos =>
   refine lv (.bool true) (by exact ex_geq (by exact rfl) (by exact rfl) (by exact rfl) (decide_eq_true (by first | assumption | omega | decide))) ?_
   simp only [lay]
   refine lv (.bool true) (by exact xm) ?_
   simp only [lay]
   refine lv (.int .u32 n) (by exact xm) ?_
   simp only [lay]
   by_cases q9 : n ≤ 39
   case pos =>
    refine lv (.bool true) (by exact ex_leq (by exact rfl) (by exact rfl) (by exact rfl) (decide_eq_true (by first | assumption | omega | decide))) ?_
    simp only [lay]
    refine lv (.bool true) (by exact xp (b := true)) ?_
    simp only [lay]
    refine lv (.bool true) (by exact xa) ?_
    simp only [lay]
    refine wn ?_
    refine cT9 ?_
    refine wp_sr ?_
    refine lv (.int .u8 16) (by exact xa) ?_
    simp only [lay]
    refine lv (.bool true) (by exact xa) ?_
    simp only [lay]
    refine wn ?_
    refine wp_ret ?_
    simp only [Exit.inBlock, Exit.then]
    have e : ptr18 n = (16, true) := by
     first | (exfalso; omega) | (unfold ptr18; repeat (first | rw [if_pos (by first | assumption | omega | exact ne_true_of_eq_false (by assumption))] | rw [if_neg (by first | assumption | omega | exact ne_true_of_eq_false (by assumption))]))
    exact bodyPost_ret (res_tt Try.results24 rfl rfl) rfl ⟨by rw [e]; rfl, rfl⟩
   refine lv (.bool false) (by exact ex_leq (by exact rfl) (by exact rfl) (by exact rfl) (decide_eq_false (by first | assumption | omega | decide))) ?_
   simp only [lay]
   refine lv (.bool false) (by exact xp (b := true)) ?_
   simp only [lay]
   refine lv (.bool false) (by exact xa) ?_
   simp only [lay]
   refine wn ?_
   refine cF9 ?_
   refine wp_skip ?_
   change Code.wp _ _ _ _ _
   refine wp_sr ?_
   refine lv (.int .u8 0) (by exact xa) ?_
   simp only [lay]
   refine lv (.bool false) (by exact xa) ?_
   simp only [lay]
   refine wn ?_
   refine wp_ret ?_
   try simp only [Exit.then]
   have e : ptr18 n = (0, false) := by
    first | (exfalso; omega) | (unfold ptr18; repeat (first | rw [if_pos (by first | assumption | omega | exact ne_true_of_eq_false (by assumption))] | rw [if_neg (by first | assumption | omega | exact ne_true_of_eq_false (by assumption))]))
   exact bodyPost_ret (res_tt Try.results24 rfl rfl) rfl ⟨by rw [e]; rfl, rfl⟩
  refine lv (.bool false) (by exact ex_geq (by exact rfl) (by exact rfl) (by exact rfl) (decide_eq_false (by first | assumption | omega | decide))) ?_
  simp only [lay]
  refine lv (.bool false) (by exact xm) ?_
  simp only [lay]
  refine lzn ?_
  simp only [lay]
  refine lzn ?_
  simp only [lay]
  refine lv (.bool false) (by exact xp (b := false)) ?_
  simp only [lay]
  refine lv (.bool false) (by exact xa) ?_
  simp only [lay]
  refine wn ?_
  refine cF9 ?_
  refine wp_skip ?_
  change Code.wp _ _ _ _ _
  refine wp_sr ?_
  refine lv (.int .u8 0) (by exact xa) ?_
  simp only [lay]
  refine lv (.bool false) (by exact xa) ?_
  simp only [lay]
  refine wn ?_
  refine wp_ret ?_
  try simp only [Exit.then]
  have e : ptr18 n = (0, false) := by
   first | (exfalso; omega) | (unfold ptr18; repeat (first | rw [if_pos (by first | assumption | omega | exact ne_true_of_eq_false (by assumption))] | rw [if_neg (by first | assumption | omega | exact ne_true_of_eq_false (by assumption))]))
  exact bodyPost_ret (res_tt Try.results24 rfl rfl) rfl ⟨by rw [e]; rfl, rfl⟩
 refine lv (.bool false) (by exact ex_geq (by exact rfl) (by exact rfl) (by exact rfl) (decide_eq_false (by first | assumption | omega | decide))) ?_
 simp only [lay]
 refine lv (.bool false) (by exact xm) ?_
 simp only [lay]
 refine lzn ?_
 simp only [lay]
 refine lzn ?_
 simp only [lay]
 refine lv (.bool false) (by exact xp (b := false)) ?_
 simp only [lay]
 refine lv (.bool false) (by exact xa) ?_
 simp only [lay]
 refine wn ?_
 refine cF9 ?_
 refine wp_sr ?_
 refine lv (.int .u32 n) (by exact xm) ?_
 simp only [lay]
 by_cases q10 : n ≥ 24
 case pos =>
  refine lv (.bool true) (by exact ex_geq (by exact rfl) (by exact rfl) (by exact rfl) (decide_eq_true (by first | assumption | omega | decide))) ?_
  simp only [lay]
  refine lv (.bool true) (by exact xm) ?_
  simp only [lay]
  refine lv (.int .u32 n) (by exact xm) ?_
  simp only [lay]
  by_cases q11 : n ≤ 39
  case pos =>
   refine lv (.bool true) (by exact ex_leq (by exact rfl) (by exact rfl) (by exact rfl) (decide_eq_true (by first | assumption | omega | decide))) ?_
   simp only [lay]
   refine lv (.bool true) (by exact xp (b := true)) ?_
   simp only [lay]
   refine lv (.bool true) (by exact xa) ?_
   simp only [lay]
   refine wn ?_
   refine cT9 ?_
   refine wp_sr ?_
   refine lv (.int .u8 16) (by exact xa) ?_
   simp only [lay]
   refine lv (.bool true) (by exact xa) ?_
   simp only [lay]
   refine wn ?_
   refine wp_ret ?_
   simp only [Exit.inBlock, Exit.then]
   have e : ptr18 n = (16, true) := by
    first | (exfalso; omega) | (unfold ptr18; repeat (first | rw [if_pos (by first | assumption | omega | exact ne_true_of_eq_false (by assumption))] | rw [if_neg (by first | assumption | omega | exact ne_true_of_eq_false (by assumption))]))
   exact bodyPost_ret (res_tt Try.results24 rfl rfl) rfl ⟨by rw [e]; rfl, rfl⟩
  refine lv (.bool false) (by exact ex_leq (by exact rfl) (by exact rfl) (by exact rfl) (decide_eq_false (by first | assumption | omega | decide))) ?_
  simp only [lay]
  refine lv (.bool false) (by exact xp (b := true)) ?_
  simp only [lay]
  refine lv (.bool false) (by exact xa) ?_
  simp only [lay]
  refine wn ?_
  refine cF9 ?_
  refine wp_skip ?_
  change Code.wp _ _ _ _ _
  refine wp_sr ?_
  refine lv (.int .u8 0) (by exact xa) ?_
  simp only [lay]
  refine lv (.bool false) (by exact xa) ?_
  simp only [lay]
  refine wn ?_
  refine wp_ret ?_
  try simp only [Exit.then]
  have e : ptr18 n = (0, false) := by
   first | (exfalso; omega) | (unfold ptr18; repeat (first | rw [if_pos (by first | assumption | omega | exact ne_true_of_eq_false (by assumption))] | rw [if_neg (by first | assumption | omega | exact ne_true_of_eq_false (by assumption))]))
  exact bodyPost_ret (res_tt Try.results24 rfl rfl) rfl ⟨by rw [e]; rfl, rfl⟩
 refine lv (.bool false) (by exact ex_geq (by exact rfl) (by exact rfl) (by exact rfl) (decide_eq_false (by first | assumption | omega | decide))) ?_
 simp only [lay]
 refine lv (.bool false) (by exact xm) ?_
 simp only [lay]
 refine lzn ?_
 simp only [lay]
 refine lzn ?_
 simp only [lay]
 refine lv (.bool false) (by exact xp (b := false)) ?_
 simp only [lay]
 refine lv (.bool false) (by exact xa) ?_
 simp only [lay]
 refine wn ?_
 refine cF9 ?_
 refine wp_skip ?_
 change Code.wp _ _ _ _ _
 refine wp_sr ?_
 refine lv (.int .u8 0) (by exact xa) ?_
 simp only [lay]
 refine lv (.bool false) (by exact xa) ?_
 simp only [lay]
 refine wn ?_
 refine wp_ret ?_
 try simp only [Exit.then]
 have e : ptr18 n = (0, false) := by
  first | (exfalso; omega) | (unfold ptr18; repeat (first | rw [if_pos (by first | assumption | omega | exact ne_true_of_eq_false (by assumption))] | rw [if_neg (by first | assumption | omega | exact ne_true_of_eq_false (by assumption))]))
 exact bodyPost_ret (res_tt Try.results24 rfl rfl) rfl ⟨by rw [e]; rfl, rfl⟩
set_option maxRecDepth 100000 in
theorem mtu18_any (n : Int) (hn : 0 ≤ n ∧ n < 4294967296) (w : World) :
  Calls Try.prog 25 #[.int .u32 n] w fun e w' => e = .returned (.int .u16 (mtu18 n)) ∧ w = w' := by
 go_enter Try.func25, Try.ntmps25
 refine wp_sr ?_
 refine lv (.int .u16 0) (by exact xa) ?_
 simp only [lay]
 refine wn ?_
 refine wp_sr ?_
 refine lv (.int .u32 n) (by exact xm) ?_
 simp only [lay]
 refine lv (.int .i64 n) (by exact xv (conv_i64 22 2 .u32 n (by kernel_rfl) Try.underlying2 (by omega) _)) ?_
 simp only [lay]
 refine lv (.int .i64 (n - 20)) (by exact xb (b_sub _ (n - 20) rfl (by omega) _)) ?_
 simp only [lay]
 by_cases q1 : 65535 ≤ n - 20
 case pos =>
  refine lv (.int .i64 65535) (by exact ex_min (r := 65535) (by exact rfl) (by exact rfl) (by exact rfl) (by first | rw [if_pos (by omega)] | rw [if_neg (by omega)] | (split <;> omega))) ?_
  simp only [lay]
  refine lv (.int .i64 65535) (by exact ex_max (r := 65535) (by exact rfl) (by exact rfl) (by exact rfl) (by first | rw [if_pos (by omega)] | rw [if_neg (by omega)] | (split <;> omega))) ?_
  simp only [lay]
  refine lv (.int .u16 65535) (by exact xv (conv_u16 2 33 .i64 65535 (by kernel_rfl) Try.underlying33 (by omega) (by omega) _)) ?_
  simp only [lay]
  refine lv (.int .u16 65535) (by exact xa) ?_
  simp only [lay]
  refine wn ?_
  refine wp_ret ?_
  try simp only [Exit.then]
  have e : mtu18 n = 65535 := by
   unfold mtu18
   repeat' split
   all_goals omega
  exact bodyPost_ret (res_one Try.results25 rfl) rfl ⟨by rw [e]; rfl, rfl⟩
 refine lv (.int .i64 (n - 20)) (by exact ex_min (r := (n - 20)) (by exact rfl) (by exact rfl) (by exact rfl) (by first | rw [if_pos (by omega)] | rw [if_neg (by omega)] | (split <;> omega))) ?_
 simp only [lay]
 by_cases q2 : 68 ≤ n - 20
 case pos =>
  refine lv (.int .i64 (n - 20)) (by exact ex_max (r := (n - 20)) (by exact rfl) (by exact rfl) (by exact rfl) (by first | rw [if_pos (by omega)] | rw [if_neg (by omega)] | (split <;> omega))) ?_
  simp only [lay]
  refine lv (.int .u16 (n - 20)) (by exact xv (conv_u16 2 33 .i64 (n - 20) (by kernel_rfl) Try.underlying33 (by omega) (by omega) _)) ?_
  simp only [lay]
  refine lv (.int .u16 (n - 20)) (by exact xa) ?_
  simp only [lay]
  refine wn ?_
  refine wp_ret ?_
  try simp only [Exit.then]
  have e : mtu18 n = n - 20 := by
   unfold mtu18
   repeat' split
   all_goals omega
  exact bodyPost_ret (res_one Try.results25 rfl) rfl ⟨by rw [e]; rfl, rfl⟩
 refine lv (.int .i64 68) (by exact ex_max (r := 68) (by exact rfl) (by exact rfl) (by exact rfl) (by first | rw [if_pos (by omega)] | rw [if_neg (by omega)] | (split <;> omega))) ?_
 simp only [lay]
 refine lv (.int .u16 68) (by exact xv (conv_u16 2 33 .i64 68 (by kernel_rfl) Try.underlying33 (by omega) (by omega) _)) ?_
 simp only [lay]
 refine lv (.int .u16 68) (by exact xa) ?_
 simp only [lay]
 refine wn ?_
 refine wp_ret ?_
 try simp only [Exit.then]
 have e : mtu18 n = 68 := by
  unfold mtu18
  repeat' split
  all_goals omega
 exact bodyPost_ret (res_one Try.results25 rfl) rfl ⟨by rw [e]; rfl, rfl⟩
set_option maxRecDepth 100000 in
theorem rmtu18_any (n : Int) (hn : 0 ≤ n ∧ n < 4294967296) (w : World) :
  Calls Try.prog 26 #[.int .u32 n] w fun e w' => e = .returned (.int .u16 (mtu18 n)) ∧ w = w' := by
 go_enter Try.func26, Try.ntmps26
 refine wp_sr ?_
 refine lv (.int .u16 0) (by exact xa) ?_
 simp only [lay]
 refine wn ?_
 refine wp_seq ?_
 refine wp_sr ?_
 refine lv (.int .u32 n) (by exact xm) ?_
 simp only [lay]
 by_cases q1 : n < 88
 case pos =>
  refine lv (.bool true) (by exact ex_lss (by exact rfl) (by exact rfl) (by exact rfl) (decide_eq_true (by first | assumption | omega | decide))) ?_
  simp only [lay]
  refine wn ?_
  refine cT9 ?_
  refine wp_sr ?_
  refine lv (.int .u16 68) (by exact xa) ?_
  simp only [lay]
  refine wn ?_
  refine wp_ret ?_
  try simp only [Exit.then]
  have e : mtu18 n = 68 := by
   unfold mtu18
   repeat' split
   all_goals omega
  exact bodyPost_ret (res_one Try.results26 rfl) rfl ⟨by rw [e]; rfl, rfl⟩
 refine lv (.bool false) (by exact ex_lss (by exact rfl) (by exact rfl) (by exact rfl) (decide_eq_false (by first | assumption | omega | decide))) ?_
 simp only [lay]
 refine wn ?_
 refine cF9 ?_
 refine wp_skip ?_
 change Code.wp _ _ _ _ _
 refine wp_seq ?_
 refine wp_sr ?_
 refine lv (.int .u32 n) (by exact xm) ?_
 simp only [lay]
 by_cases q2 : n > 65555
 case pos =>
  refine lv (.bool true) (by exact ex_gtr (by exact rfl) (by exact rfl) (by exact rfl) (decide_eq_true (by first | assumption | omega | decide))) ?_
  simp only [lay]
  refine wn ?_
  refine cT9 ?_
  refine wp_sr ?_
  refine lv (.int .u16 65535) (by exact xa) ?_
  simp only [lay]
  refine wn ?_
  refine wp_ret ?_
  try simp only [Exit.then]
  have e : mtu18 n = 65535 := by
   unfold mtu18
   repeat' split
   all_goals omega
  exact bodyPost_ret (res_one Try.results26 rfl) rfl ⟨by rw [e]; rfl, rfl⟩
 refine lv (.bool false) (by exact ex_gtr (by exact rfl) (by exact rfl) (by exact rfl) (decide_eq_false (by first | assumption | omega | decide))) ?_
 simp only [lay]
 refine wn ?_
 refine cF9 ?_
 refine wp_skip ?_
 change Code.wp _ _ _ _ _
 refine wp_sr ?_
 refine lv (.int .u32 n) (by exact xm) ?_
 simp only [lay]
 refine lv (.int .u32 (n - 20)) (by exact xb (b_sub32 _ (n - 20) rfl (by omega) _)) ?_
 simp only [lay]
 refine lv (.int .u16 (n - 20)) (by exact xv (conv_u16 22 33 .u32 (n - 20) (by kernel_rfl) Try.underlying33 (by omega) (by omega) _)) ?_
 simp only [lay]
 refine lv (.int .u16 (n - 20)) (by exact xa) ?_
 simp only [lay]
 refine wn ?_
 refine wp_ret ?_
 try simp only [Exit.then]
 have e : mtu18 n = n - 20 := by
  unfold mtu18
  repeat' split
  all_goals omega
 exact bodyPost_ret (res_one Try.results26 rfl) rfl ⟨by rw [e]; rfl, rfl⟩
set_option maxRecDepth 100000 in
theorem rfragment18_any (d : D6) (p : W6) (w : World) :
  Calls Try.prog 62 #[.agg (d.cells p)] w fun e w' => e = .returned (.bool d.part) ∧ Below w.heap.size w w' := by
 go_enter Try.func62, Try.ntmps62
 refine wp_sr ?_
 refine lz (ow_box 28 (.tmp 0) _ rfl rfl ?_)
 intro g1 W2 hg3 ge4 sz5 hb6
 have z7 := hb6.size
 simp only [lay]
 refine lv (.bool false) (by exact xa) ?_
 simp only [lay]
 refine wn ?_
 refine wp_sr ?_
 refine lv (.pointer (some ⟨g1, 36, none⟩)) (by exact xf 36 0 Try.underlying28) ?_
 simp only [lay]
 refine lv (.bool d.frag) (by exact xc Try.underlying4 (hg3.cell 36 rfl)) ?_
 simp only [lay]
 refine lv (.bool d.frag) (by exact xm) ?_
 simp only [lay]
 by_cases q8 : d.frag = true
 case pos =>
  rw [q8]
  refine lv (.pointer (some ⟨g1, 39, none⟩)) (by exact xf 39 0 Try.underlying28) ?_
  simp only [lay]
  refine lv (.bool d.more) (by exact xc Try.underlying4 (hg3.cell 39 rfl)) ?_
  simp only [lay]
  refine lv (.bool d.more) (by exact xm) ?_
  simp only [lay]
  by_cases q9 : d.more = true
  case pos =>
   rw [q9]
   refine lzn ?_
   simp only [lay]
   refine lzn ?_
   simp only [lay]
   refine lzn ?_
   simp only [lay]
   refine lv (.bool true) (by exact xp (b := true)) ?_
   simp only [lay]
   refine lv (.bool true) (by exact xp (b := true)) ?_
   simp only [lay]
   refine lv (.bool true) (by exact xa) ?_
   simp only [lay]
   refine wn ?_
   refine wp_ret ?_
   try simp only [Exit.then]
   have e : d.part = true := by unfold D6.part; simp [*]; try omega
   exact bodyPost_ret (res_one Try.results62 rfl) rfl ⟨by rw [e]; rfl, hb6⟩
  replace q9 := eq_false_of_ne_true q9
  rw [q9]
  refine lv (.pointer (some ⟨g1, 38, none⟩)) (by exact xf 38 0 Try.underlying28) ?_
  simp only [lay]
  refine lv (.int .i64 d.off) (by exact xc Try.underlying3 (hg3.cell 38 rfl)) ?_
  simp only [lay]
  by_cases q10 : d.off > 0
  case pos =>
   refine lv (.bool true) (by exact ex_gtr (by exact rfl) (by exact rfl) (by exact rfl) (decide_eq_true (by first | assumption | omega | decide))) ?_
   simp only [lay]
   refine lv (.bool true) (by exact xp (b := false)) ?_
   simp only [lay]
   refine lv (.bool true) (by exact xp (b := true)) ?_
   simp only [lay]
   refine lv (.bool true) (by exact xa) ?_
   simp only [lay]
   refine wn ?_
   refine wp_ret ?_
   try simp only [Exit.then]
   have e : d.part = true := by unfold D6.part; simp [*]; try omega
   exact bodyPost_ret (res_one Try.results62 rfl) rfl ⟨by rw [e]; rfl, hb6⟩
  refine lv (.bool false) (by exact ex_gtr (by exact rfl) (by exact rfl) (by exact rfl) (decide_eq_false (by first | assumption | omega | decide))) ?_
  simp only [lay]
  refine lv (.bool false) (by exact xp (b := false)) ?_
  simp only [lay]
  refine lv (.bool false) (by exact xp (b := true)) ?_
  simp only [lay]
  refine lv (.bool false) (by exact xa) ?_
  simp only [lay]
  refine wn ?_
  refine wp_ret ?_
  try simp only [Exit.then]
  have e : d.part = false := by unfold D6.part; simp [*]; try omega
  exact bodyPost_ret (res_one Try.results62 rfl) rfl ⟨by rw [e]; rfl, hb6⟩
 replace q8 := eq_false_of_ne_true q8
 rw [q8]
 refine lzn ?_
 simp only [lay]
 refine lzn ?_
 simp only [lay]
 refine lzn ?_
 simp only [lay]
 refine lzn ?_
 simp only [lay]
 refine lzn ?_
 simp only [lay]
 refine lzn ?_
 simp only [lay]
 refine lzn ?_
 simp only [lay]
 refine lv (.bool false) (by exact xp (b := false)) ?_
 simp only [lay]
 refine lv (.bool false) (by exact xa) ?_
 simp only [lay]
 refine wn ?_
 refine wp_ret ?_
 try simp only [Exit.then]
 have e : d.part = false := by unfold D6.part; simp [*]; try omega
 exact bodyPost_ret (res_one Try.results62 rfl) rfl ⟨by rw [e]; rfl, hb6⟩
set_option maxRecDepth 100000 in
set_option maxHeartbeats 1000000 in
theorem header18_any (d : D6) (hd : d.ok) (p : W6) (s t : List Int) (w : World) :
  Calls Try.prog 31 #[.agg (d.cells p), .agg (e4c s t)] w fun e w' => e = .returned (.agg ((head18 d s t []).cells pZ18)) ∧ Below w.heap.size w w' := by
 have r1 := hd.id
 go_enter Try.func31, Try.ntmps31
 refine wp_sr ?_
 refine lz (ow_box 28 (.tmp 0) _ rfl rfl ?_)
 intro g1 W2 hg3 ge4 sz5 hb6
 have z7 := hb6.size
 simp only [lay]
 refine lz (ow_box 32 (.tmp 1) _ rfl rfl ?_)
 intro g8 W9 hg10 ge11 sz12 hb13
 have z14 := hb13.size
 simp only [lay]
 refine lz (oa #[.int .u8 0, .int .u16 0, .bool false, .bool false, .int .i64 0, .int .u8 0, .int .u8 0, .int .u8 0, .int .u8 0, .int .u8 0, .int .u8 0, .int .u8 0, .int .u8 0, .int .u8 0, .int .u8 0, .slice none 0 0, .slice none 0 0] ?_)
 intro g15 W16 hg17 ge18 sz19 hb20
 have z21 := hb20.size
 simp only [lay]
 refine wn ?_
 refine wp_sr ?_
 refine lv (.pointer (some ⟨g1, 0, none⟩)) (by exact xf 0 0 Try.underlying28) ?_
 simp only [lay]
 have b22 := bt hb13 hb20
 have has23 := hg3.to b22
 refine lv (.int .u8 d.cls) (by exact xc Try.underlying5 (has23.cell 0 rfl)) ?_
 simp only [lay]
 refine lv (.pointer (some ⟨g1, 36, none⟩)) (by exact xf 36 0 Try.underlying28) ?_
 simp only [lay]
 refine lv (.bool d.frag) (by exact xc Try.underlying4 (has23.cell 36 rfl)) ?_
 simp only [lay]
 by_cases q24 : d.frag = true
 case pos =>
  rw [q24]
  refine lv (.bool false) (by exact ex_not (b := true) (by exact rfl) (by exact rfl)) ?_
  simp only [lay]
  refine lv (.pointer (some ⟨g1, 2, none⟩)) (by exact xf 2 0 Try.underlying28) ?_
  simp only [lay]
  refine lv (.int .u8 d.hop) (by exact xc Try.underlying5 (has23.cell 2 rfl)) ?_
  simp only [lay]
  refine lv (.pointer (some ⟨g1, 40, none⟩)) (by exact xf 40 0 Try.underlying28) ?_
  simp only [lay]
  refine lv (.int .u8 d.pro) (by exact xc Try.underlying5 (has23.cell 40 rfl)) ?_
  simp only [lay]
  refine lv (.pointer (some ⟨g8, 0, none⟩)) (by exact xf 0 3 Try.underlying32) ?_
  simp only [lay]
  have has25 := hg10.to hb20
  refine lv (.agg #[.int .u8 (s.getD 0 0), .int .u8 (s.getD 1 0), .int .u8 (s.getD 2 0), .int .u8 (s.getD 3 0)]) (by exact ex_loadAt (by exact rfl) (by exact rfl) (has25.loadIn (P := Try.prog) 0 [.int .u8 (s.getD 0 0), .int .u8 (s.getD 1 0), .int .u8 (s.getD 2 0), .int .u8 (s.getD 3 0)] (by kernel_rfl) 30 Try.underlying30 rfl (by kernel_rfl))) ?_
  simp only [lay]
  refine lv (.pointer (some ⟨g8, 4, none⟩)) (by exact xf 4 3 Try.underlying32) ?_
  simp only [lay]
  refine lv (.agg #[.int .u8 (t.getD 0 0), .int .u8 (t.getD 1 0), .int .u8 (t.getD 2 0), .int .u8 (t.getD 3 0)]) (by exact ex_loadAt (by exact rfl) (by exact rfl) (has25.loadIn (P := Try.prog) 4 [.int .u8 (t.getD 0 0), .int .u8 (t.getD 1 0), .int .u8 (t.getD 2 0), .int .u8 (t.getD 3 0)] (by kernel_rfl) 30 Try.underlying30 rfl (by kernel_rfl))) ?_
  simp only [lay]
  refine lv (.agg #[.int .u8 d.cls, .int .u16 0, .bool false, .bool false, .int .i64 0, .int .u8 d.hop, .int .u8 d.pro, .int .u8 (s.getD 0 0), .int .u8 (s.getD 1 0), .int .u8 (s.getD 2 0), .int .u8 (s.getD 3 0), .int .u8 (t.getD 0 0), .int .u8 (t.getD 1 0), .int .u8 (t.getD 2 0), .int .u8 (t.getD 3 0), .slice none 0 0, .slice none 0 0]) (by kernel_rfl) ?_
  simp only [lay]
  refine lz (oa #[.int .u8 0, .int .u16 0, .bool false, .bool false, .int .i64 0, .int .u8 0, .int .u8 0, .int .u8 0, .int .u8 0, .int .u8 0, .int .u8 0, .int .u8 0, .int .u8 0, .int .u8 0, .int .u8 0, .slice none 0 0, .slice none 0 0] ?_)
  intro g26 W27 hg28 ge29 sz30 hb31
  have z32 := hb31.size
  simp only [lay]
  refine lz (ow_st 35 (.tmp 5) (.tmp 19) g26 #[.int .u8 d.cls, .int .u16 0, .bool false, .bool false, .int .i64 0, .int .u8 d.hop, .int .u8 d.pro, .int .u8 (s.getD 0 0), .int .u8 (s.getD 1 0), .int .u8 (s.getD 2 0), .int .u8 (s.getD 3 0), .int .u8 (t.getD 0 0), .int .u8 (t.getD 1 0), .int .u8 (t.getD 2 0), .int .u8 (t.getD 3 0), .slice none 0 0, .slice none 0 0] _ _ rfl (by exact rfl) (by exact rfl) hg28 (by kernel_rfl) rfl (by kernel_rfl) ?_)
  intro W33 hg34 bs35 hb36
  have z37 := hb36.size
  simp only [lay]
  refine wn ?_
  refine wp_seq ?_
  refine wp_sr ?_
  refine lv (.pointer (some ⟨g1, 40, none⟩)) (by exact xf 40 0 Try.underlying28) ?_
  simp only [lay]
  have b38 := bt b22 hb31
  have l39 := lq b22 ge29
  have b40 := b38.trans (hb36.mono l39)
  have has41 := hg3.to b40
  refine lv (.int .u8 d.pro) (by exact xc Try.underlying5 (has41.cell 40 rfl)) ?_
  simp only [lay]
  by_cases q42 : d.pro = 58
  case pos =>
   refine lv (.bool true) (by exact yq) ?_
   simp only [lay]
   refine wn ?_
   refine cT9 ?_
   refine wp_region_lit ?_
   refine lv (.pointer (some ⟨g26, 6, none⟩)) (by exact xf 6 0 Try.underlying35) ?_
   simp only [lay]
   refine lz (ow_st1 5 (.tmp 23) (.const (.int .u8 1)) g26 6 (.int .u8 1) _ #[.int .u8 d.cls, .int .u16 0, .bool false, .bool false, .int .i64 0, .int .u8 d.hop, .int .u8 1, .int .u8 (s.getD 0 0), .int .u8 (s.getD 1 0), .int .u8 (s.getD 2 0), .int .u8 (s.getD 3 0), .int .u8 (t.getD 0 0), .int .u8 (t.getD 1 0), .int .u8 (t.getD 2 0), .int .u8 (t.getD 3 0), .slice none 0 0, .slice none 0 0] _ rfl (by exact rfl) (by exact rfl) rfl (by kernel_rfl) hg34 rfl rfl (by kernel_rfl) ?_)
   intro W43 hg44 bs45 hb46
   have z47 := hb46.size
   simp only [lay]
   refine wn ?_
   refine wp_seq ?_
   refine wp_sr ?_
   refine lv (.pointer (some ⟨g1, 36, none⟩)) (by exact xf 36 0 Try.underlying28) ?_
   simp only [lay]
   have b48 := b40.trans (hb46.mono l39)
   have has49 := hg3.to b48
   refine lv (.bool d.frag) (by exact xc Try.underlying4 (has49.cell 36 rfl)) ?_
   simp only [lay]
   refine wn ?_
   rw [show d.frag = true from by assumption]
   refine cT9 ?_
   refine rg_drawn g26 (by kernel_rfl) (by omega) ?_
   intro W51 hb52 hs53 hS54
   have z55 := hb52.size
   refine te 0 (.pointer (some ⟨g1, 37, none⟩)) hS54 rfl (by intro _ _; exact xf 37 0 Try.underlying28) ?_
   simp only [lay]
   refine te 1 (.int .u32 d.id) hS54 rfl (by intro _ h; exact xc Try.underlying22 ((hg3.to (b48.trans (Below.mono h l39))).cell 37 rfl)) ?_
   simp only [lay]
   refine te 2 (.int .u16 (d.id % 65536)) hS54 rfl (by intro _ _; exact xv (conv_u16m _ _ _ _ (by kernel_rfl) Try.underlying33 _)) ?_
   simp only [lay]
   refine te 3 (.pointer (some ⟨g1, 38, none⟩)) hS54 rfl (by intro _ _; exact xf 38 0 Try.underlying28) ?_
   simp only [lay]
   refine te 4 (.int .i64 d.off) hS54 rfl (by intro _ h; exact xc Try.underlying3 ((hg3.to (b48.trans (Below.mono h l39))).cell 38 rfl)) ?_
   simp only [lay]
   refine te 5 (.pointer (some ⟨g1, 39, none⟩)) hS54 rfl (by intro _ _; exact xf 39 0 Try.underlying28) ?_
   simp only [lay]
   refine te 6 (.bool d.more) hS54 rfl (by intro _ h; exact xc Try.underlying4 ((hg3.to (b48.trans (Below.mono h l39))).cell 39 rfl)) ?_
   simp only [lay]
   refine te 7 (.pointer (some ⟨g26, 1, none⟩)) hS54 rfl (by intro _ _; exact xf 1 0 Try.underlying35) ?_
   simp only [lay]
   have has60 := hg44.to hb52
   refine t1 8 rfl (ow_st1 33 (.tmp 33) (.tmp 28) g26 1 (.int .u16 (d.id % 65536)) _ #[.int .u8 d.cls, .int .u16 (d.id % 65536), .bool false, .bool false, .int .i64 0, .int .u8 d.hop, .int .u8 1, .int .u8 (s.getD 0 0), .int .u8 (s.getD 1 0), .int .u8 (s.getD 2 0), .int .u8 (s.getD 3 0), .int .u8 (t.getD 0 0), .int .u8 (t.getD 1 0), .int .u8 (t.getD 2 0), .int .u8 (t.getD 3 0), .slice none 0 0, .slice none 0 0] _ rfl (by exact rfl) (by exact rfl) rfl (by kernel_rfl) has60 rfl rfl (by kernel_rfl) ?_)
   intro W56 hg57 bs58 hb59
   have z61 := hb59.size
   refine ⟨(Below.trans hS54 hb59), ?_⟩
   have hS62 := (Below.trans hS54 hb59)
   simp only [lay]
   refine te 9 (.pointer (some ⟨g26, 4, none⟩)) hS62 rfl (by intro _ _; exact xf 4 0 Try.underlying35) ?_
   simp only [lay]
   refine t1 10 rfl (ow_st1 3 (.tmp 34) (.tmp 30) g26 4 (.int .i64 d.off) _ #[.int .u8 d.cls, .int .u16 (d.id % 65536), .bool false, .bool false, .int .i64 d.off, .int .u8 d.hop, .int .u8 1, .int .u8 (s.getD 0 0), .int .u8 (s.getD 1 0), .int .u8 (s.getD 2 0), .int .u8 (s.getD 3 0), .int .u8 (t.getD 0 0), .int .u8 (t.getD 1 0), .int .u8 (t.getD 2 0), .int .u8 (t.getD 3 0), .slice none 0 0, .slice none 0 0] _ rfl (by exact rfl) (by exact rfl) rfl (by kernel_rfl) hg57 rfl rfl (by kernel_rfl) ?_)
   intro W63 hg64 bs65 hb66
   have z67 := hb66.size
   refine ⟨(Below.trans hS62 hb66), ?_⟩
   have hS68 := (Below.trans hS62 hb66)
   simp only [lay]
   refine te 11 (.pointer (some ⟨g26, 3, none⟩)) hS68 rfl (by intro _ _; exact xf 3 0 Try.underlying35) ?_
   simp only [lay]
   refine t1 12 rfl (ow_st1 4 (.tmp 35) (.tmp 32) g26 3 (.bool d.more) _ #[.int .u8 d.cls, .int .u16 (d.id % 65536), .bool false, .bool d.more, .int .i64 d.off, .int .u8 d.hop, .int .u8 1, .int .u8 (s.getD 0 0), .int .u8 (s.getD 1 0), .int .u8 (s.getD 2 0), .int .u8 (s.getD 3 0), .int .u8 (t.getD 0 0), .int .u8 (t.getD 1 0), .int .u8 (t.getD 2 0), .int .u8 (t.getD 3 0), .slice none 0 0, .slice none 0 0] _ rfl (by exact rfl) (by exact rfl) rfl (by kernel_rfl) hg64 rfl rfl (by kernel_rfl) ?_)
   intro W69 hg70 bs71 hb72
   have z73 := hb72.size
   refine ⟨(Below.trans hS68 hb72), ?_⟩
   have hS74 := (Below.trans hS68 hb72)
   simp only [lay]
   refine wpAnyH_done (by kernel_rfl) ?_ _
   change Code.wp _ _ _ _ _
   refine wp_sr ?_
   refine lv (.agg #[.int .u8 d.cls, .int .u16 (d.id % 65536), .bool false, .bool d.more, .int .i64 d.off, .int .u8 d.hop, .int .u8 1, .int .u8 (s.getD 0 0), .int .u8 (s.getD 1 0), .int .u8 (s.getD 2 0), .int .u8 (s.getD 3 0), .int .u8 (t.getD 0 0), .int .u8 (t.getD 1 0), .int .u8 (t.getD 2 0), .int .u8 (t.getD 3 0), .slice none 0 0, .slice none 0 0]) (by exact xo (hg70.load (P := Try.prog) 35 Try.underlying35 rfl (by kernel_rfl))) ?_
   simp only [lay]
   have l79 : W16.heap.size ≤ g26 := Nat.le_of_eq ge29.symm
   have b80 := hb31.trans (hb36.mono l79)
   have b81 := b80.trans (hb46.mono l79)
   have b82 := bt b81 hb52
   have b83 := b82.trans (hb59.mono l79)
   have b84 := b83.trans (hb66.mono l79)
   have b85 := b84.trans (hb72.mono l79)
   have has86 := hg17.to b85
   refine lz (ow_st 35 (.tmp 4) (.tmp 36) g15 #[.int .u8 d.cls, .int .u16 (d.id % 65536), .bool false, .bool d.more, .int .i64 d.off, .int .u8 d.hop, .int .u8 1, .int .u8 (s.getD 0 0), .int .u8 (s.getD 1 0), .int .u8 (s.getD 2 0), .int .u8 (s.getD 3 0), .int .u8 (t.getD 0 0), .int .u8 (t.getD 1 0), .int .u8 (t.getD 2 0), .int .u8 (t.getD 3 0), .slice none 0 0, .slice none 0 0] _ _ rfl (by exact rfl) (by exact rfl) has86 (by kernel_rfl) rfl (by kernel_rfl) ?_)
   intro W75 hg76 bs77 hb78
   have z87 := hb78.size
   have has88 := hg70.but6 bs77 (by omega)
   simp only [lay]
   refine wn ?_
   refine wp_ret ?_
   try simp only [Exit.then]
   have e : (head18 d s t []).cells pZ18 = #[.int .u8 d.cls, .int .u16 (d.id % 65536), .bool false, .bool d.more, .int .i64 d.off, .int .u8 d.hop, .int .u8 1, .int .u8 (s.getD 0 0), .int .u8 (s.getD 1 0), .int .u8 (s.getD 2 0), .int .u8 (s.getD 3 0), .int .u8 (t.getD 0 0), .int .u8 (t.getD 1 0), .int .u8 (t.getD 2 0), .int .u8 (t.getD 3 0), .slice none 0 0, .slice none 0 0] := by simp only [head18, pro18, *, if_true, if_false, Bool.false_eq_true]; rfl
   have b89 := bt hb6 hb13
   have b90 := bt b89 hb20
   have b91 := bt b90 hb31
   have l92 := lq b90 ge29
   have b93 := b91.trans (hb36.mono l92)
   have b94 := b93.trans (hb46.mono l92)
   have b95 := bt b94 hb52
   have b96 := b95.trans (hb59.mono l92)
   have b97 := b96.trans (hb66.mono l92)
   have b98 := b97.trans (hb72.mono l92)
   have l99 := lq b89 ge18
   have b100 := b98.trans (hb78.mono l99)
   exact bodyPost_ret (res_cell Try.results31 rfl (hg76.load (P := Try.prog) 35 Try.underlying35 rfl (by kernel_rfl))) rfl ⟨by rw [e], b100⟩
  refine lv (.bool false) (by exact yqn) ?_
  simp only [lay]
  refine wn ?_
  refine cF9 ?_
  refine wp_skip ?_
  change Code.wp _ _ _ _ _
  refine wp_seq ?_
  refine wp_sr ?_
  refine lv (.pointer (some ⟨g1, 36, none⟩)) (by exact xf 36 0 Try.underlying28) ?_
  simp only [lay]
  refine lv (.bool d.frag) (by exact xc Try.underlying4 (has41.cell 36 rfl)) ?_
  simp only [lay]
  refine wn ?_
  rw [show d.frag = true from by assumption]
  refine cT9 ?_
  refine rg_drawn g26 (by kernel_rfl) (by omega) ?_
  intro W102 hb103 hs104 hS105
  have z106 := hb103.size
  refine te 0 (.pointer (some ⟨g1, 37, none⟩)) hS105 rfl (by intro _ _; exact xf 37 0 Try.underlying28) ?_
  simp only [lay]
  refine te 1 (.int .u32 d.id) hS105 rfl (by intro _ h; exact xc Try.underlying22 ((hg3.to (b40.trans (Below.mono h l39))).cell 37 rfl)) ?_
  simp only [lay]
  refine te 2 (.int .u16 (d.id % 65536)) hS105 rfl (by intro _ _; exact xv (conv_u16m _ _ _ _ (by kernel_rfl) Try.underlying33 _)) ?_
  simp only [lay]
  refine te 3 (.pointer (some ⟨g1, 38, none⟩)) hS105 rfl (by intro _ _; exact xf 38 0 Try.underlying28) ?_
  simp only [lay]
  refine te 4 (.int .i64 d.off) hS105 rfl (by intro _ h; exact xc Try.underlying3 ((hg3.to (b40.trans (Below.mono h l39))).cell 38 rfl)) ?_
  simp only [lay]
  refine te 5 (.pointer (some ⟨g1, 39, none⟩)) hS105 rfl (by intro _ _; exact xf 39 0 Try.underlying28) ?_
  simp only [lay]
  refine te 6 (.bool d.more) hS105 rfl (by intro _ h; exact xc Try.underlying4 ((hg3.to (b40.trans (Below.mono h l39))).cell 39 rfl)) ?_
  simp only [lay]
  refine te 7 (.pointer (some ⟨g26, 1, none⟩)) hS105 rfl (by intro _ _; exact xf 1 0 Try.underlying35) ?_
  simp only [lay]
  have has111 := hg34.to hb103
  refine t1 8 rfl (ow_st1 33 (.tmp 33) (.tmp 28) g26 1 (.int .u16 (d.id % 65536)) _ #[.int .u8 d.cls, .int .u16 (d.id % 65536), .bool false, .bool false, .int .i64 0, .int .u8 d.hop, .int .u8 d.pro, .int .u8 (s.getD 0 0), .int .u8 (s.getD 1 0), .int .u8 (s.getD 2 0), .int .u8 (s.getD 3 0), .int .u8 (t.getD 0 0), .int .u8 (t.getD 1 0), .int .u8 (t.getD 2 0), .int .u8 (t.getD 3 0), .slice none 0 0, .slice none 0 0] _ rfl (by exact rfl) (by exact rfl) rfl (by kernel_rfl) has111 rfl rfl (by kernel_rfl) ?_)
  intro W107 hg108 bs109 hb110
  have z112 := hb110.size
  refine ⟨(Below.trans hS105 hb110), ?_⟩
  have hS113 := (Below.trans hS105 hb110)
  simp only [lay]
  refine te 9 (.pointer (some ⟨g26, 4, none⟩)) hS113 rfl (by intro _ _; exact xf 4 0 Try.underlying35) ?_
  simp only [lay]
  refine t1 10 rfl (ow_st1 3 (.tmp 34) (.tmp 30) g26 4 (.int .i64 d.off) _ #[.int .u8 d.cls, .int .u16 (d.id % 65536), .bool false, .bool false, .int .i64 d.off, .int .u8 d.hop, .int .u8 d.pro, .int .u8 (s.getD 0 0), .int .u8 (s.getD 1 0), .int .u8 (s.getD 2 0), .int .u8 (s.getD 3 0), .int .u8 (t.getD 0 0), .int .u8 (t.getD 1 0), .int .u8 (t.getD 2 0), .int .u8 (t.getD 3 0), .slice none 0 0, .slice none 0 0] _ rfl (by exact rfl) (by exact rfl) rfl (by kernel_rfl) hg108 rfl rfl (by kernel_rfl) ?_)
  intro W114 hg115 bs116 hb117
  have z118 := hb117.size
  refine ⟨(Below.trans hS113 hb117), ?_⟩
  have hS119 := (Below.trans hS113 hb117)
  simp only [lay]
  refine te 11 (.pointer (some ⟨g26, 3, none⟩)) hS119 rfl (by intro _ _; exact xf 3 0 Try.underlying35) ?_
  simp only [lay]
  refine t1 12 rfl (ow_st1 4 (.tmp 35) (.tmp 32) g26 3 (.bool d.more) _ #[.int .u8 d.cls, .int .u16 (d.id % 65536), .bool false, .bool d.more, .int .i64 d.off, .int .u8 d.hop, .int .u8 d.pro, .int .u8 (s.getD 0 0), .int .u8 (s.getD 1 0), .int .u8 (s.getD 2 0), .int .u8 (s.getD 3 0), .int .u8 (t.getD 0 0), .int .u8 (t.getD 1 0), .int .u8 (t.getD 2 0), .int .u8 (t.getD 3 0), .slice none 0 0, .slice none 0 0] _ rfl (by exact rfl) (by exact rfl) rfl (by kernel_rfl) hg115 rfl rfl (by kernel_rfl) ?_)
  intro W120 hg121 bs122 hb123
  have z124 := hb123.size
  refine ⟨(Below.trans hS119 hb123), ?_⟩
  have hS125 := (Below.trans hS119 hb123)
  simp only [lay]
  refine wpAnyH_done (by kernel_rfl) ?_ _
  change Code.wp _ _ _ _ _
  refine wp_sr ?_
  refine lv (.agg #[.int .u8 d.cls, .int .u16 (d.id % 65536), .bool false, .bool d.more, .int .i64 d.off, .int .u8 d.hop, .int .u8 d.pro, .int .u8 (s.getD 0 0), .int .u8 (s.getD 1 0), .int .u8 (s.getD 2 0), .int .u8 (s.getD 3 0), .int .u8 (t.getD 0 0), .int .u8 (t.getD 1 0), .int .u8 (t.getD 2 0), .int .u8 (t.getD 3 0), .slice none 0 0, .slice none 0 0]) (by exact xo (hg121.load (P := Try.prog) 35 Try.underlying35 rfl (by kernel_rfl))) ?_
  simp only [lay]
  have l130 : W16.heap.size ≤ g26 := Nat.le_of_eq ge29.symm
  have b131 := hb31.trans (hb36.mono l130)
  have b132 := bt b131 hb103
  have b133 := b132.trans (hb110.mono l130)
  have b134 := b133.trans (hb117.mono l130)
  have b135 := b134.trans (hb123.mono l130)
  have has136 := hg17.to b135
  refine lz (ow_st 35 (.tmp 4) (.tmp 36) g15 #[.int .u8 d.cls, .int .u16 (d.id % 65536), .bool false, .bool d.more, .int .i64 d.off, .int .u8 d.hop, .int .u8 d.pro, .int .u8 (s.getD 0 0), .int .u8 (s.getD 1 0), .int .u8 (s.getD 2 0), .int .u8 (s.getD 3 0), .int .u8 (t.getD 0 0), .int .u8 (t.getD 1 0), .int .u8 (t.getD 2 0), .int .u8 (t.getD 3 0), .slice none 0 0, .slice none 0 0] _ _ rfl (by exact rfl) (by exact rfl) has136 (by kernel_rfl) rfl (by kernel_rfl) ?_)
  intro W126 hg127 bs128 hb129
  have z137 := hb129.size
  have has138 := hg121.but6 bs128 (by omega)
  simp only [lay]
  refine wn ?_
  refine wp_ret ?_
  try simp only [Exit.then]
  have e : (head18 d s t []).cells pZ18 = #[.int .u8 d.cls, .int .u16 (d.id % 65536), .bool false, .bool d.more, .int .i64 d.off, .int .u8 d.hop, .int .u8 d.pro, .int .u8 (s.getD 0 0), .int .u8 (s.getD 1 0), .int .u8 (s.getD 2 0), .int .u8 (s.getD 3 0), .int .u8 (t.getD 0 0), .int .u8 (t.getD 1 0), .int .u8 (t.getD 2 0), .int .u8 (t.getD 3 0), .slice none 0 0, .slice none 0 0] := by simp only [head18, pro18, *, if_true, if_false, Bool.false_eq_true]; rfl
  have b139 := bt hb6 hb13
  have b140 := bt b139 hb20
  have b141 := bt b140 hb31
  have l142 := lq b140 ge29
  have b143 := b141.trans (hb36.mono l142)
  have b144 := bt b143 hb103
  have b145 := b144.trans (hb110.mono l142)
  have b146 := b145.trans (hb117.mono l142)
  have b147 := b146.trans (hb123.mono l142)
  have l148 := lq b139 ge18
  have b149 := b147.trans (hb129.mono l148)
  exact bodyPost_ret (res_cell Try.results31 rfl (hg127.load (P := Try.prog) 35 Try.underlying35 rfl (by kernel_rfl))) rfl ⟨by rw [e], b149⟩
 replace q24 := eq_false_of_ne_true q24
 rw [q24]
 refine lv (.bool true) (by exact ex_not (b := false) (by exact rfl) (by exact rfl)) ?_
 simp only [lay]
 refine lv (.pointer (some ⟨g1, 2, none⟩)) (by exact xf 2 0 Try.underlying28) ?_
 simp only [lay]
 refine lv (.int .u8 d.hop) (by exact xc Try.underlying5 (has23.cell 2 rfl)) ?_
 simp only [lay]
 refine lv (.pointer (some ⟨g1, 40, none⟩)) (by exact xf 40 0 Try.underlying28) ?_
 simp only [lay]
 refine lv (.int .u8 d.pro) (by exact xc Try.underlying5 (has23.cell 40 rfl)) ?_
 simp only [lay]
 refine lv (.pointer (some ⟨g8, 0, none⟩)) (by exact xf 0 3 Try.underlying32) ?_
 simp only [lay]
 have has150 := hg10.to hb20
 refine lv (.agg #[.int .u8 (s.getD 0 0), .int .u8 (s.getD 1 0), .int .u8 (s.getD 2 0), .int .u8 (s.getD 3 0)]) (by exact ex_loadAt (by exact rfl) (by exact rfl) (has150.loadIn (P := Try.prog) 0 [.int .u8 (s.getD 0 0), .int .u8 (s.getD 1 0), .int .u8 (s.getD 2 0), .int .u8 (s.getD 3 0)] (by kernel_rfl) 30 Try.underlying30 rfl (by kernel_rfl))) ?_
 simp only [lay]
 refine lv (.pointer (some ⟨g8, 4, none⟩)) (by exact xf 4 3 Try.underlying32) ?_
 simp only [lay]
 refine lv (.agg #[.int .u8 (t.getD 0 0), .int .u8 (t.getD 1 0), .int .u8 (t.getD 2 0), .int .u8 (t.getD 3 0)]) (by exact ex_loadAt (by exact rfl) (by exact rfl) (has150.loadIn (P := Try.prog) 4 [.int .u8 (t.getD 0 0), .int .u8 (t.getD 1 0), .int .u8 (t.getD 2 0), .int .u8 (t.getD 3 0)] (by kernel_rfl) 30 Try.underlying30 rfl (by kernel_rfl))) ?_
 simp only [lay]
 refine lv (.agg #[.int .u8 d.cls, .int .u16 0, .bool true, .bool false, .int .i64 0, .int .u8 d.hop, .int .u8 d.pro, .int .u8 (s.getD 0 0), .int .u8 (s.getD 1 0), .int .u8 (s.getD 2 0), .int .u8 (s.getD 3 0), .int .u8 (t.getD 0 0), .int .u8 (t.getD 1 0), .int .u8 (t.getD 2 0), .int .u8 (t.getD 3 0), .slice none 0 0, .slice none 0 0]) (by kernel_rfl) ?_
 simp only [lay]
 refine lz (oa #[.int .u8 0, .int .u16 0, .bool false, .bool false, .int .i64 0, .int .u8 0, .int .u8 0, .int .u8 0, .int .u8 0, .int .u8 0, .int .u8 0, .int .u8 0, .int .u8 0, .int .u8 0, .int .u8 0, .slice none 0 0, .slice none 0 0] ?_)
 intro g151 W152 hg153 ge154 sz155 hb156
 have z157 := hb156.size
 simp only [lay]
 refine lz (ow_st 35 (.tmp 5) (.tmp 19) g151 #[.int .u8 d.cls, .int .u16 0, .bool true, .bool false, .int .i64 0, .int .u8 d.hop, .int .u8 d.pro, .int .u8 (s.getD 0 0), .int .u8 (s.getD 1 0), .int .u8 (s.getD 2 0), .int .u8 (s.getD 3 0), .int .u8 (t.getD 0 0), .int .u8 (t.getD 1 0), .int .u8 (t.getD 2 0), .int .u8 (t.getD 3 0), .slice none 0 0, .slice none 0 0] _ _ rfl (by exact rfl) (by exact rfl) hg153 (by kernel_rfl) rfl (by kernel_rfl) ?_)
 intro W158 hg159 bs160 hb161
 have z162 := hb161.size
 simp only [lay]
 refine wn ?_
 refine wp_seq ?_
 refine wp_sr ?_
 refine lv (.pointer (some ⟨g1, 40, none⟩)) (by exact xf 40 0 Try.underlying28) ?_
 simp only [lay]
 have b163 := bt b22 hb156
 have l164 := lq b22 ge154
 have b165 := b163.trans (hb161.mono l164)
 have has166 := hg3.to b165
 refine lv (.int .u8 d.pro) (by exact xc Try.underlying5 (has166.cell 40 rfl)) ?_
 simp only [lay]
 by_cases q167 : d.pro = 58
 case pos =>
  refine lv (.bool true) (by exact yq) ?_
  simp only [lay]
  refine wn ?_
  refine cT9 ?_
  refine wp_region_lit ?_
  refine lv (.pointer (some ⟨g151, 6, none⟩)) (by exact xf 6 0 Try.underlying35) ?_
  simp only [lay]
  refine lz (ow_st1 5 (.tmp 23) (.const (.int .u8 1)) g151 6 (.int .u8 1) _ #[.int .u8 d.cls, .int .u16 0, .bool true, .bool false, .int .i64 0, .int .u8 d.hop, .int .u8 1, .int .u8 (s.getD 0 0), .int .u8 (s.getD 1 0), .int .u8 (s.getD 2 0), .int .u8 (s.getD 3 0), .int .u8 (t.getD 0 0), .int .u8 (t.getD 1 0), .int .u8 (t.getD 2 0), .int .u8 (t.getD 3 0), .slice none 0 0, .slice none 0 0] _ rfl (by exact rfl) (by exact rfl) rfl (by kernel_rfl) hg159 rfl rfl (by kernel_rfl) ?_)
  intro W168 hg169 bs170 hb171
  have z172 := hb171.size
  simp only [lay]
  refine wn ?_
  refine wp_seq ?_
  refine wp_sr ?_
  refine lv (.pointer (some ⟨g1, 36, none⟩)) (by exact xf 36 0 Try.underlying28) ?_
  simp only [lay]
  have b173 := b165.trans (hb171.mono l164)
  have has174 := hg3.to b173
  refine lv (.bool d.frag) (by exact xc Try.underlying4 (has174.cell 36 rfl)) ?_
  simp only [lay]
  refine wn ?_
  rw [show d.frag = false from by assumption]
  refine cF9 ?_
  refine wp_skip ?_
  change Code.wp _ _ _ _ _
  refine wp_sr ?_
  refine lv (.agg #[.int .u8 d.cls, .int .u16 0, .bool true, .bool false, .int .i64 0, .int .u8 d.hop, .int .u8 1, .int .u8 (s.getD 0 0), .int .u8 (s.getD 1 0), .int .u8 (s.getD 2 0), .int .u8 (s.getD 3 0), .int .u8 (t.getD 0 0), .int .u8 (t.getD 1 0), .int .u8 (t.getD 2 0), .int .u8 (t.getD 3 0), .slice none 0 0, .slice none 0 0]) (by exact xo (hg169.load (P := Try.prog) 35 Try.underlying35 rfl (by kernel_rfl))) ?_
  simp only [lay]
  have l180 : W16.heap.size ≤ g151 := Nat.le_of_eq ge154.symm
  have b181 := hb156.trans (hb161.mono l180)
  have b182 := b181.trans (hb171.mono l180)
  have has183 := hg17.to b182
  refine lz (ow_st 35 (.tmp 4) (.tmp 36) g15 #[.int .u8 d.cls, .int .u16 0, .bool true, .bool false, .int .i64 0, .int .u8 d.hop, .int .u8 1, .int .u8 (s.getD 0 0), .int .u8 (s.getD 1 0), .int .u8 (s.getD 2 0), .int .u8 (s.getD 3 0), .int .u8 (t.getD 0 0), .int .u8 (t.getD 1 0), .int .u8 (t.getD 2 0), .int .u8 (t.getD 3 0), .slice none 0 0, .slice none 0 0] _ _ rfl (by exact rfl) (by exact rfl) has183 (by kernel_rfl) rfl (by kernel_rfl) ?_)
  intro W176 hg177 bs178 hb179
  have z184 := hb179.size
  have has185 := hg169.but6 bs178 (by omega)
  simp only [lay]
  refine wn ?_
  refine wp_ret ?_
  try simp only [Exit.then]
  have e : (head18 d s t []).cells pZ18 = #[.int .u8 d.cls, .int .u16 0, .bool true, .bool false, .int .i64 0, .int .u8 d.hop, .int .u8 1, .int .u8 (s.getD 0 0), .int .u8 (s.getD 1 0), .int .u8 (s.getD 2 0), .int .u8 (s.getD 3 0), .int .u8 (t.getD 0 0), .int .u8 (t.getD 1 0), .int .u8 (t.getD 2 0), .int .u8 (t.getD 3 0), .slice none 0 0, .slice none 0 0] := by simp only [head18, pro18, *, if_true, if_false, Bool.false_eq_true]; rfl
  have b186 := bt hb6 hb13
  have b187 := bt b186 hb20
  have b188 := bt b187 hb156
  have l189 := lq b187 ge154
  have b190 := b188.trans (hb161.mono l189)
  have b191 := b190.trans (hb171.mono l189)
  have l192 := lq b186 ge18
  have b193 := b191.trans (hb179.mono l192)
  exact bodyPost_ret (res_cell Try.results31 rfl (hg177.load (P := Try.prog) 35 Try.underlying35 rfl (by kernel_rfl))) rfl ⟨by rw [e], b193⟩
 refine lv (.bool false) (by exact yqn) ?_
 simp only [lay]
 refine wn ?_
 refine cF9 ?_
 refine wp_skip ?_
 change Code.wp _ _ _ _ _
 refine wp_seq ?_
 refine wp_sr ?_
 refine lv (.pointer (some ⟨g1, 36, none⟩)) (by exact xf 36 0 Try.underlying28) ?_
 simp only [lay]
 refine lv (.bool d.frag) (by exact xc Try.underlying4 (has166.cell 36 rfl)) ?_
 simp only [lay]
 refine wn ?_
 rw [show d.frag = false from by assumption]
 refine cF9 ?_
 refine wp_skip ?_
 change Code.wp _ _ _ _ _
 refine wp_sr ?_
 refine lv (.agg #[.int .u8 d.cls, .int .u16 0, .bool true, .bool false, .int .i64 0, .int .u8 d.hop, .int .u8 d.pro, .int .u8 (s.getD 0 0), .int .u8 (s.getD 1 0), .int .u8 (s.getD 2 0), .int .u8 (s.getD 3 0), .int .u8 (t.getD 0 0), .int .u8 (t.getD 1 0), .int .u8 (t.getD 2 0), .int .u8 (t.getD 3 0), .slice none 0 0, .slice none 0 0]) (by exact xo (hg159.load (P := Try.prog) 35 Try.underlying35 rfl (by kernel_rfl))) ?_
 simp only [lay]
 have l199 : W16.heap.size ≤ g151 := Nat.le_of_eq ge154.symm
 have b200 := hb156.trans (hb161.mono l199)
 have has201 := hg17.to b200
 refine lz (ow_st 35 (.tmp 4) (.tmp 36) g15 #[.int .u8 d.cls, .int .u16 0, .bool true, .bool false, .int .i64 0, .int .u8 d.hop, .int .u8 d.pro, .int .u8 (s.getD 0 0), .int .u8 (s.getD 1 0), .int .u8 (s.getD 2 0), .int .u8 (s.getD 3 0), .int .u8 (t.getD 0 0), .int .u8 (t.getD 1 0), .int .u8 (t.getD 2 0), .int .u8 (t.getD 3 0), .slice none 0 0, .slice none 0 0] _ _ rfl (by exact rfl) (by exact rfl) has201 (by kernel_rfl) rfl (by kernel_rfl) ?_)
 intro W195 hg196 bs197 hb198
 have z202 := hb198.size
 have has203 := hg159.but6 bs197 (by omega)
 simp only [lay]
 refine wn ?_
 refine wp_ret ?_
 try simp only [Exit.then]
 have e : (head18 d s t []).cells pZ18 = #[.int .u8 d.cls, .int .u16 0, .bool true, .bool false, .int .i64 0, .int .u8 d.hop, .int .u8 d.pro, .int .u8 (s.getD 0 0), .int .u8 (s.getD 1 0), .int .u8 (s.getD 2 0), .int .u8 (s.getD 3 0), .int .u8 (t.getD 0 0), .int .u8 (t.getD 1 0), .int .u8 (t.getD 2 0), .int .u8 (t.getD 3 0), .slice none 0 0, .slice none 0 0] := by simp only [head18, pro18, *, if_true, if_false, Bool.false_eq_true]; rfl
 have b204 := bt hb6 hb13
 have b205 := bt b204 hb20
 have b206 := bt b205 hb156
 have l207 := lq b205 ge154
 have b208 := b206.trans (hb161.mono l207)
 have l209 := lq b204 ge18
 have b210 := b208.trans (hb198.mono l209)
 exact bodyPost_ret (res_cell Try.results31 rfl (hg196.load (P := Try.prog) 35 Try.underlying35 rfl (by kernel_rfl))) rfl ⟨by rw [e], b210⟩
set_option maxRecDepth 100000 in
set_option maxHeartbeats 1000000 in
theorem two18_any (A : Option Addr) (n c : Nat) (l : List Int) (k : Nat) (w : World) (y : By w.heap.size w A n c l) (hk : k + 2 ≤ n) (hn : k ≤ 65536) :
  Calls Try.prog 50 #[.slice A n c, .int .i64 (k : Int)] w fun e w' => e = .returned (.int .u16 (two17 l k)) ∧ Below w.heap.size w w' := by
 go_enter Try.func50, Try.ntmps50
 refine wp_sr ?_
 refine lv (.int .u16 0) (by exact xa) ?_
 simp only [lay]
 refine wn ?_
 refine wp_seq ?_
 refine rg_drawn w.heap.size (by kernel_rfl) (Nat.le_refl _) ?_
 intro W1 hb2 hs3 hS4
 have z5 := hb2.size
 refine te 0 (.slice A n c) hS4 rfl (by intro _ _; exact xm) ?_
 simp only [lay]
 refine te 1 (.int .i64 (k : Int)) hS4 rfl (by intro _ _; exact xm) ?_
 simp only [lay]
 obtain ⟨b6, o7, hA8⟩ := y.form (k := k) (by omega)
 refine te 2 (.pointer (some ⟨b6, o7 + k, none⟩)) hS4 rfl (by intro _ _; exact ex_indexE (k := k) (by exact rfl) Try.underlying26 (by kernel_rfl) (by exact rfl) (by exact rfl) hA8 (by omega)) ?_
 simp only [lay]
 refine te 3 (.int .u8 (l.getD k 0)) hS4 rfl (by intro _ h; exact xc Try.underlying5 ((y.to h).atE (k := k) hA8 (by omega))) ?_
 simp only [lay]
 refine te 4 (.int .u16 (l.getD k 0)) hS4 rfl (by intro _ _; exact xv (conv_u16 5 33 .u8 (l.getD k 0) (by kernel_rfl) Try.underlying33 (in_rng (getD_byte y.rng k)).1 (in_rng (getD_byte y.rng k)).2.1 _)) ?_
 simp only [lay]
 refine te 5 (.int .u16 ((l.getD k 0) * 256)) hS4 rfl (by intro _ _; exact xb (b_shl8_u16 _ _ (getD_byte y.rng k) _)) ?_
 simp only [lay]
 refine te 6 (.slice A n c) hS4 rfl (by intro _ _; exact xm) ?_
 simp only [lay]
 refine te 7 (.int .i64 (k : Int)) hS4 rfl (by intro _ _; exact xm) ?_
 simp only [lay]
 refine te 8 (.int .i64 ((k + 1 : Nat) : Int)) hS4 rfl (by intro _ _; exact xb (add1_i64 _ k (by omega) _)) ?_
 simp only [lay]
 refine te 9 (.pointer (some ⟨b6, o7 + (k + 1), none⟩)) hS4 rfl (by intro _ _; exact ex_indexE (k := (k + 1)) (by exact rfl) Try.underlying26 (by kernel_rfl) (by exact rfl) (by exact rfl) hA8 (by omega)) ?_
 simp only [lay]
 refine te 10 (.int .u8 (l.getD (k + 1) 0)) hS4 rfl (by intro _ h; exact xc Try.underlying5 ((y.to h).atE (k := (k + 1)) hA8 (by omega))) ?_
 simp only [lay]
 refine te 11 (.int .u16 (l.getD (k + 1) 0)) hS4 rfl (by intro _ _; exact xv (conv_u16 5 33 .u8 (l.getD (k + 1) 0) (by kernel_rfl) Try.underlying33 (in_rng (getD_byte y.rng (k + 1))).1 (in_rng (getD_byte y.rng (k + 1))).2.1 _)) ?_
 simp only [lay]
 refine te 12 (.int .u16 ((l.getD k 0) * 256 + l.getD (k + 1) 0)) hS4 rfl (by intro _ _; exact xb (w_or16 _ _ _ (getD_byte y.rng k) (getD_byte y.rng (k + 1)) _)) ?_
 simp only [lay]
 refine te 13 (.int .u16 ((l.getD k 0) * 256 + l.getD (k + 1) 0)) hS4 rfl (by intro _ _; exact xa) ?_
 simp only [lay]
 refine wpAnyH_done (by kernel_rfl) ?_ _
 change Code.wp _ _ _ _ _
 refine wp_ret ?_
 try simp only [Exit.then]
 exact bodyPost_ret (res_one Try.results50 rfl) rfl ⟨rfl, hb2⟩
set_option maxRecDepth 100000 in
set_option maxHeartbeats 1000000 in
theorem set18_any (g n c base k : Nat) (v : Int) (hv : 0 ≤ v ∧ v < 65536) (l : List Int) (w : World) (hO : OwnB w base (.slice (some ⟨g, 0, none⟩) n c) l) (hk : k + 2 ≤ n) (hn : n ≤ 65536) :
  Calls Try.prog 52 #[.slice (some ⟨g, 0, none⟩) n c, .int .i64 (k : Int), .int .u16 v] w fun e w' => e = .returned (.tuple #[]) ∧ OwnB w' base (.slice (some ⟨g, 0, none⟩) n c) (put17 l k v) ∧ But6 g w w' ∧ Below g w w' := by
 go_enter Try.func52, Try.ntmps52
 refine wp_region_lit ?_
 refine lv (.slice (some ⟨g, 0, none⟩) n c) (by exact xm) ?_
 simp only [lay]
 refine lv (.int .i64 (k : Int)) (by exact xm) ?_
 simp only [lay]
 refine lv (.slice (some ⟨g, 0, none⟩) n c) (by exact xm) ?_
 simp only [lay]
 refine lv (.int .i64 (k : Int)) (by exact xm) ?_
 simp only [lay]
 refine lv (.int .i64 ((k + 1 : Nat) : Int)) (by exact xb (add1_i64 _ k (by omega) _)) ?_
 simp only [lay]
 refine lv (.int .u16 v) (by exact xm) ?_
 simp only [lay]
 refine lv (.int .u16 (v / 256)) (by exact xb (w_shr16 _ _ _)) ?_
 simp only [lay]
 refine lv (.int .u8 (v / 256)) (by exact xv (conv_u8' 33 5 .u16 (v / 256) (by kernel_rfl) Try.underlying5 (by omega) _)) ?_
 simp only [lay]
 refine lv (.int .u16 v) (by exact xm) ?_
 simp only [lay]
 refine lv (.int .u8 (v % 256)) (by exact xv (conv_u8 33 5 .u16 v (by kernel_rfl) Try.underlying5 _)) ?_
 simp only [lay]
 refine lv (.pointer (some ⟨g, 0 + k, none⟩)) (by exact ex_index (k := k) (by exact rfl) Try.underlying26 (by kernel_rfl) (by exact rfl) (by exact rfl) (show k < n by omega)) ?_
 simp only [lay]
 refine lz (ow_stB 5 (.tmp 16) (.tmp 13) g _ base n c (v / 256) _ rfl (by exact rfl) (by exact rfl) (by kernel_rfl) hO (by omega) (own_len hO) (by omega) ?_)
 intro W1 hO2 bs3 hb4
 have z5 := hb4.size
 simp only [lay]
 refine lv (.pointer (some ⟨g, 0 + (k + 1), none⟩)) (by exact ex_index (k := (k + 1)) (by exact rfl) Try.underlying26 (by kernel_rfl) (by exact rfl) (by exact rfl) (show (k + 1) < n by omega)) ?_
 simp only [lay]
 refine lz (ow_stB 5 (.tmp 17) (.tmp 15) g _ base n c (v % 256) _ rfl (by exact rfl) (by exact rfl) (by kernel_rfl) hO2 (by omega) (own_len hO2) (by omega) ?_)
 intro W6 hO7 bs8 hb9
 have z10 := hb9.size
 simp only [lay]
 refine wpList_nil ?_
 have hF := hO7
 rw [Nat.zero_add, Nat.zero_add] at hF
 exact bodyPost_nrm (res_nil Try.results52) rfl ⟨rfl, hF, bs3.trans bs8, hb4.trans hb9⟩
end Go.Proofs.Ytjnphelfloiadaa
