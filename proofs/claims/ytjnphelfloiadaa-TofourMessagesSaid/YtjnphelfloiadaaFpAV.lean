/-
  Lemmas and walks for the row of TofourPackets,TofourMessages,TofourInside (part 22 of 42).
-/
import Derived.Test.YtjnphelfloiadaaFpAG
import Derived.Test.YtjnphelfloiadaaFpAQ
import Derived.Test.YtjnphelfloiadaaFpAR
import Derived.Test.YtjnphelfloiadaaFpAU
set_option linter.unusedVariables false
set_option linter.unusedSimpArgs false
namespace Go.Proofs.Ytjnphelfloiadaa
open Go.RowKit Go.Shelf
attribute [local irreducible] wpList Code.wp Oper.wp wpOp wpAnyH

section
variable {P : Program}
theorem b_sub32 (t : TypeId) {x y : Int} (z : Int) (h : x - y = z) (h0 : 0 ≤ z ∧ z < 4294967296) (w : World) : (binOp .sub t (.int .u32 x) (.int .u32 y)).run P w = .ok (.int .u32 z) w := by
 subst h
 have hz : IntKind.u32.wrap (x - y) = x - y := IntWalk.u32_in _ (by omega)
 simp [go_sem, hz]
end
section
variable {P : Program}
variable {md : Region.Mode} {ops : Array Oper} {Q : Exit → Act → World → Prop} {S : World → Prop}
theorem tk_three {i j k : Nat} {fuel : Nat} {listed : Array Bool} {a : Act} {w : World} (hr : Region.ready md ops listed = [i, j, k])
  (h1 : wpOp P ops Q i (fun a' w' => S w' ∧ wpAnyH P md ops Q S fuel (listed.setIfInBounds i true) a' w') a w)
  (h2 : wpOp P ops Q j (fun a' w' => S w' ∧ wpAnyH P md ops Q S fuel (listed.setIfInBounds j true) a' w') a w)
  (h3 : wpOp P ops Q k (fun a' w' => S w' ∧ wpAnyH P md ops Q S fuel (listed.setIfInBounds k true) a' w') a w) : wpAnyH P md ops Q S (fuel + 1) listed a w :=
 wpAnyH_all hr (by simp) fun m hm => by
  rcases List.mem_cons.1 hm with rfl | hm
  ·exact h1
  rcases List.mem_cons.1 hm with rfl | hm
  ·exact h2
  ·obtain rfl : m = k := by simpa using hm
   exact h3
end
def l4 (s : List Int) : List Int := [s.getD 0 0, s.getD 1 0, s.getD 2 0, s.getD 3 0]
theorem u8s_4 {a : List Int} (h : a.length = 4) : u8s (l4 a) = u8s a := by
 match a, h with
 | [_, _, _, _], _ => rfl
def pZ18 : W4 := ⟨none, 0, none, 0⟩
def pB4 (A : Option Addr) (c : Nat) : W4 := ⟨none, 0, A, c⟩
theorem wpAnyH_mid {P : Program} {md : Region.Mode} {ops : Array Oper} {Q : Exit → Act → World → Prop} {S : World → Prop} {f f0 : Nat} {l l0 : Array Bool} {a0 : Act} {w0 : World} (J : Act → World → Prop) (h1 : (∀ a w, J a w → wpAnyH P md ops Q S f l a w) → wpAnyH P md ops Q S f0 l0 a0 w0) (h2 : ∀ a w, J a w → wpAnyH P md ops Q S f l a w) : wpAnyH P md ops Q S f0 l0 a0 w0 := h1 h2
structure ButG (g : Nat) (w w' : World) : Prop where
 size : w.heap.size ≤ w'.heap.size
 has : ∀ j o, j ≠ g → Has w j o → Has w' j o
theorem ButG.of6 {g : Nat} {w w' : World} (h : But6 g w w') : ButG g w w' := ⟨Nat.le_of_eq h.size.symm, fun _ _ hj ho => ho.but6 h hj⟩
theorem ButG.ofB {g : Nat} {w w' : World} (h : Below w.heap.size w w') : ButG g w w' := ⟨h.size, fun _ _ _ ho => ho.below h ho.lt⟩
theorem ButG.trans {g : Nat} {w w' w'' : World} (h : ButG g w w') (h' : ButG g w' w'') : ButG g w w'' := ⟨Nat.le_trans h.size h'.size, fun j o hj ho => h'.has j o hj (h.has j o hj ho)⟩
theorem ptr18_any (n : Int) (hn : 0 ≤ n ∧ n < 4294967296) (w : World) :
  Calls Try.prog 23 #[.int .u32 n] w fun e w' => e = .returned (.tuple #[.int .u8 (ptr18 n).1, .bool (ptr18 n).2]) ∧ w = w' := by
 by_cases h1 : n ≤ 1
 ·have hz : IntKind.u8.wrap n = n := by rw [IntKind.wrap_u8]; omega
  rw [show ptr18 n = (n, true) from by unfold ptr18; rw [if_pos h1]]
  go_enter Try.func23, Try.ntmps23
  go_wp2
  go_ret2
  exact ⟨rfl, rfl⟩
 by_cases h4 : n = 4
 ·subst h4
  rw [show ptr18 4 = (2, true) from by decide]
  go_enter Try.func23, Try.ntmps23
  go_wp2
  go_ret2
  exact ⟨rfl, rfl⟩
 by_cases h5 : n = 5
 ·subst h5
  rw [show ptr18 5 = (2, true) from by decide]
  go_enter Try.func23, Try.ntmps23
  go_wp2
  go_ret2
  exact ⟨rfl, rfl⟩
 by_cases h6 : n = 6
 ·subst h6
  rw [show ptr18 6 = (9, true) from by decide]
  go_enter Try.func23, Try.ntmps23
  go_wp2
  go_ret2
  exact ⟨rfl, rfl⟩
 by_cases h7 : n = 7
 ·subst h7
  rw [show ptr18 7 = (8, true) from by decide]
  go_enter Try.func23, Try.ntmps23
  go_wp2
  go_ret2
  exact ⟨rfl, rfl⟩
 have b4 : (n == 4) = false := by simpa using h4
 have b5 : (n == 5) = false := by simpa using h5
 have b6 : (n == 6) = false := by simpa using h6
 have b7 : (n == 7) = false := by simpa using h7
 by_cases h8 : 8 ≤ n
 ·by_cases h24 : n < 24
  ·have f0 : n ≤ 23 := by omega
   rw [show ptr18 n = (12, true) from by unfold ptr18; rw [if_neg h1, if_neg (by omega), if_neg h6, if_neg h7, if_pos ⟨h8, h24⟩]]
   go_enter Try.func23, Try.ntmps23
   go_wp2
   go_ret2
   exact ⟨rfl, rfl⟩
  ·have f0 : ¬ n ≤ 23 := by omega
   have f1 : 24 ≤ n := by omega
   by_cases h40 : n < 40
   ·have f2 : n ≤ 39 := by omega
    rw [show ptr18 n = (16, true) from by unfold ptr18; rw [if_neg h1, if_neg (by omega), if_neg h6, if_neg h7, if_neg (by omega), if_pos ⟨f1, h40⟩]]
    go_enter Try.func23, Try.ntmps23
    go_wp2
    go_ret2
    exact ⟨rfl, rfl⟩
   ·have f2 : ¬ n ≤ 39 := by omega
    rw [show ptr18 n = (0, false) from by unfold ptr18; rw [if_neg h1, if_neg (by omega), if_neg h6, if_neg h7, if_neg (by omega), if_neg (by omega)]]
    go_enter Try.func23, Try.ntmps23
    go_wp2
    go_ret2
    exact ⟨rfl, rfl⟩
 ·have f0 : ¬ 24 ≤ n := by omega
  rw [show ptr18 n = (0, false) from by unfold ptr18; rw [if_neg h1, if_neg (by omega), if_neg h6, if_neg h7, if_neg (by omega), if_neg (by omega)]]
  go_enter Try.func23, Try.ntmps23
  go_wp2
  go_ret2
  exact ⟨rfl, rfl⟩
theorem rptr18_any (n : Int) (hn : 0 ≤ n ∧ n < 4294967296) (w : World) :
  Calls Try.prog 24 #[.int .u32 n] w fun e w' => e = .returned (.tuple #[.int .u8 (ptr18 n).1, .bool (ptr18 n).2]) ∧ w = w' := by
 by_cases h1 : n ≤ 1
 ·have hz : IntKind.u8.wrap n = n := by rw [IntKind.wrap_u8]; omega
  rw [show ptr18 n = (n, true) from by unfold ptr18; rw [if_pos h1]]
  go_enter Try.func24, Try.ntmps24
  go_wp2
  go_ret2
  exact ⟨rfl, rfl⟩
 by_cases h4 : n = 4
 ·subst h4
  rw [show ptr18 4 = (2, true) from by decide]
  go_enter Try.func24, Try.ntmps24
  go_wp2
  go_ret2
  exact ⟨rfl, rfl⟩
 by_cases h5 : n = 5
 ·subst h5
  rw [show ptr18 5 = (2, true) from by decide]
  go_enter Try.func24, Try.ntmps24
  go_wp2
  go_ret2
  exact ⟨rfl, rfl⟩
 by_cases h6 : n = 6
 ·subst h6
  rw [show ptr18 6 = (9, true) from by decide]
  go_enter Try.func24, Try.ntmps24
  go_wp2
  go_ret2
  exact ⟨rfl, rfl⟩
 by_cases h7 : n = 7
 ·subst h7
  rw [show ptr18 7 = (8, true) from by decide]
  go_enter Try.func24, Try.ntmps24
  go_wp2
  go_ret2
  exact ⟨rfl, rfl⟩
 have b4 : (n == 4) = false := by simpa using h4
 have b5 : (n == 5) = false := by simpa using h5
 have b6 : (n == 6) = false := by simpa using h6
 have b7 : (n == 7) = false := by simpa using h7
 by_cases h8 : 8 ≤ n
 ·by_cases h24 : n < 24
  ·have f0 : n ≤ 23 := by omega
   rw [show ptr18 n = (12, true) from by unfold ptr18; rw [if_neg h1, if_neg (by omega), if_neg h6, if_neg h7, if_pos ⟨h8, h24⟩]]
   go_enter Try.func24, Try.ntmps24
   go_wp2
   go_ret2
   exact ⟨rfl, rfl⟩
  ·have f0 : ¬ n ≤ 23 := by omega
   have f1 : 24 ≤ n := by omega
   by_cases h40 : n < 40
   ·have f2 : n ≤ 39 := by omega
    rw [show ptr18 n = (16, true) from by unfold ptr18; rw [if_neg h1, if_neg (by omega), if_neg h6, if_neg h7, if_neg (by omega), if_pos ⟨f1, h40⟩]]
    go_enter Try.func24, Try.ntmps24
    go_wp2
    go_ret2
    exact ⟨rfl, rfl⟩
   ·have f2 : ¬ n ≤ 39 := by omega
    rw [show ptr18 n = (0, false) from by unfold ptr18; rw [if_neg h1, if_neg (by omega), if_neg h6, if_neg h7, if_neg (by omega), if_neg (by omega)]]
    go_enter Try.func24, Try.ntmps24
    go_wp2
    go_ret2
    exact ⟨rfl, rfl⟩
 ·have f0 : ¬ 24 ≤ n := by omega
  rw [show ptr18 n = (0, false) from by unfold ptr18; rw [if_neg h1, if_neg (by omega), if_neg h6, if_neg h7, if_neg (by omega), if_neg (by omega)]]
  go_enter Try.func24, Try.ntmps24
  go_wp2
  go_ret2
  exact ⟨rfl, rfl⟩
set_option maxRecDepth 100000 in
theorem mtu18_any (n : Int) (hn : 0 ≤ n ∧ n < 4294967296) (w : World) :
  Calls Try.prog 25 #[.int .u32 n] w fun e w' => e = .returned (.int .u16 (mtu18 n)) ∧ w = w' := by
 go_enter Try.func25, Try.ntmps25
 refine wp_sr ?_
 refine lv (.int .u16 0) (by exact xa) ?_
 simp only [lay]
 refine wn ?_
 refine wp_sr ?_
 refine lv (.int .u32 n) (by exact xm) ?_
 refine lv (.int .i64 n) (by exact xv (conv_i64 22 2 .u32 n (by kernel_rfl) Try.underlying2 (by omega) _)) ?_
 refine lv (.int .i64 (n - 20)) (by exact xb (b_sub _ (n - 20) rfl (by omega) _)) ?_
 simp only [lay]
 by_cases q1 : 65535 ≤ n - 20
 case pos =>
  refine lv (.int .i64 65535) (by exact ex_min (r := 65535) (by rfl) (by rfl) (by rfl) (by first|rw [if_pos (by omega)]|rw [if_neg (by omega)]|(split <;> omega))) ?_
  refine lv (.int .i64 65535) (by exact ex_max (r := 65535) (by rfl) (by rfl) (by rfl) (by first|rw [if_pos (by omega)]|rw [if_neg (by omega)]|(split <;> omega))) ?_
  refine lv (.int .u16 65535) (by exact xv (conv_u16 2 33 .i64 65535 (by kernel_rfl) Try.underlying33 (by omega) (by omega) _)) ?_
  refine lv (.int .u16 65535) (by exact xa) ?_
  simp only [lay]
  refine wn ?_
  refine wp_ret ?_
  try simp only [Exit.then]
  have e : mtu18 n = 65535 := by
   unfold mtu18
   repeat' split
   all_goals omega
  exact bodyPost_ret (res_one Try.results25 rfl) rfl ⟨by rw [e]; rfl, rfl⟩
 refine lv (.int .i64 (n - 20)) (by exact ex_min (r := (n - 20)) (by rfl) (by rfl) (by rfl) (by first|rw [if_pos (by omega)]|rw [if_neg (by omega)]|(split <;> omega))) ?_
 simp only [lay]
 by_cases q2 : 68 ≤ n - 20
 case pos =>
  refine lv (.int .i64 (n - 20)) (by exact ex_max (r := (n - 20)) (by rfl) (by rfl) (by rfl) (by first|rw [if_pos (by omega)]|rw [if_neg (by omega)]|(split <;> omega))) ?_
  refine lv (.int .u16 (n - 20)) (by exact xv (conv_u16 2 33 .i64 (n - 20) (by kernel_rfl) Try.underlying33 (by omega) (by omega) _)) ?_
  refine lv (.int .u16 (n - 20)) (by exact xa) ?_
  simp only [lay]
  refine wn ?_
  refine wp_ret ?_
  try simp only [Exit.then]
  have e : mtu18 n = n - 20 := by
   unfold mtu18
   repeat' split
   all_goals omega
  exact bodyPost_ret (res_one Try.results25 rfl) rfl ⟨by rw [e]; rfl, rfl⟩
 refine lv (.int .i64 68) (by exact ex_max (r := 68) (by rfl) (by rfl) (by rfl) (by first|rw [if_pos (by omega)]|rw [if_neg (by omega)]|(split <;> omega))) ?_
 refine lv (.int .u16 68) (by exact xv (conv_u16 2 33 .i64 68 (by kernel_rfl) Try.underlying33 (by omega) (by omega) _)) ?_
 refine lv (.int .u16 68) (by exact xa) ?_
 simp only [lay]
 refine wn ?_
 refine wp_ret ?_
 try simp only [Exit.then]
 have e : mtu18 n = 68 := by
  unfold mtu18
  repeat' split
  all_goals omega
 exact bodyPost_ret (res_one Try.results25 rfl) rfl ⟨by rw [e]; rfl, rfl⟩
set_option maxRecDepth 100000 in
theorem rmtu18_any (n : Int) (hn : 0 ≤ n ∧ n < 4294967296) (w : World) :
  Calls Try.prog 26 #[.int .u32 n] w fun e w' => e = .returned (.int .u16 (mtu18 n)) ∧ w = w' := by
 go_enter Try.func26, Try.ntmps26
 refine wp_sr ?_
 refine lv (.int .u16 0) (by exact xa) ?_
 simp only [lay]
 refine wn ?_
 refine wp_seq ?_
 refine wp_sr ?_
 refine lv (.int .u32 n) (by exact xm) ?_
 simp only [lay]
 by_cases q1 : n < 88
 case pos =>
  refine lv (.bool true) (by exact ex_lss (by rfl) (by rfl) (by rfl) (decide_eq_true (by first|assumption|omega|decide))) ?_
  simp only [lay]
  refine wn ?_
  refine cT9 ?_
  refine wp_sr ?_
  refine lv (.int .u16 68) (by exact xa) ?_
  simp only [lay]
  refine wn ?_
  refine wp_ret ?_
  try simp only [Exit.then]
  have e : mtu18 n = 68 := by
   unfold mtu18
   repeat' split
   all_goals omega
  exact bodyPost_ret (res_one Try.results26 rfl) rfl ⟨by rw [e]; rfl, rfl⟩
 refine lv (.bool false) (by exact ex_lss (by rfl) (by rfl) (by rfl) (decide_eq_false (by first|assumption|omega|decide))) ?_
 simp only [lay]
 refine wn ?_
 refine cF9 ?_
 refine wp_skip ?_
 change Code.wp _ _ _ _ _
 refine wp_seq ?_
 refine wp_sr ?_
 refine lv (.int .u32 n) (by exact xm) ?_
 simp only [lay]
 by_cases q2 : n > 65555
 case pos =>
  refine lv (.bool true) (by exact ex_gtr (by rfl) (by rfl) (by rfl) (decide_eq_true (by first|assumption|omega|decide))) ?_
  simp only [lay]
  refine wn ?_
  refine cT9 ?_
  refine wp_sr ?_
  refine lv (.int .u16 65535) (by exact xa) ?_
  simp only [lay]
  refine wn ?_
  refine wp_ret ?_
  try simp only [Exit.then]
  have e : mtu18 n = 65535 := by
   unfold mtu18
   repeat' split
   all_goals omega
  exact bodyPost_ret (res_one Try.results26 rfl) rfl ⟨by rw [e]; rfl, rfl⟩
 refine lv (.bool false) (by exact ex_gtr (by rfl) (by rfl) (by rfl) (decide_eq_false (by first|assumption|omega|decide))) ?_
 simp only [lay]
 refine wn ?_
 refine cF9 ?_
 refine wp_skip ?_
 change Code.wp _ _ _ _ _
 refine wp_sr ?_
 refine lv (.int .u32 n) (by exact xm) ?_
 refine lv (.int .u32 (n - 20)) (by exact xb (b_sub32 _ (n - 20) rfl (by omega) _)) ?_
 refine lv (.int .u16 (n - 20)) (by exact xv (conv_u16 22 33 .u32 (n - 20) (by kernel_rfl) Try.underlying33 (by omega) (by omega) _)) ?_
 refine lv (.int .u16 (n - 20)) (by exact xa) ?_
 simp only [lay]
 refine wn ?_
 refine wp_ret ?_
 try simp only [Exit.then]
 have e : mtu18 n = n - 20 := by
  unfold mtu18
  repeat' split
  all_goals omega
 exact bodyPost_ret (res_one Try.results26 rfl) rfl ⟨by rw [e]; rfl, rfl⟩
set_option maxRecDepth 100000 in
theorem rwrong18_any (n : Int) (w : World) :
  Calls Try.prog 38 #[.int .u8 n] w fun e w' => e = .returned (.bool (wrong18 n)) ∧ w = w' := by
 go_enter Try.func38, Try.ntmps38
 refine wp_sr ?_
 refine lv (.bool false) (by exact xa) ?_
 simp only [lay]
 refine wn ?_
 refine wp_sr ?_
 refine lv (.int .u8 n) (by exact xm) ?_
 simp only [lay]
 by_cases q1 : n = 0
 case pos =>
  refine lv (.bool true) (by exact yq) ?_
  refine lv (.bool true) (by exact xm) ?_
  refine lzn ?_
  refine lzn ?_
  simp only [lay]
  refine lv (.bool true) (by exact xp (b := true)) ?_
  refine lv (.bool true) (by exact xm) ?_
  refine lzn ?_
  refine lzn ?_
  simp only [lay]
  refine lv (.bool true) (by exact xp (b := true)) ?_
  refine lv (.bool true) (by exact xm) ?_
  refine lzn ?_
  refine lzn ?_
  simp only [lay]
  refine lv (.bool true) (by exact xp (b := true)) ?_
  refine lv (.bool true) (by exact xm) ?_
  refine lzn ?_
  refine lzn ?_
  simp only [lay]
  refine lv (.bool true) (by exact xp (b := true)) ?_
  refine lv (.bool true) (by exact xa) ?_
  simp only [lay]
  refine wn ?_
  refine wp_ret ?_
  try simp only [Exit.then]
  have e : wrong18 n = true := by unfold wrong18; simp [*]
  exact bodyPost_ret (res_one Try.results38 rfl) rfl ⟨by rw [e]; rfl, rfl⟩
 refine lv (.bool false) (by exact yqn) ?_
 refine lv (.bool false) (by exact xm) ?_
 refine lv (.int .u8 n) (by exact xm) ?_
 simp only [lay]
 by_cases q2 : n = 1
 case pos =>
  refine lv (.bool true) (by exact yq) ?_
  refine lv (.bool true) (by exact xp (b := false)) ?_
  refine lv (.bool true) (by exact xm) ?_
  refine lzn ?_
  simp only [lay]
  refine lzn ?_
  refine lv (.bool true) (by exact xp (b := true)) ?_
  refine lv (.bool true) (by exact xm) ?_
  refine lzn ?_
  simp only [lay]
  refine lzn ?_
  refine lv (.bool true) (by exact xp (b := true)) ?_
  refine lv (.bool true) (by exact xm) ?_
  refine lzn ?_
  simp only [lay]
  refine lzn ?_
  refine lv (.bool true) (by exact xp (b := true)) ?_
  refine lv (.bool true) (by exact xa) ?_
  simp only [lay]
  refine wn ?_
  refine wp_ret ?_
  try simp only [Exit.then]
  have e : wrong18 n = true := by unfold wrong18; simp [*]
  exact bodyPost_ret (res_one Try.results38 rfl) rfl ⟨by rw [e]; rfl, rfl⟩
 refine lv (.bool false) (by exact yqn) ?_
 refine lv (.bool false) (by exact xp (b := false)) ?_
 refine lv (.bool false) (by exact xm) ?_
 refine lv (.int .u8 n) (by exact xm) ?_
 simp only [lay]
 by_cases q3 : n = 43
 case pos =>
  refine lv (.bool true) (by exact yq) ?_
  refine lv (.bool true) (by exact xp (b := false)) ?_
  refine lv (.bool true) (by exact xm) ?_
  refine lzn ?_
  simp only [lay]
  refine lzn ?_
  refine lv (.bool true) (by exact xp (b := true)) ?_
  refine lv (.bool true) (by exact xm) ?_
  refine lzn ?_
  simp only [lay]
  refine lzn ?_
  refine lv (.bool true) (by exact xp (b := true)) ?_
  refine lv (.bool true) (by exact xa) ?_
  simp only [lay]
  refine wn ?_
  refine wp_ret ?_
  try simp only [Exit.then]
  have e : wrong18 n = true := by unfold wrong18; simp [*]
  exact bodyPost_ret (res_one Try.results38 rfl) rfl ⟨by rw [e]; rfl, rfl⟩
 refine lv (.bool false) (by exact yqn) ?_
 refine lv (.bool false) (by exact xp (b := false)) ?_
 refine lv (.bool false) (by exact xm) ?_
 refine lv (.int .u8 n) (by exact xm) ?_
 simp only [lay]
 by_cases q4 : n = 44
 case pos =>
  refine lv (.bool true) (by exact yq) ?_
  refine lv (.bool true) (by exact xp (b := false)) ?_
  refine lv (.bool true) (by exact xm) ?_
  refine lzn ?_
  simp only [lay]
  refine lzn ?_
  refine lv (.bool true) (by exact xp (b := true)) ?_
  refine lv (.bool true) (by exact xa) ?_
  simp only [lay]
  refine wn ?_
  refine wp_ret ?_
  try simp only [Exit.then]
  have e : wrong18 n = true := by unfold wrong18; simp [*]
  exact bodyPost_ret (res_one Try.results38 rfl) rfl ⟨by rw [e]; rfl, rfl⟩
 refine lv (.bool false) (by exact yqn) ?_
 refine lv (.bool false) (by exact xp (b := false)) ?_
 refine lv (.bool false) (by exact xm) ?_
 refine lv (.int .u8 n) (by exact xm) ?_
 simp only [lay]
 by_cases q5 : n = 60
 case pos =>
  refine lv (.bool true) (by exact yq) ?_
  refine lv (.bool true) (by exact xp (b := false)) ?_
  refine lv (.bool true) (by exact xa) ?_
  simp only [lay]
  refine wn ?_
  refine wp_ret ?_
  try simp only [Exit.then]
  have e : wrong18 n = true := by unfold wrong18; simp [*]
  exact bodyPost_ret (res_one Try.results38 rfl) rfl ⟨by rw [e]; rfl, rfl⟩
 refine lv (.bool false) (by exact yqn) ?_
 refine lv (.bool false) (by exact xp (b := false)) ?_
 refine lv (.bool false) (by exact xa) ?_
 simp only [lay]
 refine wn ?_
 refine wp_ret ?_
 try simp only [Exit.then]
 have e : wrong18 n = false := by unfold wrong18; simp [*]
 exact bodyPost_ret (res_one Try.results38 rfl) rfl ⟨by rw [e]; rfl, rfl⟩
set_option maxRecDepth 100000 in
theorem rfragment18_any (d : D6) (p : W6) (w : World) :
  Calls Try.prog 62 #[.agg (d.cells p)] w fun e w' => e = .returned (.bool d.part) ∧ Below w.heap.size w w' := by
 go_enter Try.func62, Try.ntmps62
 refine wp_sr ?_
 refine lz (ow_box 28 (.tmp 0) _ rfl rfl ?_)
 intro g1 W2 hg3 ge4 sz5 hb6
 have z7 := hb6.size
 simp only [lay]
 refine lv (.bool false) (by exact xa) ?_
 simp only [lay]
 refine wn ?_
 refine wp_sr ?_
 refine lv (pq9 g1 36) (by exact xf 36 0 Try.underlying28) ?_
 refine lv (.bool d.frag) (by exact xc Try.underlying4 (hg3.cell 36 rfl)) ?_
 refine lv (.bool d.frag) (by exact xm) ?_
 simp only [lay]
 by_cases q8 : d.frag = true
 case pos =>
  rw [q8]
  refine lv (pq9 g1 39) (by exact xf 39 0 Try.underlying28) ?_
  refine lv (.bool d.more) (by exact xc Try.underlying4 (hg3.cell 39 rfl)) ?_
  refine lv (.bool d.more) (by exact xm) ?_
  simp only [lay]
  by_cases q9 : d.more = true
  case pos =>
   rw [q9]
   refine lzn ?_
   refine lzn ?_
   refine lzn ?_
   refine lv (.bool true) (by exact xp (b := true)) ?_
   simp only [lay]
   refine lv (.bool true) (by exact xp (b := true)) ?_
   refine lv (.bool true) (by exact xa) ?_
   simp only [lay]
   refine wn ?_
   refine wp_ret ?_
   try simp only [Exit.then]
   have e : d.part = true := by unfold D6.part; simp [*]; try omega
   exact bodyPost_ret (res_one Try.results62 rfl) rfl ⟨by rw [e]; rfl, hb6⟩
  replace q9 := eq_false_of_ne_true q9
  rw [q9]
  refine lv (pq9 g1 38) (by exact xf 38 0 Try.underlying28) ?_
  refine lv (.int .i64 d.off) (by exact xc Try.underlying3 (hg3.cell 38 rfl)) ?_
  simp only [lay]
  by_cases q10 : d.off > 0
  case pos =>
   refine lv (.bool true) (by exact ex_gtr (by rfl) (by rfl) (by rfl) (decide_eq_true (by first|assumption|omega|decide))) ?_
   refine lv (.bool true) (by exact xp (b := false)) ?_
   refine lv (.bool true) (by exact xp (b := true)) ?_
   refine lv (.bool true) (by exact xa) ?_
   simp only [lay]
   refine wn ?_
   refine wp_ret ?_
   try simp only [Exit.then]
   have e : d.part = true := by unfold D6.part; simp [*]; try omega
   exact bodyPost_ret (res_one Try.results62 rfl) rfl ⟨by rw [e]; rfl, hb6⟩
  refine lv (.bool false) (by exact ex_gtr (by rfl) (by rfl) (by rfl) (decide_eq_false (by first|assumption|omega|decide))) ?_
  refine lv (.bool false) (by exact xp (b := false)) ?_
  refine lv (.bool false) (by exact xp (b := true)) ?_
  refine lv (.bool false) (by exact xa) ?_
  simp only [lay]
  refine wn ?_
  refine wp_ret ?_
  try simp only [Exit.then]
  have e : d.part = false := by unfold D6.part; simp [*]; try omega
  exact bodyPost_ret (res_one Try.results62 rfl) rfl ⟨by rw [e]; rfl, hb6⟩
 replace q8 := eq_false_of_ne_true q8
 rw [q8]
 refine lzn ?_
 refine lzn ?_
 refine lzn ?_
 refine lzn ?_
 simp only [lay]
 refine lzn ?_
 refine lzn ?_
 refine lzn ?_
 refine lv (.bool false) (by exact xp (b := false)) ?_
 simp only [lay]
 refine lv (.bool false) (by exact xa) ?_
 simp only [lay]
 refine wn ?_
 refine wp_ret ?_
 try simp only [Exit.then]
 have e : d.part = false := by unfold D6.part; simp [*]; try omega
 exact bodyPost_ret (res_one Try.results62 rfl) rfl ⟨by rw [e]; rfl, hb6⟩
set_option maxRecDepth 100000 in
set_option maxHeartbeats 1000000 in
theorem header18_any (d : D6) (hd : d.ok) (p : W6) (s t : List Int) (w : World) :
  Calls Try.prog 31 #[.agg (d.cells p), .agg (e4c s t)] w fun e w' => e = .returned (.agg ((head18 d s t []).cells pZ18)) ∧ Below w.heap.size w w' := by
 have r1 := hd.id
 go_enter Try.func31, Try.ntmps31
 refine wp_sr ?_
 refine lz (ow_box 28 (.tmp 0) _ rfl rfl ?_)
 intro g1 W2 hg3 ge4 sz5 hb6
 have z7 := hb6.size
 simp only [lay]
 refine lz (ow_box 32 (.tmp 1) _ rfl rfl ?_)
 intro g8 W9 hg10 ge11 sz12 hb13
 have z14 := hb13.size
 simp only [lay]
 refine lz (oa (v17 0 0 false false 0 0 0 [] [] (.slice none 0 0) (.slice none 0 0)) ?_)
 intro g15 W16 hg17 ge18 sz19 hb20
 have z21 := hb20.size
 simp only [lay]
 refine wn ?_
 refine wp_sr ?_
 refine lv (pq9 g1 0) (by exact xf 0 0 Try.underlying28) ?_
 simp only [lay]
 have b22 := bt hb13 hb20
 have has23 := hg3.to b22
 refine lv (.int .u8 d.cls) (by exact xc Try.underlying5 (has23.cell 0 rfl)) ?_
 refine lv (pq9 g1 36) (by exact xf 36 0 Try.underlying28) ?_
 refine lv (.bool d.frag) (by exact xc Try.underlying4 (has23.cell 36 rfl)) ?_
 simp only [lay]
 by_cases q24 : d.frag = true
 case pos =>
  rw [q24]
  refine lv (.bool false) (by exact ex_not (b := true) (by rfl) (by rfl)) ?_
  refine lv (pq9 g1 2) (by exact xf 2 0 Try.underlying28) ?_
  refine lv (.int .u8 d.hop) (by exact xc Try.underlying5 (has23.cell 2 rfl)) ?_
  refine lv (pq9 g1 40) (by exact xf 40 0 Try.underlying28) ?_
  simp only [lay]
  refine lv (.int .u8 d.pro) (by exact xc Try.underlying5 (has23.cell 40 rfl)) ?_
  refine lv (pq9 g8 0) (by exact xf 0 3 Try.underlying32) ?_
  simp only [lay]
  have has25 := hg10.to hb20
  refine lv (.agg (a49 s)) (by exact ex_loadAt (by rfl) (by rfl) (has25.loadIn (P := Try.prog) 0 (w49 s) (by kernel_rfl) 30 Try.underlying30 rfl (by kernel_rfl))) ?_
  refine lv (pq9 g8 4) (by exact xf 4 3 Try.underlying32) ?_
  refine lv (.agg (a49 t)) (by exact ex_loadAt (by rfl) (by rfl) (has25.loadIn (P := Try.prog) 4 (w49 t) (by kernel_rfl) 30 Try.underlying30 rfl (by kernel_rfl))) ?_
  refine lv (.agg (v17 d.cls 0 false false 0 d.hop d.pro s t (.slice none 0 0) (.slice none 0 0))) (by kernel_rfl) ?_
  simp only [lay]
  refine lz (oa (v17 0 0 false false 0 0 0 [] [] (.slice none 0 0) (.slice none 0 0)) ?_)
  intro g26 W27 hg28 ge29 sz30 hb31
  have z32 := hb31.size
  simp only [lay]
  refine lz (ow_st 35 (.tmp 5) (.tmp 19) g26 (v17 d.cls 0 false false 0 d.hop d.pro s t (.slice none 0 0) (.slice none 0 0)) _ _ rfl (by rfl) (by rfl) hg28 (by kernel_rfl) rfl (by kernel_rfl) ?_)
  intro W33 hg34 bs35 hb36
  have z37 := hb36.size
  simp only [lay]
  refine wn ?_
  refine wp_seq ?_
  refine wp_sr ?_
  refine lv (pq9 g1 40) (by exact xf 40 0 Try.underlying28) ?_
  simp only [lay]
  have l39 := lq b22 ge29
  have b40 := (bt b22 hb31).trans (hb36.mono l39)
  have has41 := hg3.to b40
  refine lv (.int .u8 d.pro) (by exact xc Try.underlying5 (has41.cell 40 rfl)) ?_
  simp only [lay]
  by_cases q42 : d.pro = 58
  case pos =>
   refine lv (.bool true) (by exact yq) ?_
   simp only [lay]
   refine wn ?_
   refine cT9 ?_
   refine wp_region_lit ?_
   refine lv (pq9 g26 6) (by exact xf 6 0 Try.underlying35) ?_
   simp only [lay]
   refine lz (ow_st1 5 (.tmp 23) (.const (.int .u8 1)) g26 6 (.int .u8 1) _ (v17 d.cls 0 false false 0 d.hop 1 s t (.slice none 0 0) (.slice none 0 0)) _ rfl (by rfl) (by rfl) rfl (by kernel_rfl) hg34 rfl rfl (by kernel_rfl) ?_)
   intro W43 hg44 bs45 hb46
   have z47 := hb46.size
   simp only [lay]
   refine wn ?_
   refine wp_seq ?_
   refine wp_sr ?_
   refine lv (pq9 g1 36) (by exact xf 36 0 Try.underlying28) ?_
   simp only [lay]
   have b48 := b40.trans (hb46.mono l39)
   refine lv (.bool d.frag) (by exact xc Try.underlying4 ((hg3.to b48).cell 36 rfl)) ?_
   simp only [lay]
   refine wn ?_
   rw [show d.frag = true from by assumption]
   refine cT9 ?_
   refine rg_drawn g26 (by kernel_rfl) (by omega) ?_
   intro W51 hb52 hs53 hS54
   have z55 := hb52.size
   refine te 0 (pq9 g1 37) hS54 rfl (by intro _ _; exact xf 37 0 Try.underlying28) ?_
   refine te 1 (.int .u32 d.id) hS54 rfl (by intro _ h; exact xc Try.underlying22 ((hg3.to (b48.trans (Below.mono h l39))).cell 37 rfl)) ?_
   refine te 2 (.int .u16 (d.id % 65536)) hS54 rfl (by intro _ _; exact xv (conv_u16m _ _ _ _ (by kernel_rfl) Try.underlying33 _)) ?_
   refine te 3 (pq9 g1 38) hS54 rfl (by intro _ _; exact xf 38 0 Try.underlying28) ?_
   simp only [lay]
   refine te 4 (.int .i64 d.off) hS54 rfl (by intro _ h; exact xc Try.underlying3 ((hg3.to (b48.trans (Below.mono h l39))).cell 38 rfl)) ?_
   refine te 5 (pq9 g1 39) hS54 rfl (by intro _ _; exact xf 39 0 Try.underlying28) ?_
   refine te 6 (.bool d.more) hS54 rfl (by intro _ h; exact xc Try.underlying4 ((hg3.to (b48.trans (Below.mono h l39))).cell 39 rfl)) ?_
   refine te 7 (pq9 g26 1) hS54 rfl (by intro _ _; exact xf 1 0 Try.underlying35) ?_
   simp only [lay]
   refine t1 8 rfl (ow_st1 33 (.tmp 33) (.tmp 28) g26 1 (.int .u16 (d.id % 65536)) _ (v17 d.cls (d.id % 65536) false false 0 d.hop 1 s t (.slice none 0 0) (.slice none 0 0)) _ rfl (by rfl) (by rfl) rfl (by kernel_rfl) (hg44.to hb52) rfl rfl (by kernel_rfl) ?_)
   intro W56 hg57 bs58 hb59
   have z61 := hb59.size
   refine ⟨(Below.trans hS54 hb59), ?_⟩
   have hS62 := (Below.trans hS54 hb59)
   simp only [lay]
   refine te 9 (pq9 g26 4) hS62 rfl (by intro _ _; exact xf 4 0 Try.underlying35) ?_
   simp only [lay]
   refine t1 10 rfl (ow_st1 3 (.tmp 34) (.tmp 30) g26 4 (.int .i64 d.off) _ (v17 d.cls (d.id % 65536) false false d.off d.hop 1 s t (.slice none 0 0) (.slice none 0 0)) _ rfl (by rfl) (by rfl) rfl (by kernel_rfl) hg57 rfl rfl (by kernel_rfl) ?_)
   intro W63 hg64 bs65 hb66
   have z67 := hb66.size
   refine ⟨(Below.trans hS62 hb66), ?_⟩
   have hS68 := (Below.trans hS62 hb66)
   simp only [lay]
   refine te 11 (pq9 g26 3) hS68 rfl (by intro _ _; exact xf 3 0 Try.underlying35) ?_
   simp only [lay]
   refine t1 12 rfl (ow_st1 4 (.tmp 35) (.tmp 32) g26 3 (.bool d.more) _ (v17 d.cls (d.id % 65536) false d.more d.off d.hop 1 s t (.slice none 0 0) (.slice none 0 0)) _ rfl (by rfl) (by rfl) rfl (by kernel_rfl) hg64 rfl rfl (by kernel_rfl) ?_)
   intro W69 hg70 bs71 hb72
   have z73 := hb72.size
   refine ⟨(Below.trans hS68 hb72), ?_⟩
   have hS74 := (Below.trans hS68 hb72)
   simp only [lay]
   refine wpAnyH_done (by kernel_rfl) ?_ _
   change Code.wp _ _ _ _ _
   refine wp_sr ?_
   refine lv (.agg (v17 d.cls (d.id % 65536) false d.more d.off d.hop 1 s t (.slice none 0 0) (.slice none 0 0))) (by exact xo (hg70.load (P := Try.prog) 35 Try.underlying35 rfl (by kernel_rfl))) ?_
   simp only [lay]
   have l79 : W16.heap.size ≤ g26 := Nat.le_of_eq ge29.symm
   refine lz (ow_st 35 (.tmp 4) (.tmp 36) g15 (v17 d.cls (d.id % 65536) false d.more d.off d.hop 1 s t (.slice none 0 0) (.slice none 0 0)) _ _ rfl (by rfl) (by rfl) (hg17.to ((((bt ((hb31.trans (hb36.mono l79)).trans (hb46.mono l79)) hb52).trans (hb59.mono l79)).trans (hb66.mono l79)).trans (hb72.mono l79))) (by kernel_rfl) rfl (by kernel_rfl) ?_)
   intro W75 hg76 bs77 hb78
   have z87 := hb78.size
   have has88 := hg70.but6 bs77 (by omega)
   simp only [lay]
   refine wn ?_
   refine wp_ret ?_
   try simp only [Exit.then]
   have e : (head18 d s t []).cells pZ18 = (v17 d.cls (d.id % 65536) false d.more d.off d.hop 1 s t (.slice none 0 0) (.slice none 0 0)) := by simp only [head18, pro18, *, if_true, if_false, Bool.false_eq_true]; rfl
   have b89 := bt hb6 hb13
   have b90 := bt b89 hb20
   have l92 := lq b90 ge29
   have b100 := ((((bt (((bt b90 hb31).trans (hb36.mono l92)).trans (hb46.mono l92)) hb52).trans (hb59.mono l92)).trans (hb66.mono l92)).trans (hb72.mono l92)).trans (hb78.mono (lq b89 ge18))
   exact bodyPost_ret (res_cell Try.results31 rfl (hg76.load (P := Try.prog) 35 Try.underlying35 rfl (by kernel_rfl))) rfl ⟨by rw [e], b100⟩
  refine lv (.bool false) (by exact yqn) ?_
  simp only [lay]
  refine wn ?_
  refine cF9 ?_
  refine wp_skip ?_
  change Code.wp _ _ _ _ _
  refine wp_seq ?_
  refine wp_sr ?_
  refine lv (pq9 g1 36) (by exact xf 36 0 Try.underlying28) ?_
  refine lv (.bool d.frag) (by exact xc Try.underlying4 (has41.cell 36 rfl)) ?_
  simp only [lay]
  refine wn ?_
  rw [show d.frag = true from by assumption]
  refine cT9 ?_
  refine rg_drawn g26 (by kernel_rfl) (by omega) ?_
  intro W102 hb103 hs104 hS105
  have z106 := hb103.size
  refine te 0 (pq9 g1 37) hS105 rfl (by intro _ _; exact xf 37 0 Try.underlying28) ?_
  refine te 1 (.int .u32 d.id) hS105 rfl (by intro _ h; exact xc Try.underlying22 ((hg3.to (b40.trans (Below.mono h l39))).cell 37 rfl)) ?_
  refine te 2 (.int .u16 (d.id % 65536)) hS105 rfl (by intro _ _; exact xv (conv_u16m _ _ _ _ (by kernel_rfl) Try.underlying33 _)) ?_
  refine te 3 (pq9 g1 38) hS105 rfl (by intro _ _; exact xf 38 0 Try.underlying28) ?_
  simp only [lay]
  refine te 4 (.int .i64 d.off) hS105 rfl (by intro _ h; exact xc Try.underlying3 ((hg3.to (b40.trans (Below.mono h l39))).cell 38 rfl)) ?_
  refine te 5 (pq9 g1 39) hS105 rfl (by intro _ _; exact xf 39 0 Try.underlying28) ?_
  refine te 6 (.bool d.more) hS105 rfl (by intro _ h; exact xc Try.underlying4 ((hg3.to (b40.trans (Below.mono h l39))).cell 39 rfl)) ?_
  refine te 7 (pq9 g26 1) hS105 rfl (by intro _ _; exact xf 1 0 Try.underlying35) ?_
  simp only [lay]
  refine t1 8 rfl (ow_st1 33 (.tmp 33) (.tmp 28) g26 1 (.int .u16 (d.id % 65536)) _ (v17 d.cls (d.id % 65536) false false 0 d.hop d.pro s t (.slice none 0 0) (.slice none 0 0)) _ rfl (by rfl) (by rfl) rfl (by kernel_rfl) (hg34.to hb103) rfl rfl (by kernel_rfl) ?_)
  intro W107 hg108 bs109 hb110
  have z112 := hb110.size
  refine ⟨(Below.trans hS105 hb110), ?_⟩
  have hS113 := (Below.trans hS105 hb110)
  simp only [lay]
  refine te 9 (pq9 g26 4) hS113 rfl (by intro _ _; exact xf 4 0 Try.underlying35) ?_
  simp only [lay]
  refine t1 10 rfl (ow_st1 3 (.tmp 34) (.tmp 30) g26 4 (.int .i64 d.off) _ (v17 d.cls (d.id % 65536) false false d.off d.hop d.pro s t (.slice none 0 0) (.slice none 0 0)) _ rfl (by rfl) (by rfl) rfl (by kernel_rfl) hg108 rfl rfl (by kernel_rfl) ?_)
  intro W114 hg115 bs116 hb117
  have z118 := hb117.size
  refine ⟨(Below.trans hS113 hb117), ?_⟩
  have hS119 := (Below.trans hS113 hb117)
  simp only [lay]
  refine te 11 (pq9 g26 3) hS119 rfl (by intro _ _; exact xf 3 0 Try.underlying35) ?_
  simp only [lay]
  refine t1 12 rfl (ow_st1 4 (.tmp 35) (.tmp 32) g26 3 (.bool d.more) _ (v17 d.cls (d.id % 65536) false d.more d.off d.hop d.pro s t (.slice none 0 0) (.slice none 0 0)) _ rfl (by rfl) (by rfl) rfl (by kernel_rfl) hg115 rfl rfl (by kernel_rfl) ?_)
  intro W120 hg121 bs122 hb123
  have z124 := hb123.size
  refine ⟨(Below.trans hS119 hb123), ?_⟩
  have hS125 := (Below.trans hS119 hb123)
  simp only [lay]
  refine wpAnyH_done (by kernel_rfl) ?_ _
  change Code.wp _ _ _ _ _
  refine wp_sr ?_
  refine lv (.agg (v17 d.cls (d.id % 65536) false d.more d.off d.hop d.pro s t (.slice none 0 0) (.slice none 0 0))) (by exact xo (hg121.load (P := Try.prog) 35 Try.underlying35 rfl (by kernel_rfl))) ?_
  simp only [lay]
  have l130 : W16.heap.size ≤ g26 := Nat.le_of_eq ge29.symm
  refine lz (ow_st 35 (.tmp 4) (.tmp 36) g15 (v17 d.cls (d.id % 65536) false d.more d.off d.hop d.pro s t (.slice none 0 0) (.slice none 0 0)) _ _ rfl (by rfl) (by rfl) (hg17.to ((((bt (hb31.trans (hb36.mono l130)) hb103).trans (hb110.mono l130)).trans (hb117.mono l130)).trans (hb123.mono l130))) (by kernel_rfl) rfl (by kernel_rfl) ?_)
  intro W126 hg127 bs128 hb129
  have z137 := hb129.size
  have has138 := hg121.but6 bs128 (by omega)
  simp only [lay]
  refine wn ?_
  refine wp_ret ?_
  try simp only [Exit.then]
  have e : (head18 d s t []).cells pZ18 = (v17 d.cls (d.id % 65536) false d.more d.off d.hop d.pro s t (.slice none 0 0) (.slice none 0 0)) := by simp only [head18, pro18, *, if_true, if_false, Bool.false_eq_true]; rfl
  have b139 := bt hb6 hb13
  have b140 := bt b139 hb20
  have l142 := lq b140 ge29
  have b149 := ((((bt ((bt b140 hb31).trans (hb36.mono l142)) hb103).trans (hb110.mono l142)).trans (hb117.mono l142)).trans (hb123.mono l142)).trans (hb129.mono (lq b139 ge18))
  exact bodyPost_ret (res_cell Try.results31 rfl (hg127.load (P := Try.prog) 35 Try.underlying35 rfl (by kernel_rfl))) rfl ⟨by rw [e], b149⟩
 replace q24 := eq_false_of_ne_true q24
 rw [q24]
 refine lv (.bool true) (by exact ex_not (b := false) (by rfl) (by rfl)) ?_
 refine lv (pq9 g1 2) (by exact xf 2 0 Try.underlying28) ?_
 refine lv (.int .u8 d.hop) (by exact xc Try.underlying5 (has23.cell 2 rfl)) ?_
 refine lv (pq9 g1 40) (by exact xf 40 0 Try.underlying28) ?_
 simp only [lay]
 refine lv (.int .u8 d.pro) (by exact xc Try.underlying5 (has23.cell 40 rfl)) ?_
 refine lv (pq9 g8 0) (by exact xf 0 3 Try.underlying32) ?_
 simp only [lay]
 have has150 := hg10.to hb20
 refine lv (.agg (a49 s)) (by exact ex_loadAt (by rfl) (by rfl) (has150.loadIn (P := Try.prog) 0 (w49 s) (by kernel_rfl) 30 Try.underlying30 rfl (by kernel_rfl))) ?_
 refine lv (pq9 g8 4) (by exact xf 4 3 Try.underlying32) ?_
 refine lv (.agg (a49 t)) (by exact ex_loadAt (by rfl) (by rfl) (has150.loadIn (P := Try.prog) 4 (w49 t) (by kernel_rfl) 30 Try.underlying30 rfl (by kernel_rfl))) ?_
 refine lv (.agg (v17 d.cls 0 true false 0 d.hop d.pro s t (.slice none 0 0) (.slice none 0 0))) (by kernel_rfl) ?_
 simp only [lay]
 refine lz (oa (v17 0 0 false false 0 0 0 [] [] (.slice none 0 0) (.slice none 0 0)) ?_)
 intro g151 W152 hg153 ge154 sz155 hb156
 have z157 := hb156.size
 simp only [lay]
 refine lz (ow_st 35 (.tmp 5) (.tmp 19) g151 (v17 d.cls 0 true false 0 d.hop d.pro s t (.slice none 0 0) (.slice none 0 0)) _ _ rfl (by rfl) (by rfl) hg153 (by kernel_rfl) rfl (by kernel_rfl) ?_)
 intro W158 hg159 bs160 hb161
 have z162 := hb161.size
 simp only [lay]
 refine wn ?_
 refine wp_seq ?_
 refine wp_sr ?_
 refine lv (pq9 g1 40) (by exact xf 40 0 Try.underlying28) ?_
 simp only [lay]
 have l164 := lq b22 ge154
 have b165 := (bt b22 hb156).trans (hb161.mono l164)
 have has166 := hg3.to b165
 refine lv (.int .u8 d.pro) (by exact xc Try.underlying5 (has166.cell 40 rfl)) ?_
 simp only [lay]
 by_cases q167 : d.pro = 58
 case pos =>
  refine lv (.bool true) (by exact yq) ?_
  simp only [lay]
  refine wn ?_
  refine cT9 ?_
  refine wp_region_lit ?_
  refine lv (pq9 g151 6) (by exact xf 6 0 Try.underlying35) ?_
  simp only [lay]
  refine lz (ow_st1 5 (.tmp 23) (.const (.int .u8 1)) g151 6 (.int .u8 1) _ (v17 d.cls 0 true false 0 d.hop 1 s t (.slice none 0 0) (.slice none 0 0)) _ rfl (by rfl) (by rfl) rfl (by kernel_rfl) hg159 rfl rfl (by kernel_rfl) ?_)
  intro W168 hg169 bs170 hb171
  have z172 := hb171.size
  simp only [lay]
  refine wn ?_
  refine wp_seq ?_
  refine wp_sr ?_
  refine lv (pq9 g1 36) (by exact xf 36 0 Try.underlying28) ?_
  simp only [lay]
  refine lv (.bool d.frag) (by exact xc Try.underlying4 ((hg3.to (b165.trans (hb171.mono l164))).cell 36 rfl)) ?_
  simp only [lay]
  refine wn ?_
  rw [show d.frag = false from by assumption]
  refine cF9 ?_
  refine wp_skip ?_
  change Code.wp _ _ _ _ _
  refine wp_sr ?_
  refine lv (.agg (v17 d.cls 0 true false 0 d.hop 1 s t (.slice none 0 0) (.slice none 0 0))) (by exact xo (hg169.load (P := Try.prog) 35 Try.underlying35 rfl (by kernel_rfl))) ?_
  simp only [lay]
  have l180 : W16.heap.size ≤ g151 := Nat.le_of_eq ge154.symm
  refine lz (ow_st 35 (.tmp 4) (.tmp 36) g15 (v17 d.cls 0 true false 0 d.hop 1 s t (.slice none 0 0) (.slice none 0 0)) _ _ rfl (by rfl) (by rfl) (hg17.to ((hb156.trans (hb161.mono l180)).trans (hb171.mono l180))) (by kernel_rfl) rfl (by kernel_rfl) ?_)
  intro W176 hg177 bs178 hb179
  have z184 := hb179.size
  have has185 := hg169.but6 bs178 (by omega)
  simp only [lay]
  refine wn ?_
  refine wp_ret ?_
  try simp only [Exit.then]
  have e : (head18 d s t []).cells pZ18 = (v17 d.cls 0 true false 0 d.hop 1 s t (.slice none 0 0) (.slice none 0 0)) := by simp only [head18, pro18, *, if_true, if_false, Bool.false_eq_true]; rfl
  have b186 := bt hb6 hb13
  have b187 := bt b186 hb20
  have l189 := lq b187 ge154
  exact bodyPost_ret (res_cell Try.results31 rfl (hg177.load (P := Try.prog) 35 Try.underlying35 rfl (by kernel_rfl))) rfl ⟨by rw [e], ((((bt b187 hb156).trans (hb161.mono l189)).trans (hb171.mono l189)).trans (hb179.mono (lq b186 ge18)))⟩
 refine lv (.bool false) (by exact yqn) ?_
 simp only [lay]
 refine wn ?_
 refine cF9 ?_
 refine wp_skip ?_
 change Code.wp _ _ _ _ _
 refine wp_seq ?_
 refine wp_sr ?_
 refine lv (pq9 g1 36) (by exact xf 36 0 Try.underlying28) ?_
 refine lv (.bool d.frag) (by exact xc Try.underlying4 (has166.cell 36 rfl)) ?_
 simp only [lay]
 refine wn ?_
 rw [show d.frag = false from by assumption]
 refine cF9 ?_
 refine wp_skip ?_
 change Code.wp _ _ _ _ _
 refine wp_sr ?_
 refine lv (.agg (v17 d.cls 0 true false 0 d.hop d.pro s t (.slice none 0 0) (.slice none 0 0))) (by exact xo (hg159.load (P := Try.prog) 35 Try.underlying35 rfl (by kernel_rfl))) ?_
 simp only [lay]
 have l199 : W16.heap.size ≤ g151 := Nat.le_of_eq ge154.symm
 refine lz (ow_st 35 (.tmp 4) (.tmp 36) g15 (v17 d.cls 0 true false 0 d.hop d.pro s t (.slice none 0 0) (.slice none 0 0)) _ _ rfl (by rfl) (by rfl) (hg17.to (hb156.trans (hb161.mono l199))) (by kernel_rfl) rfl (by kernel_rfl) ?_)
 intro W195 hg196 bs197 hb198
 have z202 := hb198.size
 have has203 := hg159.but6 bs197 (by omega)
 simp only [lay]
 refine wn ?_
 refine wp_ret ?_
 try simp only [Exit.then]
 have e : (head18 d s t []).cells pZ18 = (v17 d.cls 0 true false 0 d.hop d.pro s t (.slice none 0 0) (.slice none 0 0)) := by simp only [head18, pro18, *, if_true, if_false, Bool.false_eq_true]; rfl
 have b204 := bt hb6 hb13
 have b205 := bt b204 hb20
 exact bodyPost_ret (res_cell Try.results31 rfl (hg196.load (P := Try.prog) 35 Try.underlying35 rfl (by kernel_rfl))) rfl ⟨by rw [e], (((bt b205 hb156).trans (hb161.mono (lq b205 ge154))).trans (hb198.mono (lq b204 ge18)))⟩
set_option maxRecDepth 100000 in
set_option maxHeartbeats 1000000 in
theorem two18_any (A : Option Addr) (n c : Nat) (l : List Int) (k : Nat) (w : World) (y : By w.heap.size w A n c l) (hk : k + 2 ≤ n) (hn : k ≤ 65536) :
  Calls Try.prog 50 #[.slice A n c, .int .i64 (k : Int)] w fun e w' => e = .returned (.int .u16 (two17 l k)) ∧ Below w.heap.size w w' := by
 go_enter Try.func50, Try.ntmps50
 refine wp_sr ?_
 refine lv (.int .u16 0) (by exact xa) ?_
 simp only [lay]
 refine wn ?_
 refine wp_seq ?_
 refine rg_drawn w.heap.size (by kernel_rfl) (Nat.le_refl _) ?_
 intro W1 hb2 hs3 hS4
 have z5 := hb2.size
 refine te 0 (.slice A n c) hS4 rfl (by intro _ _; exact xm) ?_
 refine te 1 (.int .i64 (k : Int)) hS4 rfl (by intro _ _; exact xm) ?_
 simp only [lay]
 obtain ⟨b6, o7, hA8⟩ := y.form (k := k) (by omega)
 refine te 2 (pq9 b6 (o7 + k)) hS4 rfl (by intro _ _; exact ex_indexE (k := k) (by rfl) Try.underlying26 (by kernel_rfl) (by rfl) (by rfl) hA8 (by omega)) ?_
 refine te 3 (.int .u8 (l.getD k 0)) hS4 rfl (by intro _ h; exact xc Try.underlying5 ((y.to h).atE (k := k) hA8 (by omega))) ?_
 refine te 4 (.int .u16 (l.getD k 0)) hS4 rfl (by intro _ _; exact xv (conv_u16 5 33 .u8 (l.getD k 0) (by kernel_rfl) Try.underlying33 (in_rng (getD_byte y.rng k)).1 (in_rng (getD_byte y.rng k)).2.1 _)) ?_
 refine te 5 (.int .u16 ((l.getD k 0) * 256)) hS4 rfl (by intro _ _; exact xb (b_shl8_u16 _ _ (getD_byte y.rng k) _)) ?_
 simp only [lay]
 refine te 6 (.slice A n c) hS4 rfl (by intro _ _; exact xm) ?_
 refine te 7 (.int .i64 (k : Int)) hS4 rfl (by intro _ _; exact xm) ?_
 refine te 8 (.int .i64 ((k + 1 : Nat) : Int)) hS4 rfl (by intro _ _; exact xb (add1_i64 _ k (by omega) _)) ?_
 refine te 9 (pq9 b6 (o7 + (k + 1))) hS4 rfl (by intro _ _; exact ex_indexE (k := (k + 1)) (by rfl) Try.underlying26 (by kernel_rfl) (by rfl) (by rfl) hA8 (by omega)) ?_
 simp only [lay]
 refine te 10 (.int .u8 (l.getD (k + 1) 0)) hS4 rfl (by intro _ h; exact xc Try.underlying5 ((y.to h).atE (k := (k + 1)) hA8 (by omega))) ?_
 refine te 11 (.int .u16 (l.getD (k + 1) 0)) hS4 rfl (by intro _ _; exact xv (conv_u16 5 33 .u8 (l.getD (k + 1) 0) (by kernel_rfl) Try.underlying33 (in_rng (getD_byte y.rng (k + 1))).1 (in_rng (getD_byte y.rng (k + 1))).2.1 _)) ?_
 refine te 12 (.int .u16 ((l.getD k 0) * 256 + l.getD (k + 1) 0)) hS4 rfl (by intro _ _; exact xb (w_or16 _ _ _ (getD_byte y.rng k) (getD_byte y.rng (k + 1)) _)) ?_
 refine te 13 (.int .u16 ((l.getD k 0) * 256 + l.getD (k + 1) 0)) hS4 rfl (by intro _ _; exact xa) ?_
 simp only [lay]
 refine wpAnyH_done (by kernel_rfl) ?_ _
 change Code.wp _ _ _ _ _
 refine wp_ret ?_
 try simp only [Exit.then]
 exact bodyPost_ret (res_one Try.results50 rfl) rfl ⟨rfl, hb2⟩
set_option maxRecDepth 100000 in
set_option maxHeartbeats 1000000 in
theorem set18_any (g n c base k : Nat) (v : Int) (hv : 0 ≤ v ∧ v < 65536) (l : List Int) (w : World) (hO : OwnB w base (sq9 g 0 n c) l) (hk : k + 2 ≤ n) (hn : n ≤ 65536) :
  Calls Try.prog 52 #[sq9 g 0 n c, .int .i64 (k : Int), .int .u16 v] w fun e w' => e = .returned (.tuple #[]) ∧ OwnB w' base (sq9 g 0 n c) (put17 l k v) ∧ But6 g w w' ∧ Below g w w' := by
 go_enter Try.func52, Try.ntmps52
 refine wp_region_lit ?_
 refine lv (sq9 g 0 n c) (by exact xm) ?_
 refine lv (.int .i64 (k : Int)) (by exact xm) ?_
 refine lv (sq9 g 0 n c) (by exact xm) ?_
 refine lv (.int .i64 (k : Int)) (by exact xm) ?_
 simp only [lay]
 refine lv (.int .i64 ((k + 1 : Nat) : Int)) (by exact xb (add1_i64 _ k (by omega) _)) ?_
 refine lv (.int .u16 v) (by exact xm) ?_
 refine lv (.int .u16 (v / 256)) (by exact xb (w_shr16 _ _ _)) ?_
 refine lv (.int .u8 (v / 256)) (by exact xv (conv_u8' 33 5 .u16 (v / 256) (by kernel_rfl) Try.underlying5 (by omega) _)) ?_
 simp only [lay]
 refine lv (.int .u16 v) (by exact xm) ?_
 refine lv (.int .u8 (v % 256)) (by exact xv (conv_u8 33 5 .u16 v (by kernel_rfl) Try.underlying5 _)) ?_
 refine lv (pq9 g (0 + k)) (by exact ex_index (k := k) (by rfl) Try.underlying26 (by kernel_rfl) (by rfl) (by rfl) (show k < n by omega)) ?_
 simp only [lay]
 refine lz (ow_stB 5 (.tmp 16) (.tmp 13) g _ base n c (v / 256) _ rfl (by rfl) (by rfl) (by kernel_rfl) hO (by omega) (own_len hO) (by omega) ?_)
 intro W1 hO2 bs3 hb4
 have z5 := hb4.size
 simp only [lay]
 refine lv (pq9 g (0 + (k + 1))) (by exact ex_index (k := (k + 1)) (by rfl) Try.underlying26 (by kernel_rfl) (by rfl) (by rfl) (show (k + 1) < n by omega)) ?_
 simp only [lay]
 refine lz (ow_stB 5 (.tmp 17) (.tmp 15) g _ base n c (v % 256) _ rfl (by rfl) (by rfl) (by kernel_rfl) hO2 (by omega) (own_len hO2) (by omega) ?_)
 intro W6 hO7 bs8 hb9
 have z10 := hb9.size
 simp only [lay]
 refine wpList_nil ?_
 have hF := hO7
 rw [Nat.zero_add, Nat.zero_add] at hF
 exact bodyPost_nrm (res_nil Try.results52) rfl ⟨rfl, hF, bs3.trans bs8, hb4.trans hb9⟩
end Go.Proofs.Ytjnphelfloiadaa
