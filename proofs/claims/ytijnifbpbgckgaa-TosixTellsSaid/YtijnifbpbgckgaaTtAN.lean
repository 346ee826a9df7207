/-
  Lemmas and walks for the row of TosixTells (part 14 of 39).
-/
import Derived.Test.YtijnifbpbgckgaaTtAD
import Derived.Test.YtijnifbpbgckgaaTtAM
set_option linter.unusedVariables false
set_option linter.unusedSimpArgs false
namespace Go.Proofs.Ytijnifbpbgckgaa
open Go.RowKit Go.Shelf

def Fault17 (s : Int) : Ending := .panicked [{ v := .iface 111 (.agg #[.int .i64 s]), recovered := false }]
theorem ptr17_any (n : Int) (hn : 0 ≤ n ∧ n ≤ 255) (w : World) :
    Calls Try.prog 28 #[.int .u8 n] w fun e w' => e = .returned (.tuple #[.int .u32 (ptr17 n).1, .bool (ptr17 n).2]) ∧ w = w' := by
  by_cases h0 : n = 0
  · subst h0
    rw [show ptr17 0 = (0, true) from by decide]
    go_enter Try.func28, Try.ntmps28
    go_wp2
    go_ret2
    exact ⟨rfl, rfl⟩
  by_cases h1 : n = 1
  · subst h1
    rw [show ptr17 1 = (1, true) from by decide]
    go_enter Try.func28, Try.ntmps28
    go_wp2
    go_ret2
    exact ⟨rfl, rfl⟩
  by_cases h2 : n = 2
  · subst h2
    rw [show ptr17 2 = (4, true) from by decide]
    go_enter Try.func28, Try.ntmps28
    go_wp2
    go_ret2
    exact ⟨rfl, rfl⟩
  by_cases h3 : n = 3
  · subst h3
    rw [show ptr17 3 = (4, true) from by decide]
    go_enter Try.func28, Try.ntmps28
    go_wp2
    go_ret2
    exact ⟨rfl, rfl⟩
  by_cases h8 : n = 8
  · subst h8
    rw [show ptr17 8 = (7, true) from by decide]
    go_enter Try.func28, Try.ntmps28
    go_wp2
    go_ret2
    exact ⟨rfl, rfl⟩
  by_cases h9 : n = 9
  · subst h9
    rw [show ptr17 9 = (6, true) from by decide]
    go_enter Try.func28, Try.ntmps28
    go_wp2
    go_ret2
    exact ⟨rfl, rfl⟩
  by_cases h12 : n = 12
  · subst h12
    rw [show ptr17 12 = (8, true) from by decide]
    go_enter Try.func28, Try.ntmps28
    go_wp2
    go_ret2
    exact ⟨rfl, rfl⟩
  by_cases h13 : n = 13
  · subst h13
    rw [show ptr17 13 = (8, true) from by decide]
    go_enter Try.func28, Try.ntmps28
    go_wp2
    go_ret2
    exact ⟨rfl, rfl⟩
  by_cases h14 : n = 14
  · subst h14
    rw [show ptr17 14 = (8, true) from by decide]
    go_enter Try.func28, Try.ntmps28
    go_wp2
    go_ret2
    exact ⟨rfl, rfl⟩
  by_cases h15 : n = 15
  · subst h15
    rw [show ptr17 15 = (8, true) from by decide]
    go_enter Try.func28, Try.ntmps28
    go_wp2
    go_ret2
    exact ⟨rfl, rfl⟩
  by_cases h16 : n = 16
  · subst h16
    rw [show ptr17 16 = (24, true) from by decide]
    go_enter Try.func28, Try.ntmps28
    go_wp2
    go_ret2
    exact ⟨rfl, rfl⟩
  by_cases h17 : n = 17
  · subst h17
    rw [show ptr17 17 = (24, true) from by decide]
    go_enter Try.func28, Try.ntmps28
    go_wp2
    go_ret2
    exact ⟨rfl, rfl⟩
  by_cases h18 : n = 18
  · subst h18
    rw [show ptr17 18 = (24, true) from by decide]
    go_enter Try.func28, Try.ntmps28
    go_wp2
    go_ret2
    exact ⟨rfl, rfl⟩
  by_cases h19 : n = 19
  · subst h19
    rw [show ptr17 19 = (24, true) from by decide]
    go_enter Try.func28, Try.ntmps28
    go_wp2
    go_ret2
    exact ⟨rfl, rfl⟩
  have b0 : (n == 0) = false := by simpa using h0
  have b1 : (n == 1) = false := by simpa using h1
  have b2 : (n == 2) = false := by simpa using h2
  have b3 : (n == 3) = false := by simpa using h3
  have b8 : (n == 8) = false := by simpa using h8
  have b9 : (n == 9) = false := by simpa using h9
  have b12 : (n == 12) = false := by simpa using h12
  have b13 : (n == 13) = false := by simpa using h13
  have b14 : (n == 14) = false := by simpa using h14
  have b15 : (n == 15) = false := by simpa using h15
  have b16 : (n == 16) = false := by simpa using h16
  have b17 : (n == 17) = false := by simpa using h17
  have b18 : (n == 18) = false := by simpa using h18
  have b19 : (n == 19) = false := by simpa using h19
  have e : ptr17 n = (0, false) := by unfold ptr17; rw [if_neg (by omega), if_neg (by omega), if_neg h8, if_neg h9, if_neg (by omega), if_neg (by omega)]
  have g1 : ¬ n < 2 := by omega
  have g2 : ¬ n < 4 := by omega
  have g3 : ¬ n ≤ 1 := by omega
  rw [e]
  clear e
  by_cases hq : n < 12
  · have g4 : ¬ 12 ≤ n := by omega
    have g5 : ¬ 16 ≤ n := by omega
    go_enter Try.func28, Try.ntmps28
    go_wp2
    go_ret2
    exact ⟨rfl, rfl⟩
  · have g4 : ¬ n < 16 := by omega
    have g5 : ¬ n < 20 := by omega
    have g6 : ¬ n ≤ 15 := by omega
    have g7 : ¬ n ≤ 19 := by omega
    go_enter Try.func28, Try.ntmps28
    go_wp2
    go_ret2
    exact ⟨rfl, rfl⟩
theorem rptr17_any (n : Int) (hn : 0 ≤ n ∧ n ≤ 255) (w : World) :
    Calls Try.prog 29 #[.int .u8 n] w fun e w' => e = .returned (.tuple #[.int .u32 (ptr17 n).1, .bool (ptr17 n).2]) ∧ w = w' := by
  by_cases h0 : n = 0
  · subst h0
    rw [show ptr17 0 = (0, true) from by decide]
    go_enter Try.func29, Try.ntmps29
    go_wp2
    go_ret2
    exact ⟨rfl, rfl⟩
  by_cases h1 : n = 1
  · subst h1
    rw [show ptr17 1 = (1, true) from by decide]
    go_enter Try.func29, Try.ntmps29
    go_wp2
    go_ret2
    exact ⟨rfl, rfl⟩
  by_cases h2 : n = 2
  · subst h2
    rw [show ptr17 2 = (4, true) from by decide]
    go_enter Try.func29, Try.ntmps29
    go_wp2
    go_ret2
    exact ⟨rfl, rfl⟩
  by_cases h3 : n = 3
  · subst h3
    rw [show ptr17 3 = (4, true) from by decide]
    go_enter Try.func29, Try.ntmps29
    go_wp2
    go_ret2
    exact ⟨rfl, rfl⟩
  by_cases h8 : n = 8
  · subst h8
    rw [show ptr17 8 = (7, true) from by decide]
    go_enter Try.func29, Try.ntmps29
    go_wp2
    go_ret2
    exact ⟨rfl, rfl⟩
  by_cases h9 : n = 9
  · subst h9
    rw [show ptr17 9 = (6, true) from by decide]
    go_enter Try.func29, Try.ntmps29
    go_wp2
    go_ret2
    exact ⟨rfl, rfl⟩
  by_cases h12 : n = 12
  · subst h12
    rw [show ptr17 12 = (8, true) from by decide]
    go_enter Try.func29, Try.ntmps29
    go_wp2
    go_ret2
    exact ⟨rfl, rfl⟩
  by_cases h13 : n = 13
  · subst h13
    rw [show ptr17 13 = (8, true) from by decide]
    go_enter Try.func29, Try.ntmps29
    go_wp2
    go_ret2
    exact ⟨rfl, rfl⟩
  by_cases h14 : n = 14
  · subst h14
    rw [show ptr17 14 = (8, true) from by decide]
    go_enter Try.func29, Try.ntmps29
    go_wp2
    go_ret2
    exact ⟨rfl, rfl⟩
  by_cases h15 : n = 15
  · subst h15
    rw [show ptr17 15 = (8, true) from by decide]
    go_enter Try.func29, Try.ntmps29
    go_wp2
    go_ret2
    exact ⟨rfl, rfl⟩
  by_cases h16 : n = 16
  · subst h16
    rw [show ptr17 16 = (24, true) from by decide]
    go_enter Try.func29, Try.ntmps29
    go_wp2
    go_ret2
    exact ⟨rfl, rfl⟩
  by_cases h17 : n = 17
  · subst h17
    rw [show ptr17 17 = (24, true) from by decide]
    go_enter Try.func29, Try.ntmps29
    go_wp2
    go_ret2
    exact ⟨rfl, rfl⟩
  by_cases h18 : n = 18
  · subst h18
    rw [show ptr17 18 = (24, true) from by decide]
    go_enter Try.func29, Try.ntmps29
    go_wp2
    go_ret2
    exact ⟨rfl, rfl⟩
  by_cases h19 : n = 19
  · subst h19
    rw [show ptr17 19 = (24, true) from by decide]
    go_enter Try.func29, Try.ntmps29
    go_wp2
    go_ret2
    exact ⟨rfl, rfl⟩
  have b0 : (n == 0) = false := by simpa using h0
  have b1 : (n == 1) = false := by simpa using h1
  have b2 : (n == 2) = false := by simpa using h2
  have b3 : (n == 3) = false := by simpa using h3
  have b8 : (n == 8) = false := by simpa using h8
  have b9 : (n == 9) = false := by simpa using h9
  have b12 : (n == 12) = false := by simpa using h12
  have b13 : (n == 13) = false := by simpa using h13
  have b14 : (n == 14) = false := by simpa using h14
  have b15 : (n == 15) = false := by simpa using h15
  have b16 : (n == 16) = false := by simpa using h16
  have b17 : (n == 17) = false := by simpa using h17
  have b18 : (n == 18) = false := by simpa using h18
  have b19 : (n == 19) = false := by simpa using h19
  have e : ptr17 n = (0, false) := by unfold ptr17; rw [if_neg (by omega), if_neg (by omega), if_neg h8, if_neg h9, if_neg (by omega), if_neg (by omega)]
  have g1 : ¬ n < 2 := by omega
  have g2 : ¬ n < 4 := by omega
  have g3 : ¬ n ≤ 1 := by omega
  rw [e]
  clear e
  by_cases hq : n < 12
  · have g4 : ¬ 12 ≤ n := by omega
    have g5 : ¬ 16 ≤ n := by omega
    go_enter Try.func29, Try.ntmps29
    go_wp2
    go_ret2
    exact ⟨rfl, rfl⟩
  · have g4 : ¬ n < 16 := by omega
    have g5 : ¬ n < 20 := by omega
    have g6 : ¬ n ≤ 15 := by omega
    have g7 : ¬ n ≤ 19 := by omega
    go_enter Try.func29, Try.ntmps29
    go_wp2
    go_ret2
    exact ⟨rfl, rfl⟩
theorem wrong17_any (n : Int) (w : World) :
    Calls Try.prog 37 #[.int .u8 n] w fun e w' => e = .returned (.bool (wrong17 n)) ∧ w = w' := by
  by_cases h0 : n = 0
  · subst h0
    rw [show wrong17 0 = true from by decide]
    go_enter Try.func37, Try.ntmps37
    go_wp2
    go_ret
    exact ⟨rfl, rfl⟩
  by_cases h43 : n = 43
  · subst h43
    rw [show wrong17 43 = true from by decide]
    go_enter Try.func37, Try.ntmps37
    go_wp2
    go_ret
    exact ⟨rfl, rfl⟩
  by_cases h44 : n = 44
  · subst h44
    rw [show wrong17 44 = true from by decide]
    go_enter Try.func37, Try.ntmps37
    go_wp2
    go_ret
    exact ⟨rfl, rfl⟩
  by_cases h58 : n = 58
  · subst h58
    rw [show wrong17 58 = true from by decide]
    go_enter Try.func37, Try.ntmps37
    go_wp2
    go_ret
    exact ⟨rfl, rfl⟩
  by_cases h60 : n = 60
  · subst h60
    rw [show wrong17 60 = true from by decide]
    go_enter Try.func37, Try.ntmps37
    go_wp2
    go_ret
    exact ⟨rfl, rfl⟩
  have b0 : (n == 0) = false := by simpa using h0
  have b43 : (n == 43) = false := by simpa using h43
  have b44 : (n == 44) = false := by simpa using h44
  have b58 : (n == 58) = false := by simpa using h58
  have b60 : (n == 60) = false := by simpa using h60
  have e : wrong17 n = false := by rw [wrong17_eq]; simp [h0, h43, h44, h58, h60]
  rw [e]
  clear e
  go_enter Try.func37, Try.ntmps37
  go_wp2
  go_ret
  exact ⟨rfl, rfl⟩
theorem unr17_any (n : Int) (w : World) :
    Calls Try.prog 83 #[.int .u8 n] w fun e w' => e = .returned (.tuple #[.int .u8 (unr17 n).1, .bool (unr17 n).2]) ∧ w = w' := by
  by_cases h0 : n = 0
  · subst h0
    rw [show unr17 0 = (0, true) from by decide]
    go_enter Try.func83, Try.ntmps83
    go_wp2
    go_ret2
    exact ⟨rfl, rfl⟩
  by_cases h1 : n = 1
  · subst h1
    rw [show unr17 1 = (0, true) from by decide]
    go_enter Try.func83, Try.ntmps83
    go_wp2
    go_ret2
    exact ⟨rfl, rfl⟩
  by_cases h5 : n = 5
  · subst h5
    rw [show unr17 5 = (0, true) from by decide]
    go_enter Try.func83, Try.ntmps83
    go_wp2
    go_ret2
    exact ⟨rfl, rfl⟩
  by_cases h6 : n = 6
  · subst h6
    rw [show unr17 6 = (0, true) from by decide]
    go_enter Try.func83, Try.ntmps83
    go_wp2
    go_ret2
    exact ⟨rfl, rfl⟩
  by_cases h7 : n = 7
  · subst h7
    rw [show unr17 7 = (0, true) from by decide]
    go_enter Try.func83, Try.ntmps83
    go_wp2
    go_ret2
    exact ⟨rfl, rfl⟩
  by_cases h8 : n = 8
  · subst h8
    rw [show unr17 8 = (0, true) from by decide]
    go_enter Try.func83, Try.ntmps83
    go_wp2
    go_ret2
    exact ⟨rfl, rfl⟩
  by_cases h11 : n = 11
  · subst h11
    rw [show unr17 11 = (0, true) from by decide]
    go_enter Try.func83, Try.ntmps83
    go_wp2
    go_ret2
    exact ⟨rfl, rfl⟩
  by_cases h12 : n = 12
  · subst h12
    rw [show unr17 12 = (0, true) from by decide]
    go_enter Try.func83, Try.ntmps83
    go_wp2
    go_ret2
    exact ⟨rfl, rfl⟩
  by_cases h9 : n = 9
  · subst h9
    rw [show unr17 9 = (1, true) from by decide]
    go_enter Try.func83, Try.ntmps83
    go_wp2
    go_ret2
    exact ⟨rfl, rfl⟩
  by_cases h10 : n = 10
  · subst h10
    rw [show unr17 10 = (1, true) from by decide]
    go_enter Try.func83, Try.ntmps83
    go_wp2
    go_ret2
    exact ⟨rfl, rfl⟩
  by_cases h13 : n = 13
  · subst h13
    rw [show unr17 13 = (1, true) from by decide]
    go_enter Try.func83, Try.ntmps83
    go_wp2
    go_ret2
    exact ⟨rfl, rfl⟩
  by_cases h15 : n = 15
  · subst h15
    rw [show unr17 15 = (1, true) from by decide]
    go_enter Try.func83, Try.ntmps83
    go_wp2
    go_ret2
    exact ⟨rfl, rfl⟩
  by_cases h3 : n = 3
  · subst h3
    rw [show unr17 3 = (4, true) from by decide]
    go_enter Try.func83, Try.ntmps83
    go_wp2
    go_ret2
    exact ⟨rfl, rfl⟩
  have b0 : (n == 0) = false := by simpa using h0
  have b1 : (n == 1) = false := by simpa using h1
  have b5 : (n == 5) = false := by simpa using h5
  have b6 : (n == 6) = false := by simpa using h6
  have b7 : (n == 7) = false := by simpa using h7
  have b8 : (n == 8) = false := by simpa using h8
  have b11 : (n == 11) = false := by simpa using h11
  have b12 : (n == 12) = false := by simpa using h12
  have b9 : (n == 9) = false := by simpa using h9
  have b10 : (n == 10) = false := by simpa using h10
  have b13 : (n == 13) = false := by simpa using h13
  have b15 : (n == 15) = false := by simpa using h15
  have b3 : (n == 3) = false := by simpa using h3
  have e : unr17 n = (0, false) := by unfold unr17; rw [if_neg (by omega), if_neg (by omega), if_neg h3]
  rw [e]
  clear e
  go_enter Try.func83, Try.ntmps83
  go_wp2
  go_ret2
  exact ⟨rfl, rfl⟩
theorem mtu17_any (n : Int) (hn : 0 ≤ n ∧ n < 65536) (w : World) :
    Calls Try.prog 30 #[.int .u16 n] w fun e w' => e = .returned (.int .u32 (mtu17 n)) ∧ w = w' := by
  by_cases h0 : n = 0
  · subst h0
    rw [show mtu17 0 = 1280 from by decide]
    go_enter Try.func30, Try.ntmps30
    go_wp2
    go_ret
    exact ⟨rfl, rfl⟩
  have b0 : (n == 0) = false := by simpa using h0
  by_cases h1 : n < 1260
  · have e : mtu17 n = 1280 := by unfold mtu17; rw [if_pos h1]
    have g1 : n + 20 < 1280 := by omega
    have g2 : max (n + 20) 1280 = 1280 := by omega
    rw [e]
    clear e
    go_enter Try.func30, Try.ntmps30
    go_wp2
    go_ret
    exact ⟨rfl, rfl⟩
  · have e : mtu17 n = n + 20 := by unfold mtu17; rw [if_neg h1]
    have g1 : ¬ (n + 20 < 1280) := by omega
    have g2 : max (n + 20) 1280 = n + 20 := by omega
    rw [e]
    clear e
    go_enter Try.func30, Try.ntmps30
    go_wp2
    go_ret
    exact ⟨rfl, rfl⟩
theorem rmtu17_any (n : Int) (hn : 0 ≤ n ∧ n < 65536) (w : World) :
    Calls Try.prog 31 #[.int .u16 n] w fun e w' => e = .returned (.int .u32 (mtu17 n)) ∧ w = w' := by
  by_cases h0 : n = 0
  · subst h0
    rw [show mtu17 0 = 1280 from by decide]
    go_enter Try.func31, Try.ntmps31
    go_wp2
    go_ret
    exact ⟨rfl, rfl⟩
  have b0 : (n == 0) = false := by simpa using h0
  by_cases h1 : n < 1260
  · have e : mtu17 n = 1280 := by unfold mtu17; rw [if_pos h1]
    have g1 : n + 20 < 1280 := by omega
    have g2 : max (n + 20) 1280 = 1280 := by omega
    rw [e]
    clear e
    go_enter Try.func31, Try.ntmps31
    go_wp2
    go_ret
    exact ⟨rfl, rfl⟩
  · have e : mtu17 n = n + 20 := by unfold mtu17; rw [if_neg h1]
    have g1 : ¬ (n + 20 < 1280) := by omega
    have g2 : max (n + 20) 1280 = n + 20 := by omega
    rw [e]
    clear e
    go_enter Try.func31, Try.ntmps31
    go_wp2
    go_ret
    exact ⟨rfl, rfl⟩
theorem when17_no (s : Int) (w : World) : Calls Try.prog 35 #[.bool false, .int .i64 s] w fun e w' => e = .returned (.tuple #[]) ∧ w = w' := by
  go_enter Try.func35, Try.ntmps35
  go_wp2
  go_end0
  exact ⟨rfl, rfl⟩
theorem when17_yes (s : Int) (w : World) : Calls Try.prog 35 #[.bool true, .int .i64 s] w fun e w' => e = Fault17 s ∧ w = w' := by
  go_enter Try.func35, Try.ntmps35
  go_wp2
  exact ⟨rfl, rfl, rfl⟩
theorem must17_no (w : World) : Calls Try.prog 33 #[.int .i64 0] w fun e w' => e = .returned (.tuple #[]) ∧ w = w' := by
  go_enter Try.func33, Try.ntmps33
  go_wp2_with fail
  refine (when17_no 0 w).mono ?_
  rintro e w' ⟨rfl, rfl⟩
  go_wp2
  go_end0
  exact ⟨rfl, rfl⟩
theorem must17_yes (s : Int) (h : s ≠ 0) (w : World) : Calls Try.prog 33 #[.int .i64 s] w fun e w' => e = Fault17 s ∧ w = w' := by
  have hb : (s != 0) = true := by simpa using h
  go_enter Try.func33, Try.ntmps33
  go_wp2_with fail
  refine (when17_yes s w).mono ?_
  rintro e w' ⟨rfl, rfl⟩
  exact ⟨rfl, rfl, rfl⟩
end Go.Proofs.Ytijnifbpbgckgaa
