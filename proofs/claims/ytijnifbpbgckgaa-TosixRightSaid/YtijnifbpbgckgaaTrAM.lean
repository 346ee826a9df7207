/-
  Lemmas and walks for the row of TosixRight (part 13 of 33).
-/
import Derived.Test.YtijnifbpbgckgaaTrAB
import Derived.Test.YtijnifbpbgckgaaTrAD
import Derived.Test.YtijnifbpbgckgaaTrAI
import Derived.Test.YtijnifbpbgckgaaTrAK
import Derived.Test.YtijnifbpbgckgaaTrAL
import Derived.Lib.SliceRun
set_option linter.unusedVariables false
set_option linter.unusedSimpArgs false
namespace Go.Proofs.Ytijnifbpbgckgaa
open Go.RowKit Go.Shelf

theorem icmp_info : (Try.prog.info? 46).map (·.size) = some 4 := by kernel_rfl

theorem long7_any (d : D7) (A : Option Addr) (c : Nat) (w : World) (hb : d.bl.length ≤ 9223372036854775807) :
    Calls Try.prog 68 #[.agg (d.cells A c)] w fun e w' => ∃ q : Bool, e = .returned (.bool q) ∧ Hid (q = decide (65527 < d.bl.length)) ∧ Below w.heap.size w w' := by
  unfold D7.cells
  go_enter Try.func68, Try.ntmps68
  go_wp2
  go_ret
  exact ⟨_, rfl, Lib.hid (decide_eq_decide.2 (by omega)), (Below.refl _ _).alloc (Nat.le_refl _) _⟩

set_option maxRecDepth 100000 in
theorem write7_any (d : D7) (A : Option Addr) (c : Nat) (Ap : Option Addr) (cp : Nat) (ps : List Int) (w : World) (hR : Rd7 w.heap.size w d A c) (hp : By w.heap.size w Ap ps.length cp ps) (h0 : d.bl.length ≤ 65527) :
    Calls Try.prog 70 #[.agg (d.cells A c), .slice Ap ps.length cp] w fun e w' => ∃ v, e = .returned v ∧ OwnB w' w.heap.size v (d.bytes ps) ∧ Below w.heap.size w w' := by
  have r1 := hR.ok.ty
  have r2 := hR.ok.code
  have r3 := hR.ok.rest
  have hB : Below w.heap.size w (w.alloc (.cells (d.cells A c) 46)) := (Below.refl _ _).alloc (Nat.le_refl _) _
  have hH : Has (w.alloc (.cells (d.cells A c) 46)) w.heap.size (.cells (d.cells A c) 46 (0, 0)) := Has.newAt rfl
  unfold D7.cells
  go_enter Try.func70, Try.ntmps70
  go_wp2_with fail
  refine (of_new [(Ap, cp, ps), (some ⟨w.heap.size + 1, 0, none⟩, 8, d.first 0), (A, c, d.bl)] 3 (by simp only [List.map_cons, List.map_nil]; exact Has.newAt (by simp)) rfl
    (all3 (By.more (B := w.heap.size) (by repeat (first | exact hp | refine By.alloc ?_ (by simp; try omega) _)) (by simp; try omega))
      (By.blk (t := 5) (fz := (0, 0)) (by repeat (first | exact Has.newAt (by simp) | refine Has.alloc ?_)) (Nat.le_refl _) (d.first_rng hR.ok (by decide)) (by simp [D7.first]) rfl rfl)
      (By.more (B := w.heap.size) (by repeat (first | exact hR.body | refine By.alloc ?_ (by simp; try omega) _)) (by simp; try omega))) (by simp)).mono ?_
  rintro e w5 ⟨q, rfl, hq, hq2, hb5⟩
  have hA : Has w5 (w.heap.size + 1) (.cells (u8s (d.first 0)).toArray 5 (0, 0)) := Has.below (by repeat (first | exact Has.newAt (by simp) | refine Has.alloc ?_)) hb5 (by simp; try omega)
  have hH5 := (hH.alloc.alloc).below hb5 (by simp; try omega)
  have hBD : Below w.heap.size w w5 := Below.trans (by repeat (first | exact Below.refl _ _ | refine Below.alloc ?_ (by simp; try omega) _)) (hb5.mono (by simp; try omega))
  have hqs : q = d.sum ps := by rw [hq.out]; simp [flat, D7.sum]
  have hA9 := (hA.setCell 2 (.int .u8 (q / 256))).setCell 3 (.int .u8 (q % 256))
  have hBE := Lib.hid (below_setCell (below_setCell hBD (Nat.le_succ _) 2 (.int .u8 (q / 256))) (Nat.le_succ _) 3 (.int .u8 (q % 256)))
  have e9 : ((u8s (d.first 0)).toArray.setIfInBounds 2 (.int .u8 (q / 256))).setIfInBounds 3 (.int .u8 (q % 256)) = (u8s (d.first q)).toArray := rfl
  rw [e9] at hA9
  have own := Lib.hid (OwnB.blk (n := 8) hA9 (Nat.le_succ w.heap.size) rfl (d.first_rng hR.ok hq2) (by simp [D7.first]))
  have yB := Lib.hid (hR.body.below hBE.out (Nat.le_refl _))
  have d2 := hA.cell 2 (v := .int .u8 0) rfl
  have d3 := hA.cell 3 (v := .int .u8 0) rfl
  have f2 := hA.free 2
  have f3 := hA.free 3
  have c3 := hH5.cell 3 (v := .slice A d.bl.length c) rfl
  have hs := Lib.hid hBE.out.size
  have hqsH := Lib.hid hqs
  clear hq hqs hA hA9 e9 hb5 hB hH hH5 hBD
  go_wp2_with (at_builtin; refine wpList_appB _ rfl _ _ _ rfl Try.underlying25 info8 w.heap.size _ (d.first q) rfl own.out _ A d.bl.length c d.bl rfl yB.out (by simp [D7.first]; omega) hs.out ?_; intro v' w7 own7 hg hat; have hbel := below_app own.out hg hs.out; obtain ⟨A', c', rfl, _⟩ := own_shape own7.own; clear d2 d3 f2 f3 c3)
  go_ret
  refine ⟨_, rfl, ?_, hBE.out.trans hbel⟩
  rw [D7.bytes, ← hqsH.out]
  rw [List.length_append] at own7
  exact own7

end Go.Proofs.Ytijnifbpbgckgaa
namespace Go.Proofs.Ytijnifbpbgckgaa
open Go.RowKit Go.Shelf

def Fault17 (s : Int) : Ending := .panicked [{ v := .iface 111 (.agg #[.int .i64 s]), recovered := false }]
theorem ptr17_any (n : Int) (hn : 0 ≤ n ∧ n ≤ 255) (w : World) :
    Calls Try.prog 28 #[.int .u8 n] w fun e w' => e = .returned (.tuple #[.int .u32 (ptr17 n).1, .bool (ptr17 n).2]) ∧ w = w' := by
  by_cases h0 : n = 0
  · subst h0
    rw [show ptr17 0 = (0, true) from by decide]
    go_enter Try.func28, Try.ntmps28
    go_wp2
    go_ret2
    exact ⟨rfl, rfl⟩
  by_cases h1 : n = 1
  · subst h1
    rw [show ptr17 1 = (1, true) from by decide]
    go_enter Try.func28, Try.ntmps28
    go_wp2
    go_ret2
    exact ⟨rfl, rfl⟩
  by_cases h2 : n = 2
  · subst h2
    rw [show ptr17 2 = (4, true) from by decide]
    go_enter Try.func28, Try.ntmps28
    go_wp2
    go_ret2
    exact ⟨rfl, rfl⟩
  by_cases h3 : n = 3
  · subst h3
    rw [show ptr17 3 = (4, true) from by decide]
    go_enter Try.func28, Try.ntmps28
    go_wp2
    go_ret2
    exact ⟨rfl, rfl⟩
  by_cases h8 : n = 8
  · subst h8
    rw [show ptr17 8 = (7, true) from by decide]
    go_enter Try.func28, Try.ntmps28
    go_wp2
    go_ret2
    exact ⟨rfl, rfl⟩
  by_cases h9 : n = 9
  · subst h9
    rw [show ptr17 9 = (6, true) from by decide]
    go_enter Try.func28, Try.ntmps28
    go_wp2
    go_ret2
    exact ⟨rfl, rfl⟩
  by_cases h12 : n = 12
  · subst h12
    rw [show ptr17 12 = (8, true) from by decide]
    go_enter Try.func28, Try.ntmps28
    go_wp2
    go_ret2
    exact ⟨rfl, rfl⟩
  by_cases h13 : n = 13
  · subst h13
    rw [show ptr17 13 = (8, true) from by decide]
    go_enter Try.func28, Try.ntmps28
    go_wp2
    go_ret2
    exact ⟨rfl, rfl⟩
  by_cases h14 : n = 14
  · subst h14
    rw [show ptr17 14 = (8, true) from by decide]
    go_enter Try.func28, Try.ntmps28
    go_wp2
    go_ret2
    exact ⟨rfl, rfl⟩
  by_cases h15 : n = 15
  · subst h15
    rw [show ptr17 15 = (8, true) from by decide]
    go_enter Try.func28, Try.ntmps28
    go_wp2
    go_ret2
    exact ⟨rfl, rfl⟩
  by_cases h16 : n = 16
  · subst h16
    rw [show ptr17 16 = (24, true) from by decide]
    go_enter Try.func28, Try.ntmps28
    go_wp2
    go_ret2
    exact ⟨rfl, rfl⟩
  by_cases h17 : n = 17
  · subst h17
    rw [show ptr17 17 = (24, true) from by decide]
    go_enter Try.func28, Try.ntmps28
    go_wp2
    go_ret2
    exact ⟨rfl, rfl⟩
  by_cases h18 : n = 18
  · subst h18
    rw [show ptr17 18 = (24, true) from by decide]
    go_enter Try.func28, Try.ntmps28
    go_wp2
    go_ret2
    exact ⟨rfl, rfl⟩
  by_cases h19 : n = 19
  · subst h19
    rw [show ptr17 19 = (24, true) from by decide]
    go_enter Try.func28, Try.ntmps28
    go_wp2
    go_ret2
    exact ⟨rfl, rfl⟩
  have b0 : (n == 0) = false := by simpa using h0
  have b1 : (n == 1) = false := by simpa using h1
  have b2 : (n == 2) = false := by simpa using h2
  have b3 : (n == 3) = false := by simpa using h3
  have b8 : (n == 8) = false := by simpa using h8
  have b9 : (n == 9) = false := by simpa using h9
  have b12 : (n == 12) = false := by simpa using h12
  have b13 : (n == 13) = false := by simpa using h13
  have b14 : (n == 14) = false := by simpa using h14
  have b15 : (n == 15) = false := by simpa using h15
  have b16 : (n == 16) = false := by simpa using h16
  have b17 : (n == 17) = false := by simpa using h17
  have b18 : (n == 18) = false := by simpa using h18
  have b19 : (n == 19) = false := by simpa using h19
  have e : ptr17 n = (0, false) := by unfold ptr17; rw [if_neg (by omega), if_neg (by omega), if_neg h8, if_neg h9, if_neg (by omega), if_neg (by omega)]
  have g1 : ¬ n < 2 := by omega
  have g2 : ¬ n < 4 := by omega
  have g3 : ¬ n ≤ 1 := by omega
  rw [e]
  clear e
  by_cases hq : n < 12
  · have g4 : ¬ 12 ≤ n := by omega
    have g5 : ¬ 16 ≤ n := by omega
    go_enter Try.func28, Try.ntmps28
    go_wp2
    go_ret2
    exact ⟨rfl, rfl⟩
  · have g4 : ¬ n < 16 := by omega
    have g5 : ¬ n < 20 := by omega
    have g6 : ¬ n ≤ 15 := by omega
    have g7 : ¬ n ≤ 19 := by omega
    go_enter Try.func28, Try.ntmps28
    go_wp2
    go_ret2
    exact ⟨rfl, rfl⟩
theorem wrong17_any (n : Int) (w : World) :
    Calls Try.prog 37 #[.int .u8 n] w fun e w' => e = .returned (.bool (wrong17 n)) ∧ w = w' := by
  by_cases h0 : n = 0
  · subst h0
    rw [show wrong17 0 = true from by decide]
    go_enter Try.func37, Try.ntmps37
    go_wp2
    go_ret
    exact ⟨rfl, rfl⟩
  by_cases h43 : n = 43
  · subst h43
    rw [show wrong17 43 = true from by decide]
    go_enter Try.func37, Try.ntmps37
    go_wp2
    go_ret
    exact ⟨rfl, rfl⟩
  by_cases h44 : n = 44
  · subst h44
    rw [show wrong17 44 = true from by decide]
    go_enter Try.func37, Try.ntmps37
    go_wp2
    go_ret
    exact ⟨rfl, rfl⟩
  by_cases h58 : n = 58
  · subst h58
    rw [show wrong17 58 = true from by decide]
    go_enter Try.func37, Try.ntmps37
    go_wp2
    go_ret
    exact ⟨rfl, rfl⟩
  by_cases h60 : n = 60
  · subst h60
    rw [show wrong17 60 = true from by decide]
    go_enter Try.func37, Try.ntmps37
    go_wp2
    go_ret
    exact ⟨rfl, rfl⟩
  have b0 : (n == 0) = false := by simpa using h0
  have b43 : (n == 43) = false := by simpa using h43
  have b44 : (n == 44) = false := by simpa using h44
  have b58 : (n == 58) = false := by simpa using h58
  have b60 : (n == 60) = false := by simpa using h60
  have e : wrong17 n = false := by rw [wrong17_eq]; simp [h0, h43, h44, h58, h60]
  rw [e]
  clear e
  go_enter Try.func37, Try.ntmps37
  go_wp2
  go_ret
  exact ⟨rfl, rfl⟩
theorem unr17_any (n : Int) (w : World) :
    Calls Try.prog 83 #[.int .u8 n] w fun e w' => e = .returned (.tuple #[.int .u8 (unr17 n).1, .bool (unr17 n).2]) ∧ w = w' := by
  by_cases h0 : n = 0
  · subst h0
    rw [show unr17 0 = (0, true) from by decide]
    go_enter Try.func83, Try.ntmps83
    go_wp2
    go_ret2
    exact ⟨rfl, rfl⟩
  by_cases h1 : n = 1
  · subst h1
    rw [show unr17 1 = (0, true) from by decide]
    go_enter Try.func83, Try.ntmps83
    go_wp2
    go_ret2
    exact ⟨rfl, rfl⟩
  by_cases h5 : n = 5
  · subst h5
    rw [show unr17 5 = (0, true) from by decide]
    go_enter Try.func83, Try.ntmps83
    go_wp2
    go_ret2
    exact ⟨rfl, rfl⟩
  by_cases h6 : n = 6
  · subst h6
    rw [show unr17 6 = (0, true) from by decide]
    go_enter Try.func83, Try.ntmps83
    go_wp2
    go_ret2
    exact ⟨rfl, rfl⟩
  by_cases h7 : n = 7
  · subst h7
    rw [show unr17 7 = (0, true) from by decide]
    go_enter Try.func83, Try.ntmps83
    go_wp2
    go_ret2
    exact ⟨rfl, rfl⟩
  by_cases h8 : n = 8
  · subst h8
    rw [show unr17 8 = (0, true) from by decide]
    go_enter Try.func83, Try.ntmps83
    go_wp2
    go_ret2
    exact ⟨rfl, rfl⟩
  by_cases h11 : n = 11
  · subst h11
    rw [show unr17 11 = (0, true) from by decide]
    go_enter Try.func83, Try.ntmps83
    go_wp2
    go_ret2
    exact ⟨rfl, rfl⟩
  by_cases h12 : n = 12
  · subst h12
    rw [show unr17 12 = (0, true) from by decide]
    go_enter Try.func83, Try.ntmps83
    go_wp2
    go_ret2
    exact ⟨rfl, rfl⟩
  by_cases h9 : n = 9
  · subst h9
    rw [show unr17 9 = (1, true) from by decide]
    go_enter Try.func83, Try.ntmps83
    go_wp2
    go_ret2
    exact ⟨rfl, rfl⟩
  by_cases h10 : n = 10
  · subst h10
    rw [show unr17 10 = (1, true) from by decide]
    go_enter Try.func83, Try.ntmps83
    go_wp2
    go_ret2
    exact ⟨rfl, rfl⟩
  by_cases h13 : n = 13
  · subst h13
    rw [show unr17 13 = (1, true) from by decide]
    go_enter Try.func83, Try.ntmps83
    go_wp2
    go_ret2
    exact ⟨rfl, rfl⟩
  by_cases h15 : n = 15
  · subst h15
    rw [show unr17 15 = (1, true) from by decide]
    go_enter Try.func83, Try.ntmps83
    go_wp2
    go_ret2
    exact ⟨rfl, rfl⟩
  by_cases h3 : n = 3
  · subst h3
    rw [show unr17 3 = (4, true) from by decide]
    go_enter Try.func83, Try.ntmps83
    go_wp2
    go_ret2
    exact ⟨rfl, rfl⟩
  have b0 : (n == 0) = false := by simpa using h0
  have b1 : (n == 1) = false := by simpa using h1
  have b5 : (n == 5) = false := by simpa using h5
  have b6 : (n == 6) = false := by simpa using h6
  have b7 : (n == 7) = false := by simpa using h7
  have b8 : (n == 8) = false := by simpa using h8
  have b11 : (n == 11) = false := by simpa using h11
  have b12 : (n == 12) = false := by simpa using h12
  have b9 : (n == 9) = false := by simpa using h9
  have b10 : (n == 10) = false := by simpa using h10
  have b13 : (n == 13) = false := by simpa using h13
  have b15 : (n == 15) = false := by simpa using h15
  have b3 : (n == 3) = false := by simpa using h3
  have e : unr17 n = (0, false) := by unfold unr17; rw [if_neg (by omega), if_neg (by omega), if_neg h3]
  rw [e]
  clear e
  go_enter Try.func83, Try.ntmps83
  go_wp2
  go_ret2
  exact ⟨rfl, rfl⟩
theorem mtu17_any (n : Int) (hn : 0 ≤ n ∧ n < 65536) (w : World) :
    Calls Try.prog 30 #[.int .u16 n] w fun e w' => e = .returned (.int .u32 (mtu17 n)) ∧ w = w' := by
  by_cases h0 : n = 0
  · subst h0
    rw [show mtu17 0 = 1280 from by decide]
    go_enter Try.func30, Try.ntmps30
    go_wp2
    go_ret
    exact ⟨rfl, rfl⟩
  have b0 : (n == 0) = false := by simpa using h0
  by_cases h1 : n < 1260
  · have e : mtu17 n = 1280 := by unfold mtu17; rw [if_pos h1]
    have g1 : n + 20 < 1280 := by omega
    have g2 : max (n + 20) 1280 = 1280 := by omega
    rw [e]
    clear e
    go_enter Try.func30, Try.ntmps30
    go_wp2
    go_ret
    exact ⟨rfl, rfl⟩
  · have e : mtu17 n = n + 20 := by unfold mtu17; rw [if_neg h1]
    have g1 : ¬ (n + 20 < 1280) := by omega
    have g2 : max (n + 20) 1280 = n + 20 := by omega
    rw [e]
    clear e
    go_enter Try.func30, Try.ntmps30
    go_wp2
    go_ret
    exact ⟨rfl, rfl⟩
theorem when17_no (s : Int) (w : World) : Calls Try.prog 35 #[.bool false, .int .i64 s] w fun e w' => e = .returned (.tuple #[]) ∧ w = w' := by
  go_enter Try.func35, Try.ntmps35
  go_wp2
  go_end0
  exact ⟨rfl, rfl⟩
theorem when17_yes (s : Int) (w : World) : Calls Try.prog 35 #[.bool true, .int .i64 s] w fun e w' => e = Fault17 s ∧ w = w' := by
  go_enter Try.func35, Try.ntmps35
  go_wp2
  exact ⟨rfl, rfl, rfl⟩
theorem must17_no (w : World) : Calls Try.prog 33 #[.int .i64 0] w fun e w' => e = .returned (.tuple #[]) ∧ w = w' := by
  go_enter Try.func33, Try.ntmps33
  go_wp2_with fail
  refine (when17_no 0 w).mono ?_
  rintro e w' ⟨rfl, rfl⟩
  go_wp2
  go_end0
  exact ⟨rfl, rfl⟩
theorem must17_yes (s : Int) (h : s ≠ 0) (w : World) : Calls Try.prog 33 #[.int .i64 s] w fun e w' => e = Fault17 s ∧ w = w' := by
  have hb : (s != 0) = true := by simpa using h
  go_enter Try.func33, Try.ntmps33
  go_wp2_with fail
  refine (when17_yes s w).mono ?_
  rintro e w' ⟨rfl, rfl⟩
  exact ⟨rfl, rfl, rfl⟩
end Go.Proofs.Ytijnifbpbgckgaa
