/-
  The walk of the law SumPseudo.
-/
import Derived.Test.YtiplnjpgaiibhaaLawSumA
import Derived.Test.YtiplnjpgaiibhaaPseudo
import Derived.Test.YtiplnjpgaiibhaaRefPseudo
namespace Go.Proofs.Ytiplnjpgaiibhaa
open Go.RowKit Go.Shelf

theorem OwnB.str {w w' : World} {base : Nat} {A : Option Addr} {n c : Nat} {l : List Int} (h : OwnB w base (.slice A n c) l) (hb : Below w.heap.size w w') : (convert 23 9 (.slice A n c)).run Try.prog w' = .ok (.string (strOfNums l)) w' := by
  obtain ⟨A', c', e, hy⟩ := h.by_
  injection e with e1 e2 e3
  subst e1 e2 e3
  exact (hy.below hb (Nat.le_refl _)).conv 23 9 Try.underlying23 Try.underlying5 Try.underlying9

set_option maxRecDepth 100000 in
set_option maxHeartbeats 1000000 in
theorem sumPseudo_long (l0 l1 l2 l3 : List Int) (p n : Int) (w : World) (a0 : l0.length = 4) (b0 : InB l0) (a1 : l1.length = 4) (b1 : InB l1) (a2 : l2.length = 16) (b2 : InB l2) (a3 : l3.length = 16) (b3 : InB l3) (hp0 : 0 ≤ p) (hp1 : p ≤ 255) (hr : n < 0 ∨ 65535 < n) (hn0 : -9223372036854775808 ≤ n) (hn1 : n ≤ 9223372036854775807) :
    Calls Try.prog 10 #[.agg (u8s l0).toArray, .agg (u8s l1).toArray, .agg (u8s l2).toArray, .agg (u8s l3).toArray, .int .u8 p, .int .i64 n] w fun e w' => e = .returned (.bool true) ∧ Below w.heap.size w w' := by
  obtain ⟨q0, q1, q2, q3, rfl⟩ := len4 a0
  obtain ⟨r0, r1, r2, r3, rfl⟩ := len4 a1
  obtain ⟨s0, s1, s2, s3, s4, s5, s6, s7, s8, s9, s10, s11, s12, s13, s14, s15, rfl⟩ := len16 a2
  obtain ⟨t0, t1, t2, t3, t4, t5, t6, t7, t8, t9, t10, t11, t12, t13, t14, t15, rfl⟩ := len16 a3
  clear a0 a1 a2 a3
  show Calls _ _ #[.agg #[.int .u8 q0, .int .u8 q1, .int .u8 q2, .int .u8 q3], .agg #[.int .u8 r0, .int .u8 r1, .int .u8 r2, .int .u8 r3], .agg #[.int .u8 s0, .int .u8 s1, .int .u8 s2, .int .u8 s3, .int .u8 s4, .int .u8 s5, .int .u8 s6, .int .u8 s7, .int .u8 s8, .int .u8 s9, .int .u8 s10, .int .u8 s11, .int .u8 s12, .int .u8 s13, .int .u8 s14, .int .u8 s15], .agg #[.int .u8 t0, .int .u8 t1, .int .u8 t2, .int .u8 t3, .int .u8 t4, .int .u8 t5, .int .u8 t6, .int .u8 t7, .int .u8 t8, .int .u8 t9, .int .u8 t10, .int .u8 t11, .int .u8 t12, .int .u8 t13, .int .u8 t14, .int .u8 t15], .int .u8 p, .int .i64 n] w _
  have hB0 : Below w.heap.size w ((((w.alloc (.cells #[.int .u8 q0, .int .u8 q1, .int .u8 q2, .int .u8 q3] 46)).alloc (.cells #[.int .u8 r0, .int .u8 r1, .int .u8 r2, .int .u8 r3] 46)).alloc (.cells #[.int .u8 s0, .int .u8 s1, .int .u8 s2, .int .u8 s3, .int .u8 s4, .int .u8 s5, .int .u8 s6, .int .u8 s7, .int .u8 s8, .int .u8 s9, .int .u8 s10, .int .u8 s11, .int .u8 s12, .int .u8 s13, .int .u8 s14, .int .u8 s15] 47)).alloc (.cells #[.int .u8 t0, .int .u8 t1, .int .u8 t2, .int .u8 t3, .int .u8 t4, .int .u8 t5, .int .u8 t6, .int .u8 t7, .int .u8 t8, .int .u8 t9, .int .u8 t10, .int .u8 t11, .int .u8 t12, .int .u8 t13, .int .u8 t14, .int .u8 t15] 47)) := ((((Below.refl _ w).alloc (Nat.le_refl _) _).alloc (by simp) _).alloc (by simp; omega) _).alloc (by simp; omega) _
  have hrH := Lib.hid hr
  clear hr
  go_enter Try.func10, Try.ntmps10
  go_wp2_with fail
  refine (pseudo4_long _ _ _ _ hrH.out _).mono ?_
  rintro e w1 ⟨rfl, hb1⟩
  have hd1 := hb1
  have hc1 := (bcell hd1).1
  have hB1 := hB0.trans (hd1.mono hB0.size)
  go_wp2_with fail
  refine (rpseudo4_long _ _ _ _ hrH.out _).mono ?_
  rintro e w2 ⟨rfl, hb2⟩
  have hd2 := hd1.trans (hb2.mono hd1.size)
  have hc2 := (bcell hd2).1
  have hB2 := hB0.trans (hd2.mono hB0.size)
  clear hc1
  go_wp2_with fail
  refine (pseudo6_long _ _ _ _ hrH.out _).mono ?_
  rintro e w3 ⟨rfl, hb3⟩
  have hd3 := hd2.trans (hb3.mono hd2.size)
  have hc3 := (bcell hd3).1
  have hB3 := hB0.trans (hd3.mono hB0.size)
  clear hc2
  go_wp2_with fail
  refine (rpseudo6_long _ _ _ _ hrH.out _).mono ?_
  rintro e w4 ⟨rfl, hb4⟩
  have hd4 := hd3.trans (hb4.mono hd3.size)
  have hc4 := (bcell hd4).1
  have hB4 := hB0.trans (hd4.mono hB0.size)
  clear hc3
  clear hc4
  have kn : ∀ w, (convert 23 9 (.slice none 0 0)).run Try.prog w = .ok (.string (strOfNums [])) w := fun w => (By.nil 0 w none (c := 0) (by omega)).conv 23 9 Try.underlying23 Try.underlying5 Try.underlying9
  go_wp2_with fail
  refine (alive_any _).mono ?_
  rintro e w6 ⟨rfl, hb6⟩
  go_wp2
  go_ret
  exact ⟨rfl, hB4.trans (hb6.mono hB4.size)⟩
set_option maxRecDepth 100000 in
set_option maxHeartbeats 1000000 in
theorem sumPseudo_ok (l0 l1 l2 l3 : List Int) (p n : Int) (w : World) (a0 : l0.length = 4) (b0 : InB l0) (a1 : l1.length = 4) (b1 : InB l1) (a2 : l2.length = 16) (b2 : InB l2) (a3 : l3.length = 16) (b3 : InB l3) (hp0 : 0 ≤ p) (hp1 : p ≤ 255) (hr : 0 ≤ n ∧ n ≤ 65535) (hn0 : -9223372036854775808 ≤ n) (hn1 : n ≤ 9223372036854775807) :
    Calls Try.prog 10 #[.agg (u8s l0).toArray, .agg (u8s l1).toArray, .agg (u8s l2).toArray, .agg (u8s l3).toArray, .int .u8 p, .int .i64 n] w fun e w' => e = .returned (.bool true) ∧ Below w.heap.size w w' := by
  obtain ⟨q0, q1, q2, q3, rfl⟩ := len4 a0
  obtain ⟨r0, r1, r2, r3, rfl⟩ := len4 a1
  obtain ⟨s0, s1, s2, s3, s4, s5, s6, s7, s8, s9, s10, s11, s12, s13, s14, s15, rfl⟩ := len16 a2
  obtain ⟨t0, t1, t2, t3, t4, t5, t6, t7, t8, t9, t10, t11, t12, t13, t14, t15, rfl⟩ := len16 a3
  clear a0 a1 a2 a3
  show Calls _ _ #[.agg #[.int .u8 q0, .int .u8 q1, .int .u8 q2, .int .u8 q3], .agg #[.int .u8 r0, .int .u8 r1, .int .u8 r2, .int .u8 r3], .agg #[.int .u8 s0, .int .u8 s1, .int .u8 s2, .int .u8 s3, .int .u8 s4, .int .u8 s5, .int .u8 s6, .int .u8 s7, .int .u8 s8, .int .u8 s9, .int .u8 s10, .int .u8 s11, .int .u8 s12, .int .u8 s13, .int .u8 s14, .int .u8 s15], .agg #[.int .u8 t0, .int .u8 t1, .int .u8 t2, .int .u8 t3, .int .u8 t4, .int .u8 t5, .int .u8 t6, .int .u8 t7, .int .u8 t8, .int .u8 t9, .int .u8 t10, .int .u8 t11, .int .u8 t12, .int .u8 t13, .int .u8 t14, .int .u8 t15], .int .u8 p, .int .i64 n] w _
  have hB0 : Below w.heap.size w ((((w.alloc (.cells #[.int .u8 q0, .int .u8 q1, .int .u8 q2, .int .u8 q3] 46)).alloc (.cells #[.int .u8 r0, .int .u8 r1, .int .u8 r2, .int .u8 r3] 46)).alloc (.cells #[.int .u8 s0, .int .u8 s1, .int .u8 s2, .int .u8 s3, .int .u8 s4, .int .u8 s5, .int .u8 s6, .int .u8 s7, .int .u8 s8, .int .u8 s9, .int .u8 s10, .int .u8 s11, .int .u8 s12, .int .u8 s13, .int .u8 s14, .int .u8 s15] 47)).alloc (.cells #[.int .u8 t0, .int .u8 t1, .int .u8 t2, .int .u8 t3, .int .u8 t4, .int .u8 t5, .int .u8 t6, .int .u8 t7, .int .u8 t8, .int .u8 t9, .int .u8 t10, .int .u8 t11, .int .u8 t12, .int .u8 t13, .int .u8 t14, .int .u8 t15] 47)) := ((((Below.refl _ w).alloc (Nat.le_refl _) _).alloc (by simp) _).alloc (by simp; omega) _).alloc (by simp; omega) _
  have hrH := Lib.hid hr
  clear hr
  go_enter Try.func10, Try.ntmps10
  go_wp2_with fail
  refine (pseudo4_ok [q0, q1, q2, q3] [r0, r1, r2, r3] rfl rfl b0 b1 p n hp0 hp1 hrH.out.1 hrH.out.2 _).mono ?_
  rintro e w1 ⟨v1, rfl, ho1, hb1⟩
  have hd1 := hb1
  have hc1 := (bcell hd1).1
  have hB1 := hB0.trans (hd1.mono hB0.size)
  obtain ⟨L1, hL1⟩ : ∃ L, [q0, q1, q2, q3] ++ [r0, r1, r2, r3] ++ [0, p, n / 256, n % 256] = L := ⟨_, rfl⟩
  rw [hL1] at ho1
  have hL1H := Lib.hid hL1
  clear hL1
  obtain ⟨P1, C1, rfl, _⟩ := own_shape ho1.own
  go_wp2_with fail
  refine (rpseudo4_ok [q0, q1, q2, q3] [r0, r1, r2, r3] rfl rfl b0 b1 p n hp0 hp1 hrH.out.1 hrH.out.2 _).mono ?_
  rintro e w2 ⟨v2, rfl, ho2, hb2⟩
  have hd2 := hd1.trans (hb2.mono hd1.size)
  have hc2 := (bcell hd2).1
  have hB2 := hB0.trans (hd2.mono hB0.size)
  clear hc1
  obtain ⟨L2, hL2⟩ : ∃ L, [q0, q1, q2, q3] ++ [r0, r1, r2, r3] ++ [0, p, n / 256, n % 256] = L := ⟨_, rfl⟩
  rw [hL2] at ho2
  have hL2H := Lib.hid hL2
  clear hL2
  obtain ⟨P2, C2, rfl, _⟩ := own_shape ho2.own
  go_wp2_with fail
  refine (pseudo6_ok [s0, s1, s2, s3, s4, s5, s6, s7, s8, s9, s10, s11, s12, s13, s14, s15] [t0, t1, t2, t3, t4, t5, t6, t7, t8, t9, t10, t11, t12, t13, t14, t15] rfl rfl b2 b3 p n hp0 hp1 hrH.out.1 hrH.out.2 _).mono ?_
  rintro e w3 ⟨v3, rfl, ho3, hb3⟩
  have hd3 := hd2.trans (hb3.mono hd2.size)
  have hc3 := (bcell hd3).1
  have hB3 := hB0.trans (hd3.mono hB0.size)
  clear hc2
  obtain ⟨L3, hL3⟩ : ∃ L, [s0, s1, s2, s3, s4, s5, s6, s7, s8, s9, s10, s11, s12, s13, s14, s15] ++ [t0, t1, t2, t3, t4, t5, t6, t7, t8, t9, t10, t11, t12, t13, t14, t15] ++ [0, 0, n / 256, n % 256, 0, 0, 0, p] = L := ⟨_, rfl⟩
  rw [hL3] at ho3
  have hL3H := Lib.hid hL3
  clear hL3
  obtain ⟨P3, C3, rfl, _⟩ := own_shape ho3.own
  go_wp2_with fail
  refine (rpseudo6_ok [s0, s1, s2, s3, s4, s5, s6, s7, s8, s9, s10, s11, s12, s13, s14, s15] [t0, t1, t2, t3, t4, t5, t6, t7, t8, t9, t10, t11, t12, t13, t14, t15] rfl rfl b2 b3 p n hp0 hp1 hrH.out.1 hrH.out.2 _).mono ?_
  rintro e w4 ⟨v4, rfl, ho4, hb4⟩
  have hd4 := hd3.trans (hb4.mono hd3.size)
  have hc4 := (bcell hd4).1
  have hB4 := hB0.trans (hd4.mono hB0.size)
  clear hc3
  obtain ⟨L4, hL4⟩ : ∃ L, [s0, s1, s2, s3, s4, s5, s6, s7, s8, s9, s10, s11, s12, s13, s14, s15] ++ [t0, t1, t2, t3, t4, t5, t6, t7, t8, t9, t10, t11, t12, t13, t14, t15] ++ [0, 0, n / 256, n % 256, 0, 0, 0, p] = L := ⟨_, rfl⟩
  rw [hL4] at ho4
  have hL4H := Lib.hid hL4
  clear hL4
  obtain ⟨P4, C4, rfl, _⟩ := own_shape ho4.own
  obtain rfl : L2 = L1 := hL2H.out.symm.trans hL1H.out
  obtain rfl : L4 = L3 := hL4H.out.symm.trans hL3H.out
  have k1 := ho1.str (hb2.trans (hb3.mono hb2.size) |>.trans (hb4.mono (Nat.le_trans hb2.size hb3.size)))
  have k2 := ho2.str (hb3.trans (hb4.mono hb3.size))
  have k3 := ho3.str hb4
  have k4 := ho4.str (Below.refl _ _)
  clear hc4
  go_wp2_with fail
  refine (alive_any _).mono ?_
  rintro e w6 ⟨rfl, hb6⟩
  go_wp2
  go_ret
  exact ⟨rfl, hB4.trans (hb6.mono hB4.size)⟩
set_option maxRecDepth 100000 in
set_option maxHeartbeats 1000000 in
theorem sumPseudo_walk (l0 l1 l2 l3 : List Int) (p n : Int) (w : World) (a0 : l0.length = 4) (b0 : InB l0) (a1 : l1.length = 4) (b1 : InB l1) (a2 : l2.length = 16) (b2 : InB l2) (a3 : l3.length = 16) (b3 : InB l3) (hp0 : 0 ≤ p) (hp1 : p ≤ 255) (hn0 : -9223372036854775808 ≤ n) (hn1 : n ≤ 9223372036854775807) :
    Calls Try.prog 10 #[.agg (u8s l0).toArray, .agg (u8s l1).toArray, .agg (u8s l2).toArray, .agg (u8s l3).toArray, .int .u8 p, .int .i64 n] w fun e w' => e = .returned (.bool true) ∧ Below w.heap.size w w' := by
  by_cases hr : n < 0 ∨ 65535 < n
  · exact sumPseudo_long l0 l1 l2 l3 p n w a0 b0 a1 b1 a2 b2 a3 b3 hp0 hp1 hr hn0 hn1
  · exact sumPseudo_ok l0 l1 l2 l3 p n w a0 b0 a1 b1 a2 b2 a3 b3 hp0 hp1 (by omega) hn0 hn1
end Go.Proofs.Ytiplnjpgaiibhaa
