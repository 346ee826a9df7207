/-
  Lemmas and walks for the row of TosixRight (part 17 of 33).
-/
import Derived.Test.YtijnifbpbgckgaaTrAF
import Derived.Test.YtijnifbpbgckgaaTrAP
set_option linter.unusedVariables false
set_option linter.unusedSimpArgs false
namespace Go.Proofs.Ytijnifbpbgckgaa
open Go.RowKit Go.Shelf
attribute [local irreducible] wpList Code.wp Oper.wp wpOp wpAnyH

theorem update_one {was : Int} {A1 A2 : Option Addr} {n1 n2 c1 c2 : Nat} {l1 l2 : List Int} {w : World} (hn : 0 ≤ was ∧ was < 65536) (h1 : By w.heap.size w A1 n1 c1 l1) (h2 : By w.heap.size w A2 n2 c2 l2) (he : l1.length = l2.length ∧ l2.length % 2 = 0) :
  Calls Try.prog 88 #[.int .u16 was, .slice A1 n1 c1, .slice A2 n2 c2] w fun e w' => ∃ v, e = .returned v ∧ (∃ q, v = .tuple #[.int .u16 q, .int .i64 0] ∧ q = (updateS was l1 l2).1 ∧ 0 ≤ q ∧ q < 65536) ∧ Below w.heap.size w w' := by
 obtain rfl := h1.len
 obtain rfl := h2.len
 refine (update_any was hn A1 A2 c1 c2 l1 l2 w h1 h2).mono fun e w' h => ?_
 obtain ⟨⟨q, er, rfl, hq⟩, hb⟩ := h
 have hq := hq.out
 have h0 := updateS_rng was hn l1 l2 h1.rng h2.rng
 obtain rfl : er = 0 := by rw [hq.2, updateS, if_pos he]
 exact ⟨_, rfl, ⟨q, rfl, hq.1, by rw [hq.1]; exact h0.1, by rw [hq.1]; exact h0.2⟩, hb⟩

set_option maxRecDepth 100000 in
set_option maxHeartbeats 1000000 in
theorem carry17_any (udp : Bool) (A1 A2 : Option Addr) (c1 c2 : Nat) (f t : List Int) (A : Option Addr) (n c : Nat) (l : List Int) (k : Nat) (w : World) (yf : By w.heap.size w A1 f.length c1 f) (yt : By w.heap.size w A2 t.length c2 t) (y : By w.heap.size w A n c l) (hk : k + 2 ≤ n) (hn : n ≤ 140737488355328) (he : f.length = t.length ∧ t.length % 2 = 0) :
  Calls Try.prog 72 #[.agg #[.slice A1 f.length c1, .slice A2 t.length c2, .bool udp], .slice A n c, .int .i64 (k : Int)] w fun e w' => ∃ v, e = .returned v ∧ OwnB w' w.heap.size v (carry17 udp f t l k) ∧ Below w.heap.size w w' := by
 have yl := y.len
 go_enter Try.func72, Try.ntmps72
 refine wp_sr ?_
 refine lz (ow_box 123 (.tmp 0) _ rfl rfl ?_)
 intro g1 W2 hg3 ge4 sz5 hb6
 have z7 := hb6.size
 simp only [lay]
 refine lv (.slice none 0 0) (by exact xa) ?_
 simp only [lay]
 refine wn ?_
 refine wp_sr ?_
 refine lv (.slice A n c) (by exact xm) ?_
 simp only [lay]
 have by8 := y.to hb6
 refine lz (ow_call (fun v w' => OwnB w' W2.heap.size v l ∧ Below W2.heap.size W2 w') (by exact xk Try.func51) (clone_n _ _ _ l W2 by8 (by omega)) ?_)
 rintro v11 W9 ⟨hO12, hb10⟩
 have z13 := hb10.size
 obtain ⟨A14, c15, rfl, y16⟩ := hO12.by_
 simp only [lay]
 refine lv (.slice A14 l.length c15) (by exact xa) ?_
 simp only [lay]
 refine wn ?_
 refine wp_seq ?_
 refine rg_drawn W9.heap.size (by kernel_rfl) (Nat.le_refl _) ?_
 intro W17 hb18 hs19 hS20
 have z21 := hb18.size
 refine te 0 (.slice A14 l.length c15) hS20 rfl (by intro _ _; exact xm) ?_
 simp only [lay]
 refine te 1 (.int .i64 (k : Int)) hS20 rfl (by intro _ _; exact xm) ?_
 simp only [lay]
 obtain ⟨g22, rfl, h23, h24⟩ := own_form hO12 (by first | omega | simp [D4.src])
 refine te 2 (.pointer (some ⟨g22, 0 + k, none⟩)) hS20 rfl (by intro _ _; exact ex_index (k := k) (by exact rfl) Try.underlying25 (by kernel_rfl) (by exact rfl) (by exact rfl) (show k < l.length by omega)) ?_
 simp only [lay]
 refine te 3 (.int .u8 (l.getD k 0)) hS20 rfl (by intro _ h; exact xc Try.underlying5 ((own_byS (hO12.to h)).atE (k := k) rfl (by omega))) ?_
 simp only [lay]
 refine te 4 (.int .u16 (l.getD k 0)) hS20 rfl (by intro _ _; exact xv (conv_u16 5 22 .u8 (l.getD k 0) (by kernel_rfl) Try.underlying22 (in_rng (getD_byte hO12.rng k)).1 (in_rng (getD_byte hO12.rng k)).2.1 _)) ?_
 simp only [lay]
 refine te 5 (.int .u16 ((l.getD k 0) * 256)) hS20 rfl (by intro _ _; exact xb (b_shl8_u16 _ _ (getD_byte hO12.rng k) _)) ?_
 simp only [lay]
 refine te 6 (.slice (some ⟨g22, 0, none⟩) l.length c15) hS20 rfl (by intro _ _; exact xm) ?_
 simp only [lay]
 refine te 7 (.int .i64 (k : Int)) hS20 rfl (by intro _ _; exact xm) ?_
 simp only [lay]
 refine te 8 (.int .i64 ((k + 1 : Nat) : Int)) hS20 rfl (by intro _ _; exact xb (add1_i64 _ k (by omega) _)) ?_
 simp only [lay]
 refine te 9 (.pointer (some ⟨g22, 0 + (k + 1), none⟩)) hS20 rfl (by intro _ _; exact ex_index (k := (k + 1)) (by exact rfl) Try.underlying25 (by kernel_rfl) (by exact rfl) (by exact rfl) (show (k + 1) < l.length by omega)) ?_
 simp only [lay]
 refine te 10 (.int .u8 (l.getD (k + 1) 0)) hS20 rfl (by intro _ h; exact xc Try.underlying5 ((own_byS (hO12.to h)).atE (k := (k + 1)) rfl (by omega))) ?_
 simp only [lay]
 refine te 11 (.int .u16 (l.getD (k + 1) 0)) hS20 rfl (by intro _ _; exact xv (conv_u16 5 22 .u8 (l.getD (k + 1) 0) (by kernel_rfl) Try.underlying22 (in_rng (getD_byte hO12.rng (k + 1))).1 (in_rng (getD_byte hO12.rng (k + 1))).2.1 _)) ?_
 simp only [lay]
 refine te 12 (.int .u16 ((l.getD k 0) * 256 + l.getD (k + 1) 0)) hS20 rfl (by intro _ _; exact xb (w_or16 _ _ _ (getD_byte hO12.rng k) (getD_byte hO12.rng (k + 1)) _)) ?_
 simp only [lay]
 refine te 13 (.pointer (some ⟨g1, 0, none⟩)) hS20 rfl (by intro _ _; exact xf 0 0 Try.underlying123) ?_
 simp only [lay]
 have has25 := hg3.to hb10
 refine te 14 (.slice A1 f.length c1) hS20 rfl (by intro _ h; exact xc Try.underlying25 ((has25.to h).cell 0 rfl)) ?_
 simp only [lay]
 refine te 15 (.pointer (some ⟨g1, 1, none⟩)) hS20 rfl (by intro _ _; exact xf 1 0 Try.underlying123) ?_
 simp only [lay]
 refine te 16 (.slice A2 t.length c2) hS20 rfl (by intro _ h; exact xc Try.underlying25 ((has25.to h).cell 1 rfl)) ?_
 simp only [lay]
 have b26 := bt hb6 hb10
 have b27 := bt b26 hb18
 have by28 := yf.to b27
 have by29 := yt.to b27
 refine t1 17 rfl (ow_call (fun v w' => (∃ q, v = .tuple #[.int .u16 q, .int .i64 0] ∧ q = (updateS ((l.getD k 0) * 256 + l.getD (k + 1) 0) f t).1 ∧ 0 ≤ q ∧ q < 65536) ∧ Below W17.heap.size W17 w') (by exact xk Try.func88) (update_one (two_rng (getD_byte hO12.rng k) (getD_byte hO12.rng (k + 1))) by28 by29 he) ?_)
 rintro _ W30 ⟨⟨q32, rfl, hq33, q034, q135⟩, hb31⟩
 have z36 := hb31.size
 refine ⟨(Below.trans hS20 (hb31.mono hS20.size)), ?_⟩
 have hS37 := (Below.trans hS20 (hb31.mono hS20.size))
 simp only [lay]
 refine te 18 (.tuple #[.int .u16 q32, .int .i64 0]) hS37 rfl (by intro _ _; exact xm) ?_
 simp only [lay]
 refine te 19 (.int .u16 q32) hS37 rfl (by intro _ _; exact xe) ?_
 simp only [lay]
 refine te 20 (.int .i64 0) hS37 rfl (by intro _ _; exact xe) ?_
 simp only [lay]
 refine te 21 (.int .u16 q32) hS37 rfl (by intro _ _; exact xa) ?_
 simp only [lay]
 refine te 22 (.int .i64 0) hS37 rfl (by intro _ _; exact xa) ?_
 simp only [lay]
 refine wpAnyH_done (by kernel_rfl) ?_ _
 change Code.wp _ _ _ _ _
 refine wp_sr ?_
 refine lv (.int .i64 0) (by exact xm) ?_
 simp only [lay]
 refine lz (ow_same (.tuple #[]) (by exact xk Try.func33) (must17_no W30) ?_)
 simp only [lay]
 refine wn ?_
 refine wp_seq ?_
 refine rg_drawn g22 (by kernel_rfl) (by omega) ?_
 intro W38 hb39 hs40 hS41
 have z42 := hb39.size
 refine te 0 (.slice (some ⟨g22, 0, none⟩) l.length c15) hS41 rfl (by intro _ _; exact xm) ?_
 simp only [lay]
 refine te 1 (.int .i64 (k : Int)) hS41 rfl (by intro _ _; exact xm) ?_
 simp only [lay]
 have b43 := bt hb18 hb31
 have b44 := bt b43 hb39
 have own45 := hO12.to b44
 refine te 2 (.slice (some ⟨g22, 0 + k, none⟩) (l.length - k) (c15 - k)) hS41 rfl (by intro _ _; exact ex_slice (by exact rfl) (by exact rfl) (slice_tail (n := l.length) (c := c15) (k := k) Try.underlying25 (by kernel_rfl) (by omega) (own_byS own45).cap _)) ?_
 simp only [lay]
 refine te 3 (.int .u16 q32) hS41 rfl (by intro _ _; exact xm) ?_
 simp only [lay]
 refine te 4 (.pointer (some ⟨g1, 2, none⟩)) hS41 rfl (by intro _ _; exact xf 2 0 Try.underlying123) ?_
 simp only [lay]
 have b46 := bt hb10 hb18
 have b47 := bt b46 hb31
 refine te 5 (.bool udp) hS41 rfl (by intro _ h; exact xc Try.underlying4 ((hg3.to (b47.trans (Below.mono h h23))).cell 2 rfl)) ?_
 simp only [lay]
 refine t1 6 rfl (ow_call (fun v w' => v = .tuple #[] ∧ OwnB w' W2.heap.size (.slice (some ⟨g22, 0, none⟩) l.length c15) (put17 l (0 + k) (fix17 udp q32)) ∧ But6 g22 W38 w' ∧ Below g22 W38 w') (by exact xk Try.func74) ((store17_any udp g22 (0 + k) l.length c15 (l.length - k) (c15 - k) W2.heap.size q32 (by omega) _ W38 own45 (by omega) (by omega)).mono fun e w' h => ⟨_, h.1, rfl, h.2⟩) ?_)
 rintro _ W50 ⟨rfl, hO49, bs48, hb51⟩
 have z52 := hb51.size
 refine ⟨(Below.trans hS41 hb51), ?_⟩
 have hS53 := (Below.trans hS41 hb51)
 simp only [lay]
 refine wpAnyH_done (by kernel_rfl) ?_ _
 change Code.wp _ _ _ _ _
 refine wp_sr ?_
 refine lv (.slice (some ⟨g22, 0, none⟩) l.length c15) (by exact xm) ?_
 simp only [lay]
 refine lv (.slice (some ⟨g22, 0, none⟩) l.length c15) (by exact xa) ?_
 simp only [lay]
 refine wn ?_
 refine wp_ret ?_
 try simp only [Exit.then]
 have e : carry17 udp f t l k = put17 l (0 + k) (fix17 udp q32) := by rw [carry17, two17, ← hq33, Nat.zero_add]
 have b54 := bt b27 hb31
 have b55 := bt b54 hb39
 have l56 := Nat.le_trans hb6.size h23
 have b57 := b55.trans (hb51.mono l56)
 exact bodyPost_ret (res_one Try.results72 rfl) rfl ⟨_, rfl, by rw [e]; exact (hO49.more hb6.size), b57⟩
end Go.Proofs.Ytijnifbpbgckgaa
