/-
  Lemmas and walks for the row of TofourTells (part 34 of 37).
-/
import Derived.Test.YtjnphelfloiadaaFtAB
import Derived.Test.YtjnphelfloiadaaFtAC
import Derived.Test.YtjnphelfloiadaaFtAD
import Derived.Test.YtjnphelfloiadaaFtAE
import Derived.Test.YtjnphelfloiadaaFtAF
import Derived.Test.YtjnphelfloiadaaFtAH
import Derived.Test.YtjnphelfloiadaaFtAI
import Derived.Test.YtjnphelfloiadaaFtAJ
import Derived.Test.YtjnphelfloiadaaFtAP
import Derived.Test.YtjnphelfloiadaaFtAQ
import Derived.Test.YtjnphelfloiadaaFtAR
import Derived.Test.YtjnphelfloiadaaFtBG
set_option linter.unusedVariables false
set_option linter.unusedSimpArgs false
namespace Go.Proofs.Ytjnphelfloiadaa
open Go.RowKit Go.Shelf

theorem OwnB.row {w : World} {base : Nat} {A : Option Addr} {c : Nat} {l : List Int} (h : OwnB w base (.slice A l.length c) l) : By w.heap.size w A l.length c l := by
 obtain ⟨A', c', e, y⟩ := h.by_
 cases e
 exact y
/-- what the regions of WriteUDP lean on -/
structure SRU (u : DU) (A : Option Addr) (c : Nat) (w w' : World) : Prop where
 hU : Has w' w.heap.size (.cells (u.cells A c) 80 (0, 0))
 bel : Below w.heap.size w w'
 big : w.heap.size + 1 ≤ w'.heap.size
theorem SRU.keep {u : DU} {A : Option Addr} {c : Nat} {w w' w'' : World} (h : SRU u A c w w') (hb : Below (w.heap.size + 1) w' w'') : SRU u A c w w'' :=
 ⟨h.hU.below hb (Nat.lt_succ_self _), h.bel.trans (hb.mono (Nat.le_succ _)), Nat.le_trans h.big hb.size⟩
/-- with an own row -/
structure SRB (u : DU) (A : Option Addr) (c : Nat) (v : Value) (l : List Int) (w w' : World) : Prop where
 r : SRU u A c w w'
 own : OwnB w' (w.heap.size + 1) v l
theorem SRB.keep {u : DU} {A : Option Addr} {c : Nat} {v : Value} {l : List Int} {w w' w'' : World} (h : SRB u A c v l w w') (hb : Below w'.heap.size w' w'') : SRB u A c v l w w'' :=
 ⟨h.r.keep (hb.mono h.r.big), h.own.below hb⟩

set_option maxRecDepth 100000 in
theorem rwudp_gen (u : DU) (A : Option Addr) (c : Nat) (w : World) (ru : RdU w.heap.size w u A c) (PS : List Int) (hpl : PS.length ≤ 100) (hpr : InB PS) (A1 A2 : Option Addr) (n1 n2 c1 c2 : Nat)
  (hP : u.bl.length ≤ 65527 → ∀ w', Below w.heap.size w w' → Calls Try.prog 19 #[.slice A1 n1 c1, .slice A2 n2 c2, .int .u8 17, .int .i64 (8 + (u.bl.length : Int))] w' fun e w'' => ∃ v, e = .returned v ∧ OwnB w'' w'.heap.size v PS ∧ Below w'.heap.size w' w'') :
  Calls Try.prog 43 #[.slice A1 n1 c1, .slice A2 n2 c2, .agg (u.cells A c)] w fun e w' => ∃ v s, e = .returned (.tuple #[v, .int .i64 s]) ∧ Hid (s = u.err) ∧ OwnB w' w.heap.size v (u.write PS) ∧ Below w.heap.size w w' := by
 have hS0 : SRU u A c w (w.alloc (.cells (u.cells A c) 80)) := ⟨Has.newAt rfl, (Below.refl _ _).alloc (Nat.le_refl _) _, by simp⟩
 have hcell := hS0.hU.cell 2 (v := .slice A u.bl.length c) rfl
 have hbnd := ru.body.big
 have hcap := ru.body.cap
 by_cases hlong : 65527 < u.bl.length
 ·have herr : u.err = 2 := by rw [DU.err, if_pos hlong]
  have hwr : u.write PS = [] := by rw [DU.write, if_pos hlong]
  rw [hwr]
  clear hP hwr
  go_enter Try.func43, Try.ntmps43
  go_wp2
  go_ret2
  exact ⟨_, _, rfl, Lib.hid herr.symm, OwnB.nil _ _, hS0.bel⟩
 have hlen : u.bl.length ≤ 65527 := by omega
 have herr : u.err = 0 := by rw [DU.err, if_neg hlong]
 go_enter Try.func43, Try.ntmps43
 go_wp2_with fail
 generalize w.alloc (.cells (u.cells A c) 80) = W at hS0 hcell ⊢
 have hS0 := hS0.keep (below_drew _ _)
 clear hcell
 refine wp_region_held_drew (S := SRU u A c w) (by kernel_rfl) hS0 (fun hS => ?_)
 generalize W.drew = W0 at hS ⊢
 -- REGION 4
 refine te 0 (.pointer (some ⟨w.heap.size, 0, none⟩)) hS rfl (by intro _ _; exact ex_field 0 0 (by exact rfl) Try.underlying80 (by exact rfl) rfl (by kernel_rfl) (by exact rfl)) ?_
 simp only [lay]
 refine te 1 (.int .u16 u.src) hS rfl (by intro _ h; exact ex_cell (by exact rfl) Try.underlying33 rfl (by exact rfl) (h.hU.cell 0 rfl)) ?_
 simp only [lay]
 refine te 2 (.int .u64 u.src) hS rfl (by intro _ h; exact ex_conv (by exact rfl) (by exact rfl) (conv_u64 _ _ .u16 u.src (by rw [Try.underlying33]; rfl) Try.underlying118 (ru.ok.src.1) (by have := ru.ok.src.2; omega) _)) ?_
 simp only [lay]
 refine te 4 (.pointer (some ⟨w.heap.size, 1, none⟩)) hS rfl (by intro _ _; exact ex_field 1 0 (by exact rfl) Try.underlying80 (by exact rfl) rfl (by kernel_rfl) (by exact rfl)) ?_
 simp only [lay]
 refine te 5 (.int .u16 u.dst) hS rfl (by intro _ h; exact ex_cell (by exact rfl) Try.underlying33 rfl (by exact rfl) (h.hU.cell 1 rfl)) ?_
 simp only [lay]
 refine te 6 (.int .u64 u.dst) hS rfl (by intro _ h; exact ex_conv (by exact rfl) (by exact rfl) (conv_u64 _ _ .u16 u.dst (by rw [Try.underlying33]; rfl) Try.underlying118 (ru.ok.dst.1) (by have := ru.ok.dst.2; omega) _)) ?_
 simp only [lay]
 refine te 8 (.int .i64 (8 + (u.bl.length : Int))) hS rfl (by intro _ _; exact rfl) ?_
 simp only [lay]
 refine te 9 (.int .u64 (8 + (u.bl.length : Int))) hS rfl (by intro _ h; exact ex_conv (by exact rfl) (by exact rfl) (conv_u64 _ _ .i64 (8 + (u.bl.length : Int)) (by rw [Try.underlying3]; rfl) Try.underlying118 (by omega) (by omega) _)) ?_
 simp only [lay]
 refine tk_one (by kernel_rfl) (op_callx (i := 3) (fun v w' => OwnB w' (w.heap.size + 1) v ([u.src / 256, u.src % 256])) rfl (by kernel_rfl) (by exact ex_call (by exact rfl) Try.func76 (by kernel_rfl) (by kernel_rfl) (by simp only [List.map_toArray, List.map_cons, List.map_nil] <;> rfl)) (by refine (put2_any (w.heap.size + 1) _ [] u.src (ru.ok.src.1) (ru.ok.src.2) _ (OwnB.nil _ _) hS.big (by simp)).mono fun e w' g => ?_; obtain ⟨v, rfl, ho, hb⟩ := g; exact ⟨_, rfl, ho, hS.keep hb⟩) ?_)
 rintro v1 W1 ho1 hS1
 simp only [lay]
 refine tk_one (by kernel_rfl) (op_callx (i := 7) (fun v w' => OwnB w' (w.heap.size + 1) v ([u.src / 256, u.src % 256] ++ [u.dst / 256, u.dst % 256])) rfl (by kernel_rfl) (by exact ex_call (by exact rfl) Try.func76 (by kernel_rfl) (by kernel_rfl) (by simp only [List.map_toArray, List.map_cons, List.map_nil] <;> rfl)) (by refine (put2_any (w.heap.size + 1) _ [u.src / 256, u.src % 256] u.dst (ru.ok.dst.1) (ru.ok.dst.2) _ (ho1) hS1.big (by simp)).mono fun e w' g => ?_; obtain ⟨v, rfl, ho, hb⟩ := g; exact ⟨_, rfl, ho, hS1.keep hb⟩) ?_)
 rintro v2 W2 ho2 hS2
 simp only [lay]
 refine tk_one (by kernel_rfl) (op_callx (i := 10) (fun v w' => OwnB w' (w.heap.size + 1) v (([u.src / 256, u.src % 256] ++ [u.dst / 256, u.dst % 256]) ++ [(8 + (u.bl.length : Int)) / 256, (8 + (u.bl.length : Int)) % 256])) rfl (by kernel_rfl) (by exact ex_call (by exact rfl) Try.func76 (by kernel_rfl) (by kernel_rfl) (by simp only [List.map_toArray, List.map_cons, List.map_nil] <;> rfl)) (by refine (put2_any (w.heap.size + 1) _ ([u.src / 256, u.src % 256] ++ [u.dst / 256, u.dst % 256]) (8 + (u.bl.length : Int)) (by omega) (by omega) _ (ho2) hS2.big (by simp)).mono fun e w' g => ?_; obtain ⟨v, rfl, ho, hb⟩ := g; exact ⟨_, rfl, ho, hS2.keep hb⟩) ?_)
 rintro v3 W3 ho3 hS3
 simp only [lay]
 refine te 11 (v3) hS3 rfl (by intro _ _; exact rfl) ?_
 simp only [lay]
 refine wpAnyH_done (by kernel_rfl) ?_ _
 have hZ := hS3
 -- END 4
 obtain ⟨B, hB⟩ : ∃ B, ([] ++ [u.src / 256, u.src % 256] ++ [u.dst / 256, u.dst % 256]) ++ [(8 + (u.bl.length : Int)) / 256, (8 + (u.bl.length : Int)) % 256] = B := ⟨_, rfl⟩
 have hB6 : B.length = 6 := by rw [← hB]; rfl
 have ho : OwnB W3 (w.heap.size + 1) v3 B := by rw [← hB]; exact ho3
 have hfl : ∀ (A8 A9 : Option Addr) (c8 c9 g5 : Nat), flat [(A8, c8, PS), (A9, c9, B), (some ⟨g5, 0, none⟩, 2, [0, 0]), (A, c, u.bl)] = PS ++ (u.first 0 ++ u.bl) := fun _ _ _ _ _ => by rw [← hB]; simp [flat, DU.first]
 have hwr : ∀ s, s = u.sum PS → B ++ [s / 256, s % 256] ++ u.bl = u.write PS := fun s hs => by rw [← hB, DU.write, if_neg (by omega), DU.bytes, ← hs]; simp [DU.first]
 have hsr := sumw_rng _ (hpr.app ((DU.first_rng ru.ok hlen (s := 0) (by decide)).app ru.body.rng))
 clear hB ho3 hS1 hS2 hS3 hS ho1 ho2
 obtain ⟨A9, c9, rfl, _⟩ := own_shape ho.own
 go_wp2_with fail
 refine wp_region_held_drew (S := SRB u A c (.slice A9 B.length c9) B w) (by kernel_rfl) ⟨hZ.keep (below_drew _ _), ho.drew⟩ (fun hS => ?_)
 generalize W3.drew = W0 at hS ⊢
 -- REGION 5
 refine te 0 (.slice A1 n1 c1) hS rfl (by intro _ _; exact rfl) ?_
 simp only [lay]
 refine te 1 (.slice A2 n2 c2) hS rfl (by intro _ _; exact rfl) ?_
 simp only [lay]
 refine te 2 (.int .i64 (8 + (u.bl.length : Int))) hS rfl (by intro _ _; exact rfl) ?_
 simp only [lay]
 refine te 4 (.slice A9 B.length c9) hS rfl (by intro _ _; exact rfl) ?_
 simp only [lay]
 refine te 6 (.pointer (some ⟨w.heap.size, 2, none⟩)) hS rfl (by intro _ _; exact ex_field 2 0 (by exact rfl) Try.underlying80 (by exact rfl) rfl (by kernel_rfl) (by exact rfl)) ?_
 simp only [lay]
 refine te 7 (.slice A u.bl.length c) hS rfl (by intro _ h; exact ex_cell (by exact rfl) Try.underlying26 rfl (by exact rfl) (h.r.hU.cell 2 rfl)) ?_
 simp only [lay]
 refine tk_two (by kernel_rfl) (op_callx (i := 3) (fun v w' => ∃ A8 c8, v = .slice A8 PS.length c8 ∧ By w'.heap.size w' A8 PS.length c8 PS ∧ Below W0.heap.size W0 w') rfl (by kernel_rfl) (by exact ex_call (by exact rfl) Try.func19 (by kernel_rfl) (by kernel_rfl) (by simp only [List.map_toArray, List.map_cons, List.map_nil] <;> rfl)) (by refine (hP hlen _ hS.r.bel).mono fun e w' g => ?_; obtain ⟨v, rfl, ho, hb⟩ := g; obtain ⟨A8, c8, rfl, y8⟩ := ho.by_; exact ⟨_, rfl, ⟨A8, c8, rfl, y8, hb⟩, hS.keep hb⟩) ?_) (op_build (i := 5) [.int .u8 0, .int .u8 0] rfl (by kernel_rfl) rfl Try.underlying26 (by kernel_rfl) (by kernel_rfl) rfl (by decide) (by decide) (by first | rfl | (simp only [List.map_toArray, List.map_cons, List.map_nil] <;> rfl)) (all2 rfl rfl) (fun _ hb => hS.keep hb) ?_)
 case' refine_1 =>
  rintro v3 W3 ⟨A8, c8, rfl, y8, hb3⟩ hS3
  try replace z5 := (z5.below hb3 (Nat.le_refl _)).more hb3.size
  simp only [lay]
  refine tk_one (by kernel_rfl) (op_build (i := 5) [.int .u8 0, .int .u8 0] rfl (by kernel_rfl) rfl Try.underlying26 (by kernel_rfl) (by kernel_rfl) rfl (by decide) (by decide) (by first | rfl | (simp only [List.map_toArray, List.map_cons, List.map_nil] <;> rfl)) (all2 rfl rfl) (fun _ hb => hS3.keep hb) ?_)
  intro g5 W5 hg5 _ hq5 hb5 hS5
  have z5 : By W5.heap.size W5 (some ⟨g5, 0, none⟩) 2 2 [0, 0] := By.blk (t := 5) hg5 (Nat.le_refl _) (by intro y hy; simp at hy; omega) (by simp) rfl rfl
  try replace y8 := (y8.below hb5 (Nat.le_refl _)).more hb5.size
  simp only [lay]
  refine tk_one (by kernel_rfl) (op_build (i := 8) [.slice A8 PS.length c8, .slice A9 B.length c9, .slice (some ⟨g5, 0, none⟩) 2 2, .slice A u.bl.length c] rfl (by kernel_rfl) rfl Try.underlying100 (by kernel_rfl) (by kernel_rfl) rfl (by decide) (by decide) (by first | rfl | (simp only [List.map_toArray, List.map_cons, List.map_nil] <;> rfl)) (all4 rfl rfl rfl rfl) (fun _ hb => hS5.keep hb) ?_)
  intro g8 W8 hg8 _ hq8 hb8 hS8
  have hP8 : Parts W8.heap.size W8 (some ⟨g8, 0, none⟩) 4 4 [(A8, c8, PS), (A9, c9, B), (some ⟨g5, 0, none⟩, 2, [0, 0]), (A, c, u.bl)] := Parts.blk (t := 26) (fz := (0, 0)) hg8 (Nat.le_refl _) rfl (all4 ((y8.below hb8 (Nat.le_refl _)).more hb8.size) hS8.own.row ((z5.below hb8 (Nat.le_refl _)).more hb8.size) ((ru.body.below hS8.r.bel (Nat.le_refl _)).more hS8.r.bel.size)) (by simp)
  simp only [lay]
  refine tk_one (by kernel_rfl) (op_callx (i := 9) (fun v w' => ∃ q : Int, v = .int .u16 q ∧ Hid (q = 65535 - sumw (PS ++ (u.first 0 ++ u.bl)))) rfl (by kernel_rfl) (by exact ex_call (by exact rfl) Try.func57 (by kernel_rfl) (by kernel_rfl) (by simp only [List.map_toArray, List.map_cons, List.map_nil] <;> rfl)) (by refine (rof_any _ _ [(A8, c8, PS), (A9, c9, B), (some ⟨g5, 0, none⟩, 2, [0, 0]), (A, c, u.bl)] _ hP8 (by simp [flat]; omega)).mono fun e w' g => ?_; exact ⟨_, g.1, ⟨_, rfl, Lib.hid (by rw [hfl A8 A9 c8 c9 g5])⟩, hS8.keep g.2⟩) ?_)
  rintro v9 W9 ⟨q, rfl, hq⟩ hS9
  simp only [lay]
  refine te 10 (.int .u16 q) hS9 rfl (by intro _ _; exact rfl) ?_
  simp only [lay]
  refine wpAnyH_done (by kernel_rfl) ?_ _
  have hZ5 := hS9
  clear hS
 case' refine_2 =>
  intro g5 W5 hg5 _ hq5 hb5 hS5
  have z5 : By W5.heap.size W5 (some ⟨g5, 0, none⟩) 2 2 [0, 0] := By.blk (t := 5) hg5 (Nat.le_refl _) (by intro y hy; simp at hy; omega) (by simp) rfl rfl
  try replace y8 := (y8.below hb5 (Nat.le_refl _)).more hb5.size
  simp only [lay]
  refine tk_one (by kernel_rfl) (op_callx (i := 3) (fun v w' => ∃ A8 c8, v = .slice A8 PS.length c8 ∧ By w'.heap.size w' A8 PS.length c8 PS ∧ Below W5.heap.size W5 w') rfl (by kernel_rfl) (by exact ex_call (by exact rfl) Try.func19 (by kernel_rfl) (by kernel_rfl) (by simp only [List.map_toArray, List.map_cons, List.map_nil] <;> rfl)) (by refine (hP hlen _ hS5.r.bel).mono fun e w' g => ?_; obtain ⟨v, rfl, ho, hb⟩ := g; obtain ⟨A8, c8, rfl, y8⟩ := ho.by_; exact ⟨_, rfl, ⟨A8, c8, rfl, y8, hb⟩, hS5.keep hb⟩) ?_)
  rintro v3 W3 ⟨A8, c8, rfl, y8, hb3⟩ hS3
  try replace z5 := (z5.below hb3 (Nat.le_refl _)).more hb3.size
  simp only [lay]
  refine tk_one (by kernel_rfl) (op_build (i := 8) [.slice A8 PS.length c8, .slice A9 B.length c9, .slice (some ⟨g5, 0, none⟩) 2 2, .slice A u.bl.length c] rfl (by kernel_rfl) rfl Try.underlying100 (by kernel_rfl) (by kernel_rfl) rfl (by decide) (by decide) (by first | rfl | (simp only [List.map_toArray, List.map_cons, List.map_nil] <;> rfl)) (all4 rfl rfl rfl rfl) (fun _ hb => hS3.keep hb) ?_)
  intro g8 W8 hg8 _ hq8 hb8 hS8
  have hP8 : Parts W8.heap.size W8 (some ⟨g8, 0, none⟩) 4 4 [(A8, c8, PS), (A9, c9, B), (some ⟨g5, 0, none⟩, 2, [0, 0]), (A, c, u.bl)] := Parts.blk (t := 26) (fz := (0, 0)) hg8 (Nat.le_refl _) rfl (all4 ((y8.below hb8 (Nat.le_refl _)).more hb8.size) hS8.own.row ((z5.below hb8 (Nat.le_refl _)).more hb8.size) ((ru.body.below hS8.r.bel (Nat.le_refl _)).more hS8.r.bel.size)) (by simp)
  simp only [lay]
  refine tk_one (by kernel_rfl) (op_callx (i := 9) (fun v w' => ∃ q : Int, v = .int .u16 q ∧ Hid (q = 65535 - sumw (PS ++ (u.first 0 ++ u.bl)))) rfl (by kernel_rfl) (by exact ex_call (by exact rfl) Try.func57 (by kernel_rfl) (by kernel_rfl) (by simp only [List.map_toArray, List.map_cons, List.map_nil] <;> rfl)) (by refine (rof_any _ _ [(A8, c8, PS), (A9, c9, B), (some ⟨g5, 0, none⟩, 2, [0, 0]), (A, c, u.bl)] _ hP8 (by simp [flat]; omega)).mono fun e w' g => ?_; exact ⟨_, g.1, ⟨_, rfl, Lib.hid (by rw [hfl A8 A9 c8 c9 g5])⟩, hS8.keep g.2⟩) ?_)
  rintro v9 W9 ⟨q, rfl, hq⟩ hS9
  simp only [lay]
  refine te 10 (.int .u16 q) hS9 rfl (by intro _ _; exact rfl) ?_
  simp only [lay]
  refine wpAnyH_done (by kernel_rfl) ?_ _
  have hZ5 := hS9
  clear hS
 -- END 5
 all_goals
  have hqr : 0 ≤ q ∧ q < 65536 := by have := hq.out; omega
  have hsq0 : nz q = u.sum PS := by rw [DU.sum, ← hq.out]
  clear hq hsr
  by_cases hz : q = 0
  ·subst hz
   have hsq : 65535 = u.sum PS := by rw [← hsq0]; rfl
   clear hsq0
   go_wp2_with fail
   have ho := hZ5.own.drew
   refine wp_region_held_drew (S := SRU u A c w) (by kernel_rfl) (hZ5.r.keep (below_drew _ _)) (fun hS => ?_)
   generalize W9.drew = W0 at hS ho ⊢
   -- REGION 8a
   refine te 0 (.slice A9 B.length c9) hS rfl (by intro _ _; exact rfl) ?_
   simp only [lay]
   refine te 1 (.int .u16 65535) hS rfl (by intro _ _; exact rfl) ?_
   simp only [lay]
   refine te 2 (.int .u64 65535) hS rfl (by intro _ h; exact ex_conv (by exact rfl) (by exact rfl) (conv_u64 _ _ .u16 65535 (by rw [Try.underlying33]; rfl) Try.underlying118 (by omega) (by omega) _)) ?_
   simp only [lay]
   refine te 4 (.pointer (some ⟨w.heap.size, 2, none⟩)) hS rfl (by intro _ _; exact ex_field 2 0 (by exact rfl) Try.underlying80 (by exact rfl) rfl (by kernel_rfl) (by exact rfl)) ?_
   simp only [lay]
   refine te 5 (.slice A u.bl.length c) hS rfl (by intro _ h; exact ex_cell (by exact rfl) Try.underlying26 rfl (by exact rfl) (h.hU.cell 2 rfl)) ?_
   simp only [lay]
   refine tk_one (by kernel_rfl) (op_callx (i := 3) (fun v w' => OwnB w' (w.heap.size + 1) v (B ++ [65535 / 256, 65535 % 256])) rfl (by kernel_rfl) (by exact ex_call (by exact rfl) Try.func76 (by kernel_rfl) (by kernel_rfl) (by simp only [List.map_toArray, List.map_cons, List.map_nil] <;> rfl)) (by refine (put2_any (w.heap.size + 1) _ B 65535 (by omega) (by omega) _ ho hS.big (by omega)).mono fun e w' g => ?_; obtain ⟨v, rfl, ho, hb⟩ := g; exact ⟨_, rfl, ho, hS.keep hb⟩) ?_)
   rintro v7 W7 ho7 hS7
   simp only [lay]
   refine tk_one (by kernel_rfl) (op_app (i := 6) (.tmp 45) (.tmp 47) _ rfl (by kernel_rfl) rfl Try.underlying26 (by kernel_rfl) (w.heap.size + 1) _ _ rfl (ho7) _ _ _ _ _ rfl (ru.body.below hS7.bel (Nat.le_refl _)) (by simp; omega) (hS7.big) (fun _ hb => hS7.keep hb) ?_)
   intro v8 W8 ho8 hb8 hS8
   simp only [lay]
   refine te 7 (v8) hS8 rfl (by intro _ _; exact rfl) ?_
   simp only [lay]
   refine te 8 (.int .i64 0) hS8 rfl (by intro _ _; exact rfl) ?_
   simp only [lay]
   refine wpAnyH_done (by kernel_rfl) ?_ _
   obtain ⟨A', c', rfl, _⟩ := own_shape ho8.own
   go_wp2
   go_ret2
   exact ⟨_, _, rfl, Lib.hid herr.symm, by rw [← hwr _ hsq]; exact ho8.more (Nat.le_succ w.heap.size), hS8.bel⟩
   -- END 8a
  ·have hsq : q = u.sum PS := by rw [← hsq0, nz, if_neg hz]
   clear hsq0
   go_wp2_with fail
   have ho := hZ5.own.drew
   refine wp_region_held_drew (S := SRU u A c w) (by kernel_rfl) (hZ5.r.keep (below_drew _ _)) (fun hS => ?_)
   generalize W9.drew = W0 at hS ho ⊢
   -- REGION 8b
   refine te 0 (.slice A9 B.length c9) hS rfl (by intro _ _; exact rfl) ?_
   simp only [lay]
   refine te 1 (.int .u16 q) hS rfl (by intro _ _; exact rfl) ?_
   simp only [lay]
   refine te 2 (.int .u64 q) hS rfl (by intro _ h; exact ex_conv (by exact rfl) (by exact rfl) (conv_u64 _ _ .u16 q (by rw [Try.underlying33]; rfl) Try.underlying118 (by omega) (by omega) _)) ?_
   simp only [lay]
   refine te 4 (.pointer (some ⟨w.heap.size, 2, none⟩)) hS rfl (by intro _ _; exact ex_field 2 0 (by exact rfl) Try.underlying80 (by exact rfl) rfl (by kernel_rfl) (by exact rfl)) ?_
   simp only [lay]
   refine te 5 (.slice A u.bl.length c) hS rfl (by intro _ h; exact ex_cell (by exact rfl) Try.underlying26 rfl (by exact rfl) (h.hU.cell 2 rfl)) ?_
   simp only [lay]
   refine tk_one (by kernel_rfl) (op_callx (i := 3) (fun v w' => OwnB w' (w.heap.size + 1) v (B ++ [q / 256, q % 256])) rfl (by kernel_rfl) (by exact ex_call (by exact rfl) Try.func76 (by kernel_rfl) (by kernel_rfl) (by simp only [List.map_toArray, List.map_cons, List.map_nil] <;> rfl)) (by refine (put2_any (w.heap.size + 1) _ B q (by omega) (by omega) _ ho hS.big (by omega)).mono fun e w' g => ?_; obtain ⟨v, rfl, ho, hb⟩ := g; exact ⟨_, rfl, ho, hS.keep hb⟩) ?_)
   rintro v7 W7 ho7 hS7
   simp only [lay]
   refine tk_one (by kernel_rfl) (op_app (i := 6) (.tmp 45) (.tmp 47) _ rfl (by kernel_rfl) rfl Try.underlying26 (by kernel_rfl) (w.heap.size + 1) _ _ rfl (ho7) _ _ _ _ _ rfl (ru.body.below hS7.bel (Nat.le_refl _)) (by simp; omega) (hS7.big) (fun _ hb => hS7.keep hb) ?_)
   intro v8 W8 ho8 hb8 hS8
   simp only [lay]
   refine te 7 (v8) hS8 rfl (by intro _ _; exact rfl) ?_
   simp only [lay]
   refine te 8 (.int .i64 0) hS8 rfl (by intro _ _; exact rfl) ?_
   simp only [lay]
   refine wpAnyH_done (by kernel_rfl) ?_ _
   obtain ⟨A', c', rfl, _⟩ := own_shape ho8.own
   go_wp2
   go_ret2
   exact ⟨_, _, rfl, Lib.hid herr.symm, by rw [← hwr _ hsq]; exact ho8.more (Nat.le_succ w.heap.size), hS8.bel⟩
   -- END 8b
theorem rwudp6_any (a b : List Int) (ha : a.length = 16) (hb : b.length = 16) (A1 A2 : Option Addr) (c1 c2 : Nat) (u : DU) (A : Option Addr) (c : Nat) (w : World) (y1 : By w.heap.size w A1 16 c1 a) (y2 : By w.heap.size w A2 16 c2 b) (ru : RdU w.heap.size w u A c) :
  Calls Try.prog 43 #[.slice A1 16 c1, .slice A2 16 c2, .agg (u.cells A c)] w fun e w' => ∃ v s, e = .returned (.tuple #[v, .int .i64 s]) ∧ Hid (s = u.err) ∧ OwnB w' w.heap.size v (u.write (pse6 a b (8 + u.bl.length) 17)) ∧ Below w.heap.size w w' := by
 by_cases hl : u.bl.length ≤ 65527
 ·exact rwudp_gen u A c w ru _ (by rw [pse6_len ha hb]; decide) (pse6_rng y1.rng y2.rng (by omega) (by decide)) A1 A2 16 16 c1 c2 fun _ w' h => rpse6_any a b ha hb 17 _ (by decide) (by decide) (by omega) (by omega) A1 A2 c1 c2 w' ((y1.below h (Nat.le_refl _)).more h.size) ((y2.below h (Nat.le_refl _)).more h.size)
 ·have e : ∀ PS, u.write PS = u.write [] := fun PS => by rw [DU.write, DU.write, if_pos (by omega), if_pos (by omega)]
  rw [e]
  exact rwudp_gen u A c w ru [] (by simp) InB.nil A1 A2 16 16 c1 c2 fun h => absurd h hl
end Go.Proofs.Ytjnphelfloiadaa
namespace Go.Proofs.Ytjnphelfloiadaa
open Go.RowKit Go.Shelf

/-- what the region of WriteUDP4 leans on -/
structure SU4 (a b : List Int) (u : DU) (A : Option Addr) (c : Nat) (w w' : World) : Prop where
 hA : Has w' w.heap.size (.cells (u8s a).toArray 30 (0, 0))
 hB : Has w' (w.heap.size + 1) (.cells (u8s b).toArray 30 (0, 0))
 hU : Has w' (w.heap.size + 1 + 1) (.cells (u.cells A c) 80 (0, 0))
 bel : Below w.heap.size w w'
theorem SU4.keep {a b : List Int} {u : DU} {A : Option Addr} {c : Nat} {w w' w'' : World} (h : SU4 a b u A c w w') (hb : Below w'.heap.size w' w'') : SU4 a b u A c w w'' :=
 ⟨h.hA.below hb h.hA.lt, h.hB.below hb h.hB.lt, h.hU.below hb h.hU.lt, h.bel.trans (hb.mono h.bel.size)⟩
theorem udp_info : (Try.prog.info? 80).map (·.size) = some 3 := by kernel_rfl

/-- what the region of WriteUDP6 leans on -/
structure SU6 (a b : List Int) (u : DU) (A : Option Addr) (c : Nat) (w w' : World) : Prop where
 hA : Has w' w.heap.size (.cells (u8s a).toArray 24 (0, 0))
 hB : Has w' (w.heap.size + 1) (.cells (u8s b).toArray 24 (0, 0))
 hU : Has w' (w.heap.size + 1 + 1) (.cells (u.cells A c) 80 (0, 0))
 bel : Below w.heap.size w w'
theorem SU6.keep {a b : List Int} {u : DU} {A : Option Addr} {c : Nat} {w w' w'' : World} (h : SU6 a b u A c w w') (hb : Below w'.heap.size w' w'') : SU6 a b u A c w w'' :=
 ⟨h.hA.below hb h.hA.lt, h.hB.below hb h.hB.lt, h.hU.below hb h.hU.lt, h.bel.trans (hb.mono h.bel.size)⟩

end Go.Proofs.Ytjnphelfloiadaa
namespace Go.Proofs.Ytjnphelfloiadaa
open Go.RowKit Go.Shelf

theorem DT.ok_of_check {t : DT} (h : t.check = 0) : t.flags < 64 ∧ t.ol.length ≤ 40 ∧ t.ol.length % 4 = 0 ∧ t.bl.length ≤ 65515 - t.ol.length := by
 unfold DT.check at h
 split at h
 ·cases h
 ·split at h
  ·cases h
  ·omega
end Go.Proofs.Ytjnphelfloiadaa
namespace Go.Proofs.Ytjnphelfloiadaa
open Go.RowKit Go.Shelf

/-- what lay in a world stands -/
structure SG (w w' : World) : Prop where
 b : Below w.heap.size w w'
theorem SG.keep {w w' w'' : World} (h : SG w w') (hb : Below w.heap.size w' w'') : SG w w'' := ⟨h.b.trans hb⟩
theorem SG.big {w w' : World} (h : SG w w') : w.heap.size ≤ w'.heap.size := h.b.size
end Go.Proofs.Ytjnphelfloiadaa
namespace Go.Proofs.Ytjnphelfloiadaa
open Go.RowKit Go.Shelf

def be2 (l : List Int) (i : Nat) : Int := l.getD i 0 * 256 + l.getD (i + 1) 0
theorem be2_rng {l : List Int} (h : InB l) (i : Nat) : 0 ≤ be2 l i ∧ be2 l i < 65536 := by
 have h1 := getD_rng h i
 have h2 := getD_rng h (i + 1)
 unfold be2
 omega
theorem or_u64 (i : Nat) {a b : Int} (h1 : 0 ≤ a) (h2 : a < 18446744073709551616) (hd : a % ((2 ^ i : Nat) : Int) = 0) (h3 : 0 ≤ b) (h4 : b < ((2 ^ i : Nat) : Int)) (h5 : b < 18446744073709551616) : bits .or .u64 a b = a + b := by
 rw [u64_or a b h1 h2 h3 h5, nat_join i _ _ (toNat_mod h1 _ hd) (by omega)]; omega

set_option maxRecDepth 100000 in
theorem get2_any (A : Option Addr) (n c : Nat) (l : List Int) (w : World) (y : By w.heap.size w A n c l) (i : Nat) (hi : i + 1 < n) :
  Calls Try.prog 77 #[.slice A n c, .int .i64 i, .int .i64 2] w fun e w' => e = .returned (.int .u64 (be2 l i)) ∧ Below w.heap.size w w' := by
 obtain ⟨b, off, rfl, hb, -⟩ := y.row.at_ (by omega)
 have hbig := Nat.le_trans y.cap y.big
 have d0 := y.at (k := i) (by omega)
 have d1 := y.at (k := i + 1) hi
 have r0 := getD_rng y.rng i
 have r1 := getD_rng y.rng (i + 1)
 unfold be2
 obtain ⟨x0, hx0⟩ : ∃ x, l.getD i 0 = x := ⟨_, rfl⟩
 obtain ⟨x1, hx1⟩ : ∃ x, l.getD (i + 1) 0 = x := ⟨_, rfl⟩
 rw [hx0] at d0 r0 ⊢
 rw [hx1] at d1 r1 ⊢
 have o0 : bits .or .u64 0 x0 = x0 := by rw [or_u64 8 (by omega) (by omega) (by omega) (by omega) (by omega) (by omega)]; omega
 have o1 : bits .or .u64 (x0 * 256) x1 = x0 * 256 + x1 := or_u64 8 (by omega) (by omega) (by omega) (by omega) (by omega) (by omega)
 have z0 : (i : Int) < (n : Int) := by omega
 have z1 : (i : Int) + 1 < (n : Int) := by omega
 clear hx0 hx1
 go_enter Try.func77, Try.ntmps77
 go_wp2
 refine wp_loop_rounds 3 ?_
 rw [rounds_succ]
 go_wp2
 rw [rounds_succ]
 go_wp2
 rw [rounds_succ]
 go_wp2
 go_ret
 exact ⟨rfl, Below.refl _ _⟩

end Go.Proofs.Ytjnphelfloiadaa
namespace Go.Proofs.Ytjnphelfloiadaa
open Go.RowKit Go.Shelf

def noU : DU := ⟨0, 0, []⟩
/-- the error of bytes as a UDP datagram under a pseudo header -/
def uErr (must : Bool) (ps l : List Int) : Int :=
 if l.length < 8 then 60 else if be2 l 4 ≠ l.length then 61 else if (be2 l 6 = 0 ∧ must = true) ∨ (be2 l 6 ≠ 0 ∧ sumw (ps ++ l) ≠ 65535) then 62 else 0
def uOf (l : List Int) : DU := ⟨be2 l 0, be2 l 2, l.drop 8⟩
def uGot (must : Bool) (ps l : List Int) : DU := if uErr must ps l = 0 then uOf l else noU
def uNone (must : Bool) (ps l : List Int) : Bool := if uErr must ps l = 0 then decide (be2 l 6 = 0) else false
/-- a datagram that is told -/
def ToldU (d : DU) (q : Bool) (s : Int) (w : World) (e : Ending) (w' : World) : Prop := ∃ A c, e = .returned (.tuple #[.agg (d.cells A c), .bool q, .int .i64 s]) ∧ d.ok ∧ OwnB w' w.heap.size (.slice A d.bl.length c) d.bl ∧ Below w.heap.size w w'
theorem noU_ok : noU.ok := ⟨by decide, by decide⟩
theorem uOf_ok {l : List Int} (h : InB l) : (uOf l).ok := ⟨be2_rng h 0, be2_rng h 2⟩
theorem uGot_err {must : Bool} {ps l : List Int} (h : uErr must ps l ≠ 0) : uGot must ps l = noU ∧ uNone must ps l = false := by simp [uGot, uNone, h]
theorem uGot_ok {must : Bool} {ps l : List Int} (h : uErr must ps l = 0) : uGot must ps l = uOf l ∧ uNone must ps l = decide (be2 l 6 = 0) := by simp [uGot, uNone, h]
end Go.Proofs.Ytjnphelfloiadaa
namespace Go.Proofs.Ytjnphelfloiadaa
open Go.RowKit Go.Shelf

/-- what the last region of parseUDP leans on -/
structure SPU (w w' : World) : Prop where
 has : ∃ old, Has w' w.heap.size (.cells old 80 (0, 0)) ∧ old.size = 3
 bel : Below w.heap.size w w'
 lt : w.heap.size < w'.heap.size
theorem SPU.keep {w w' w'' : World} (h : SPU w w') (hb : Below w'.heap.size w' w'') : SPU w w'' := by
 obtain ⟨old, ho, hs⟩ := h.has
 exact ⟨⟨old, ho.below hb h.lt, hs⟩, h.bel.trans (hb.mono h.bel.size), Nat.lt_of_lt_of_le h.lt hb.size⟩
theorem SPU.keep1 {w w' w'' : World} (h : SPU w w') (hb : Below (w.heap.size + 1) w' w'') : SPU w w'' := by
 obtain ⟨old, ho, hs⟩ := h.has
 exact ⟨⟨old, ho.below hb (Nat.lt_succ_self _), hs⟩, h.bel.trans (hb.mono (Nat.le_succ _)), Nat.lt_of_lt_of_le h.lt hb.size⟩
theorem SPU.store {w w' w'' : World} {cs : Array Value} (h : SPU w w') (hc : Has w'' w.heap.size (.cells cs 80 (0, 0))) (hb : Below w.heap.size w' w'') (hn : cs.size = 3) : SPU w w'' :=
 ⟨⟨cs, hc, hn⟩, h.bel.trans hb, hc.lt⟩

end Go.Proofs.Ytjnphelfloiadaa
