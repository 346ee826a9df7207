/-
  The walk of the reference's WriteUDP.
-/
import Derived.Test.YtaobnbjkhgcmlaaRput
import Derived.Test.YtaobnbjkhgcmlaaReg5
import Derived.Test.YtaobnbjkhgcmlaaRps
import Derived.Test.YtaobnbjkhgcmlaaRof
import Derived.Test.YtaobnbjkhgcmlaaP6S
namespace Go.Proofs.Ytaobnbjkhgcmlaa
open Go.RowKit Go.Shelf

theorem OwnB.row {w : World} {base : Nat} {A : Option Addr} {c : Nat} {l : List Int} (h : OwnB w base (.slice A l.length c) l) : By w.heap.size w A l.length c l := by
  obtain ⟨A', c', e, y⟩ := h.by_
  cases e
  exact y
/-- what the regions of WriteUDP lean on -/
structure SRU (u : DU) (A : Option Addr) (c : Nat) (w w' : World) : Prop where
  hU : Has w' w.heap.size (.cells (u.cells A c) 28 (0, 0))
  bel : Below w.heap.size w w'
  big : w.heap.size + 1 ≤ w'.heap.size
theorem SRU.keep {u : DU} {A : Option Addr} {c : Nat} {w w' w'' : World} (h : SRU u A c w w') (hb : Below (w.heap.size + 1) w' w'') : SRU u A c w w'' :=
  ⟨h.hU.below hb (Nat.lt_succ_self _), h.bel.trans (hb.mono (Nat.le_succ _)), Nat.le_trans h.big hb.size⟩
/-- with an own row -/
structure SRB (u : DU) (A : Option Addr) (c : Nat) (v : Value) (l : List Int) (w w' : World) : Prop where
  r : SRU u A c w w'
  own : OwnB w' (w.heap.size + 1) v l
theorem SRB.keep {u : DU} {A : Option Addr} {c : Nat} {v : Value} {l : List Int} {w w' w'' : World} (h : SRB u A c v l w w') (hb : Below w'.heap.size w' w'') : SRB u A c v l w w'' :=
  ⟨h.r.keep (hb.mono h.r.big), h.own.below hb⟩

set_option maxRecDepth 100000 in
theorem rwudp_gen (u : DU) (A : Option Addr) (c : Nat) (w : World) (ru : RdU w.heap.size w u A c) (PS : List Int) (hpl : PS.length ≤ 100) (hpr : InB PS) (A1 A2 : Option Addr) (n1 n2 c1 c2 : Nat)
    (hP : u.bl.length ≤ 65527 → ∀ w', Below w.heap.size w w' → Calls Try.prog 20 #[.slice A1 n1 c1, .slice A2 n2 c2, .int .u8 17, .int .i64 (8 + (u.bl.length : Int))] w' fun e w'' => ∃ v, e = .returned v ∧ OwnB w'' w'.heap.size v PS ∧ Below w'.heap.size w' w'') :
    Calls Try.prog 23 #[.slice A1 n1 c1, .slice A2 n2 c2, .agg (u.cells A c)] w fun e w' => ∃ v s, e = .returned (.tuple #[v, .int .i64 s]) ∧ Hid (s = u.err) ∧ OwnB w' w.heap.size v (u.write PS) ∧ Below w.heap.size w w' := by
  have hS0 : SRU u A c w (w.alloc (.cells (u.cells A c) 28)) := ⟨Has.newAt rfl, (Below.refl _ _).alloc (Nat.le_refl _) _, by simp⟩
  have hcell := hS0.hU.cell 2 (v := .slice A u.bl.length c) rfl
  have hbnd := ru.body.big
  have hcap := ru.body.cap
  by_cases hlong : 65527 < u.bl.length
  · have herr : u.err = 2 := by rw [DU.err, if_pos hlong]
    have hwr : u.write PS = [] := by rw [DU.write, if_pos hlong]
    rw [hwr]
    clear hP hwr
    go_enter Try.func23, Try.ntmps23
    go_wp2
    go_ret2
    exact ⟨_, _, rfl, Lib.hid herr.symm, OwnB.nil _ _, hS0.bel⟩
  have hlen : u.bl.length ≤ 65527 := by omega
  have herr : u.err = 0 := by rw [DU.err, if_neg hlong]
  go_enter Try.func23, Try.ntmps23
  go_wp2_with fail
  generalize w.alloc (.cells (u.cells A c) 28) = W at hS0 hcell ⊢
  have hS0 := hS0.keep (below_drew _ _)
  clear hcell
  refine wp_region_held_drew (S := SRU u A c w) (by kernel_rfl) hS0 (fun hS => ?_)
  generalize W.drew = W0 at hS ⊢
  -- REGION 4
  refine tk (i := 0) (.pointer (some ⟨w.heap.size, 0, none⟩)) hS rfl (by kernel_rfl) (by kernel_rfl) (by kernel_rfl) (fun _ _ _ h => h) (by kernel_rfl) (by intro _ _; exact ex_field 0 0 (by exact rfl) Try.underlying28 (by exact rfl) rfl (by kernel_rfl) (by exact rfl)) ?_
  simp only [Act.put, List.setIfInBounds_toArray, List.set_cons_zero, List.set_cons_succ]
  refine tk (i := 1) (.int .u16 u.src) hS rfl (by kernel_rfl) (by kernel_rfl) (by kernel_rfl) (fun _ _ _ h => h) (by kernel_rfl) (by intro _ h; exact ex_cell (by exact rfl) Try.underlying22 rfl (by exact rfl) (h.hU.cell 0 rfl)) ?_
  simp only [Act.put, List.setIfInBounds_toArray, List.set_cons_zero, List.set_cons_succ]
  refine tk (i := 2) (.int .u64 u.src) hS rfl (by kernel_rfl) (by kernel_rfl) (by kernel_rfl) (fun _ _ _ h => h) (by kernel_rfl) (by intro _ h; exact ex_conv (by exact rfl) (by exact rfl) (conv_u64 _ _ .u16 u.src (by rw [Try.underlying22]; rfl) Try.underlying87 (ru.ok.src.1) (by have := ru.ok.src.2; omega) _)) ?_
  simp only [Act.put, List.setIfInBounds_toArray, List.set_cons_zero, List.set_cons_succ]
  refine tk (i := 4) (.pointer (some ⟨w.heap.size, 1, none⟩)) hS rfl (by kernel_rfl) (by kernel_rfl) (by kernel_rfl) (fun _ _ _ h => h) (by kernel_rfl) (by intro _ _; exact ex_field 1 0 (by exact rfl) Try.underlying28 (by exact rfl) rfl (by kernel_rfl) (by exact rfl)) ?_
  simp only [Act.put, List.setIfInBounds_toArray, List.set_cons_zero, List.set_cons_succ]
  refine tk (i := 5) (.int .u16 u.dst) hS rfl (by kernel_rfl) (by kernel_rfl) (by kernel_rfl) (fun _ _ _ h => h) (by kernel_rfl) (by intro _ h; exact ex_cell (by exact rfl) Try.underlying22 rfl (by exact rfl) (h.hU.cell 1 rfl)) ?_
  simp only [Act.put, List.setIfInBounds_toArray, List.set_cons_zero, List.set_cons_succ]
  refine tk (i := 6) (.int .u64 u.dst) hS rfl (by kernel_rfl) (by kernel_rfl) (by kernel_rfl) (fun _ _ _ h => h) (by kernel_rfl) (by intro _ h; exact ex_conv (by exact rfl) (by exact rfl) (conv_u64 _ _ .u16 u.dst (by rw [Try.underlying22]; rfl) Try.underlying87 (ru.ok.dst.1) (by have := ru.ok.dst.2; omega) _)) ?_
  simp only [Act.put, List.setIfInBounds_toArray, List.set_cons_zero, List.set_cons_succ]
  refine tk (i := 8) (.int .i64 (8 + (u.bl.length : Int))) hS rfl (by kernel_rfl) (by kernel_rfl) (by kernel_rfl) (fun _ _ _ h => h) (by kernel_rfl) (by intro _ _; exact rfl) ?_
  simp only [Act.put, List.setIfInBounds_toArray, List.set_cons_zero, List.set_cons_succ]
  refine tk (i := 9) (.int .u64 (8 + (u.bl.length : Int))) hS rfl (by kernel_rfl) (by kernel_rfl) (by kernel_rfl) (fun _ _ _ h => h) (by kernel_rfl) (by intro _ h; exact ex_conv (by exact rfl) (by exact rfl) (conv_u64 _ _ .i64 (8 + (u.bl.length : Int)) (by rw [Try.underlying3]; rfl) Try.underlying87 (by omega) (by omega) _)) ?_
  simp only [Act.put, List.setIfInBounds_toArray, List.set_cons_zero, List.set_cons_succ]
  refine tk_one (by kernel_rfl) (op_callx (i := 3) (fun v w' => OwnB w' (w.heap.size + 1) v ([u.src / 256, u.src % 256])) rfl (by kernel_rfl) (by exact ex_call (by exact rfl) Try.func51 (by kernel_rfl) (by kernel_rfl) (by simp only [List.map_toArray, List.map_cons, List.map_nil] <;> rfl)) (by refine (put2_any (w.heap.size + 1) _ [] u.src (ru.ok.src.1) (ru.ok.src.2) _ (OwnB.nil _ _) hS.big (by simp)).mono fun e w' g => ?_; obtain ⟨v, rfl, ho, hb⟩ := g; exact ⟨_, rfl, ho, hS.keep hb⟩) ?_)
  rintro v1 W1 ho1 hS1
  simp only [Act.put, List.setIfInBounds_toArray, List.set_cons_zero, List.set_cons_succ]
  refine tk_one (by kernel_rfl) (op_callx (i := 7) (fun v w' => OwnB w' (w.heap.size + 1) v ([u.src / 256, u.src % 256] ++ [u.dst / 256, u.dst % 256])) rfl (by kernel_rfl) (by exact ex_call (by exact rfl) Try.func51 (by kernel_rfl) (by kernel_rfl) (by simp only [List.map_toArray, List.map_cons, List.map_nil] <;> rfl)) (by refine (put2_any (w.heap.size + 1) _ [u.src / 256, u.src % 256] u.dst (ru.ok.dst.1) (ru.ok.dst.2) _ (ho1) hS1.big (by simp)).mono fun e w' g => ?_; obtain ⟨v, rfl, ho, hb⟩ := g; exact ⟨_, rfl, ho, hS1.keep hb⟩) ?_)
  rintro v2 W2 ho2 hS2
  simp only [Act.put, List.setIfInBounds_toArray, List.set_cons_zero, List.set_cons_succ]
  refine tk_one (by kernel_rfl) (op_callx (i := 10) (fun v w' => OwnB w' (w.heap.size + 1) v (([u.src / 256, u.src % 256] ++ [u.dst / 256, u.dst % 256]) ++ [(8 + (u.bl.length : Int)) / 256, (8 + (u.bl.length : Int)) % 256])) rfl (by kernel_rfl) (by exact ex_call (by exact rfl) Try.func51 (by kernel_rfl) (by kernel_rfl) (by simp only [List.map_toArray, List.map_cons, List.map_nil] <;> rfl)) (by refine (put2_any (w.heap.size + 1) _ ([u.src / 256, u.src % 256] ++ [u.dst / 256, u.dst % 256]) (8 + (u.bl.length : Int)) (by omega) (by omega) _ (ho2) hS2.big (by simp)).mono fun e w' g => ?_; obtain ⟨v, rfl, ho, hb⟩ := g; exact ⟨_, rfl, ho, hS2.keep hb⟩) ?_)
  rintro v3 W3 ho3 hS3
  simp only [Act.put, List.setIfInBounds_toArray, List.set_cons_zero, List.set_cons_succ]
  refine tk (i := 11) (v3) hS3 rfl (by kernel_rfl) (by kernel_rfl) (by kernel_rfl) (fun _ _ _ h => h) (by kernel_rfl) (by intro _ _; exact rfl) ?_
  simp only [Act.put, List.setIfInBounds_toArray, List.set_cons_zero, List.set_cons_succ]
  refine wpAnyH_done (by kernel_rfl) ?_ _
  have hZ := hS3
  -- END 4
  obtain ⟨B, hB⟩ : ∃ B, ([] ++ [u.src / 256, u.src % 256] ++ [u.dst / 256, u.dst % 256]) ++ [(8 + (u.bl.length : Int)) / 256, (8 + (u.bl.length : Int)) % 256] = B := ⟨_, rfl⟩
  have hB6 : B.length = 6 := by rw [← hB]; rfl
  have ho : OwnB W3 (w.heap.size + 1) v3 B := by rw [← hB]; exact ho3
  have hfl : ∀ (A8 A9 : Option Addr) (c8 c9 g5 : Nat), flat [(A8, c8, PS), (A9, c9, B), (some ⟨g5, 0, none⟩, 2, [0, 0]), (A, c, u.bl)] = PS ++ (u.first 0 ++ u.bl) := fun _ _ _ _ _ => by rw [← hB]; simp [flat, DU.first]
  have hwr : ∀ s, s = u.sum PS → B ++ [s / 256, s % 256] ++ u.bl = u.write PS := fun s hs => by rw [← hB, DU.write, if_neg (by omega), DU.bytes, ← hs]; simp [DU.first]
  have hsr := sumw_rng _ (hpr.app ((DU.first_rng ru.ok hlen (s := 0) (by decide)).app ru.body.rng))
  clear hB ho3 hS1 hS2 hS3 hS ho1 ho2
  obtain ⟨A9, c9, rfl, _⟩ := own_shape ho.own
  go_wp2_with fail
  refine wp_region_held_drew (S := SRB u A c (.slice A9 B.length c9) B w) (by kernel_rfl) ⟨hZ.keep (below_drew _ _), ho.drew⟩ (fun hS => ?_)
  generalize W3.drew = W0 at hS ⊢
  -- REGION 5
  refine tk (i := 0) (.slice A1 n1 c1) hS rfl (by kernel_rfl) (by kernel_rfl) (by kernel_rfl) (fun _ _ _ h => h) (by kernel_rfl) (by intro _ _; exact rfl) ?_
  simp only [Act.put, List.setIfInBounds_toArray, List.set_cons_zero, List.set_cons_succ]
  refine tk (i := 1) (.slice A2 n2 c2) hS rfl (by kernel_rfl) (by kernel_rfl) (by kernel_rfl) (fun _ _ _ h => h) (by kernel_rfl) (by intro _ _; exact rfl) ?_
  simp only [Act.put, List.setIfInBounds_toArray, List.set_cons_zero, List.set_cons_succ]
  refine tk (i := 2) (.int .i64 (8 + (u.bl.length : Int))) hS rfl (by kernel_rfl) (by kernel_rfl) (by kernel_rfl) (fun _ _ _ h => h) (by kernel_rfl) (by intro _ _; exact rfl) ?_
  simp only [Act.put, List.setIfInBounds_toArray, List.set_cons_zero, List.set_cons_succ]
  refine tk (i := 4) (.slice A9 B.length c9) hS rfl (by kernel_rfl) (by kernel_rfl) (by kernel_rfl) (fun _ _ _ h => h) (by kernel_rfl) (by intro _ _; exact rfl) ?_
  simp only [Act.put, List.setIfInBounds_toArray, List.set_cons_zero, List.set_cons_succ]
  refine tk (i := 6) (.pointer (some ⟨w.heap.size, 2, none⟩)) hS rfl (by kernel_rfl) (by kernel_rfl) (by kernel_rfl) (fun _ _ _ h => h) (by kernel_rfl) (by intro _ _; exact ex_field 2 0 (by exact rfl) Try.underlying28 (by exact rfl) rfl (by kernel_rfl) (by exact rfl)) ?_
  simp only [Act.put, List.setIfInBounds_toArray, List.set_cons_zero, List.set_cons_succ]
  refine tk (i := 7) (.slice A u.bl.length c) hS rfl (by kernel_rfl) (by kernel_rfl) (by kernel_rfl) (fun _ _ _ h => h) (by kernel_rfl) (by intro _ h; exact ex_cell (by exact rfl) Try.underlying24 rfl (by exact rfl) (h.r.hU.cell 2 rfl)) ?_
  simp only [Act.put, List.setIfInBounds_toArray, List.set_cons_zero, List.set_cons_succ]
  refine tk_two (by kernel_rfl) (op_callx (i := 3) (fun v w' => ∃ A8 c8, v = .slice A8 PS.length c8 ∧ By w'.heap.size w' A8 PS.length c8 PS ∧ Below W0.heap.size W0 w') rfl (by kernel_rfl) (by exact ex_call (by exact rfl) Try.func20 (by kernel_rfl) (by kernel_rfl) (by simp only [List.map_toArray, List.map_cons, List.map_nil] <;> rfl)) (by refine (hP hlen _ hS.r.bel).mono fun e w' g => ?_; obtain ⟨v, rfl, ho, hb⟩ := g; obtain ⟨A8, c8, rfl, y8⟩ := ho.by_; exact ⟨_, rfl, ⟨A8, c8, rfl, y8, hb⟩, hS.keep hb⟩) ?_) (op_build (i := 5) [.int .u8 0, .int .u8 0] rfl (by kernel_rfl) rfl Try.underlying24 (by kernel_rfl) (by kernel_rfl) rfl (by decide) (by decide) (by first | rfl | (simp only [List.map_toArray, List.map_cons, List.map_nil] <;> rfl)) (all2 rfl rfl) (fun _ hb => hS.keep hb) ?_)
  case' refine_1 =>
    rintro v3 W3 ⟨A8, c8, rfl, y8, hb3⟩ hS3
    try replace z5 := (z5.below hb3 (Nat.le_refl _)).more hb3.size
    simp only [Act.put, List.setIfInBounds_toArray, List.set_cons_zero, List.set_cons_succ]
    refine tk_one (by kernel_rfl) (op_build (i := 5) [.int .u8 0, .int .u8 0] rfl (by kernel_rfl) rfl Try.underlying24 (by kernel_rfl) (by kernel_rfl) rfl (by decide) (by decide) (by first | rfl | (simp only [List.map_toArray, List.map_cons, List.map_nil] <;> rfl)) (all2 rfl rfl) (fun _ hb => hS3.keep hb) ?_)
    intro g5 W5 hg5 _ hq5 hb5 hS5
    have z5 : By W5.heap.size W5 (some ⟨g5, 0, none⟩) 2 2 [0, 0] := By.blk (t := 5) hg5 (Nat.le_refl _) (by intro y hy; simp at hy; omega) (by simp) rfl rfl
    try replace y8 := (y8.below hb5 (Nat.le_refl _)).more hb5.size
    simp only [Act.put, List.setIfInBounds_toArray, List.set_cons_zero, List.set_cons_succ]
    refine tk_one (by kernel_rfl) (op_build (i := 8) [.slice A8 PS.length c8, .slice A9 B.length c9, .slice (some ⟨g5, 0, none⟩) 2 2, .slice A u.bl.length c] rfl (by kernel_rfl) rfl Try.underlying44 (by kernel_rfl) (by kernel_rfl) rfl (by decide) (by decide) (by first | rfl | (simp only [List.map_toArray, List.map_cons, List.map_nil] <;> rfl)) (all4 rfl rfl rfl rfl) (fun _ hb => hS5.keep hb) ?_)
    intro g8 W8 hg8 _ hq8 hb8 hS8
    have hP8 : Parts W8.heap.size W8 (some ⟨g8, 0, none⟩) 4 4 [(A8, c8, PS), (A9, c9, B), (some ⟨g5, 0, none⟩, 2, [0, 0]), (A, c, u.bl)] := Parts.blk (t := 24) (fz := (0, 0)) hg8 (Nat.le_refl _) rfl (all4 ((y8.below hb8 (Nat.le_refl _)).more hb8.size) hS8.own.row ((z5.below hb8 (Nat.le_refl _)).more hb8.size) ((ru.body.below hS8.r.bel (Nat.le_refl _)).more hS8.r.bel.size)) (by simp)
    simp only [Act.put, List.setIfInBounds_toArray, List.set_cons_zero, List.set_cons_succ]
    refine tk_one (by kernel_rfl) (op_callx (i := 9) (fun v w' => ∃ q : Int, v = .int .u16 q ∧ Hid (q = 65535 - sumw (PS ++ (u.first 0 ++ u.bl)))) rfl (by kernel_rfl) (by exact ex_call (by exact rfl) Try.func52 (by kernel_rfl) (by kernel_rfl) (by simp only [List.map_toArray, List.map_cons, List.map_nil] <;> rfl)) (by refine (rof_any _ _ [(A8, c8, PS), (A9, c9, B), (some ⟨g5, 0, none⟩, 2, [0, 0]), (A, c, u.bl)] _ hP8 (by simp [flat]; omega)).mono fun e w' g => ?_; exact ⟨_, g.1, ⟨_, rfl, Lib.hid (by rw [hfl A8 A9 c8 c9 g5])⟩, hS8.keep g.2⟩) ?_)
    rintro v9 W9 ⟨q, rfl, hq⟩ hS9
    simp only [Act.put, List.setIfInBounds_toArray, List.set_cons_zero, List.set_cons_succ]
    refine tk (i := 10) (.int .u16 q) hS9 rfl (by kernel_rfl) (by kernel_rfl) (by kernel_rfl) (fun _ _ _ h => h) (by kernel_rfl) (by intro _ _; exact rfl) ?_
    simp only [Act.put, List.setIfInBounds_toArray, List.set_cons_zero, List.set_cons_succ]
    refine wpAnyH_done (by kernel_rfl) ?_ _
    have hZ5 := hS9
    clear hS
  case' refine_2 =>
    intro g5 W5 hg5 _ hq5 hb5 hS5
    have z5 : By W5.heap.size W5 (some ⟨g5, 0, none⟩) 2 2 [0, 0] := By.blk (t := 5) hg5 (Nat.le_refl _) (by intro y hy; simp at hy; omega) (by simp) rfl rfl
    try replace y8 := (y8.below hb5 (Nat.le_refl _)).more hb5.size
    simp only [Act.put, List.setIfInBounds_toArray, List.set_cons_zero, List.set_cons_succ]
    refine tk_one (by kernel_rfl) (op_callx (i := 3) (fun v w' => ∃ A8 c8, v = .slice A8 PS.length c8 ∧ By w'.heap.size w' A8 PS.length c8 PS ∧ Below W5.heap.size W5 w') rfl (by kernel_rfl) (by exact ex_call (by exact rfl) Try.func20 (by kernel_rfl) (by kernel_rfl) (by simp only [List.map_toArray, List.map_cons, List.map_nil] <;> rfl)) (by refine (hP hlen _ hS5.r.bel).mono fun e w' g => ?_; obtain ⟨v, rfl, ho, hb⟩ := g; obtain ⟨A8, c8, rfl, y8⟩ := ho.by_; exact ⟨_, rfl, ⟨A8, c8, rfl, y8, hb⟩, hS5.keep hb⟩) ?_)
    rintro v3 W3 ⟨A8, c8, rfl, y8, hb3⟩ hS3
    try replace z5 := (z5.below hb3 (Nat.le_refl _)).more hb3.size
    simp only [Act.put, List.setIfInBounds_toArray, List.set_cons_zero, List.set_cons_succ]
    refine tk_one (by kernel_rfl) (op_build (i := 8) [.slice A8 PS.length c8, .slice A9 B.length c9, .slice (some ⟨g5, 0, none⟩) 2 2, .slice A u.bl.length c] rfl (by kernel_rfl) rfl Try.underlying44 (by kernel_rfl) (by kernel_rfl) rfl (by decide) (by decide) (by first | rfl | (simp only [List.map_toArray, List.map_cons, List.map_nil] <;> rfl)) (all4 rfl rfl rfl rfl) (fun _ hb => hS3.keep hb) ?_)
    intro g8 W8 hg8 _ hq8 hb8 hS8
    have hP8 : Parts W8.heap.size W8 (some ⟨g8, 0, none⟩) 4 4 [(A8, c8, PS), (A9, c9, B), (some ⟨g5, 0, none⟩, 2, [0, 0]), (A, c, u.bl)] := Parts.blk (t := 24) (fz := (0, 0)) hg8 (Nat.le_refl _) rfl (all4 ((y8.below hb8 (Nat.le_refl _)).more hb8.size) hS8.own.row ((z5.below hb8 (Nat.le_refl _)).more hb8.size) ((ru.body.below hS8.r.bel (Nat.le_refl _)).more hS8.r.bel.size)) (by simp)
    simp only [Act.put, List.setIfInBounds_toArray, List.set_cons_zero, List.set_cons_succ]
    refine tk_one (by kernel_rfl) (op_callx (i := 9) (fun v w' => ∃ q : Int, v = .int .u16 q ∧ Hid (q = 65535 - sumw (PS ++ (u.first 0 ++ u.bl)))) rfl (by kernel_rfl) (by exact ex_call (by exact rfl) Try.func52 (by kernel_rfl) (by kernel_rfl) (by simp only [List.map_toArray, List.map_cons, List.map_nil] <;> rfl)) (by refine (rof_any _ _ [(A8, c8, PS), (A9, c9, B), (some ⟨g5, 0, none⟩, 2, [0, 0]), (A, c, u.bl)] _ hP8 (by simp [flat]; omega)).mono fun e w' g => ?_; exact ⟨_, g.1, ⟨_, rfl, Lib.hid (by rw [hfl A8 A9 c8 c9 g5])⟩, hS8.keep g.2⟩) ?_)
    rintro v9 W9 ⟨q, rfl, hq⟩ hS9
    simp only [Act.put, List.setIfInBounds_toArray, List.set_cons_zero, List.set_cons_succ]
    refine tk (i := 10) (.int .u16 q) hS9 rfl (by kernel_rfl) (by kernel_rfl) (by kernel_rfl) (fun _ _ _ h => h) (by kernel_rfl) (by intro _ _; exact rfl) ?_
    simp only [Act.put, List.setIfInBounds_toArray, List.set_cons_zero, List.set_cons_succ]
    refine wpAnyH_done (by kernel_rfl) ?_ _
    have hZ5 := hS9
    clear hS
  -- END 5
  all_goals
    have hqr : 0 ≤ q ∧ q < 65536 := by have := hq.out; omega
    have hsq0 : nz q = u.sum PS := by rw [DU.sum, ← hq.out]
    clear hq hsr
    by_cases hz : q = 0
    · subst hz
      have hsq : 65535 = u.sum PS := by rw [← hsq0]; rfl
      clear hsq0
      go_wp2_with fail
      have ho := hZ5.own.drew
      refine wp_region_held_drew (S := SRU u A c w) (by kernel_rfl) (hZ5.r.keep (below_drew _ _)) (fun hS => ?_)
      generalize W9.drew = W0 at hS ho ⊢
      -- REGION 8a
      refine tk (i := 0) (.slice A9 B.length c9) hS rfl (by kernel_rfl) (by kernel_rfl) (by kernel_rfl) (fun _ _ _ h => h) (by kernel_rfl) (by intro _ _; exact rfl) ?_
      simp only [Act.put, List.setIfInBounds_toArray, List.set_cons_zero, List.set_cons_succ]
      refine tk (i := 1) (.int .u16 65535) hS rfl (by kernel_rfl) (by kernel_rfl) (by kernel_rfl) (fun _ _ _ h => h) (by kernel_rfl) (by intro _ _; exact rfl) ?_
      simp only [Act.put, List.setIfInBounds_toArray, List.set_cons_zero, List.set_cons_succ]
      refine tk (i := 2) (.int .u64 65535) hS rfl (by kernel_rfl) (by kernel_rfl) (by kernel_rfl) (fun _ _ _ h => h) (by kernel_rfl) (by intro _ h; exact ex_conv (by exact rfl) (by exact rfl) (conv_u64 _ _ .u16 65535 (by rw [Try.underlying22]; rfl) Try.underlying87 (by omega) (by omega) _)) ?_
      simp only [Act.put, List.setIfInBounds_toArray, List.set_cons_zero, List.set_cons_succ]
      refine tk (i := 4) (.pointer (some ⟨w.heap.size, 2, none⟩)) hS rfl (by kernel_rfl) (by kernel_rfl) (by kernel_rfl) (fun _ _ _ h => h) (by kernel_rfl) (by intro _ _; exact ex_field 2 0 (by exact rfl) Try.underlying28 (by exact rfl) rfl (by kernel_rfl) (by exact rfl)) ?_
      simp only [Act.put, List.setIfInBounds_toArray, List.set_cons_zero, List.set_cons_succ]
      refine tk (i := 5) (.slice A u.bl.length c) hS rfl (by kernel_rfl) (by kernel_rfl) (by kernel_rfl) (fun _ _ _ h => h) (by kernel_rfl) (by intro _ h; exact ex_cell (by exact rfl) Try.underlying24 rfl (by exact rfl) (h.hU.cell 2 rfl)) ?_
      simp only [Act.put, List.setIfInBounds_toArray, List.set_cons_zero, List.set_cons_succ]
      refine tk_one (by kernel_rfl) (op_callx (i := 3) (fun v w' => OwnB w' (w.heap.size + 1) v (B ++ [65535 / 256, 65535 % 256])) rfl (by kernel_rfl) (by exact ex_call (by exact rfl) Try.func51 (by kernel_rfl) (by kernel_rfl) (by simp only [List.map_toArray, List.map_cons, List.map_nil] <;> rfl)) (by refine (put2_any (w.heap.size + 1) _ B 65535 (by omega) (by omega) _ ho hS.big (by omega)).mono fun e w' g => ?_; obtain ⟨v, rfl, ho, hb⟩ := g; exact ⟨_, rfl, ho, hS.keep hb⟩) ?_)
      rintro v7 W7 ho7 hS7
      simp only [Act.put, List.setIfInBounds_toArray, List.set_cons_zero, List.set_cons_succ]
      refine tk_one (by kernel_rfl) (op_app (i := 6) (.tmp 45) (.tmp 47) _ rfl (by kernel_rfl) rfl Try.underlying24 (by kernel_rfl) (w.heap.size + 1) _ _ rfl (ho7) _ _ _ _ _ rfl (ru.body.below hS7.bel (Nat.le_refl _)) (by simp; omega) (hS7.big) (fun _ hb => hS7.keep hb) ?_)
      intro v8 W8 ho8 hb8 hS8
      simp only [Act.put, List.setIfInBounds_toArray, List.set_cons_zero, List.set_cons_succ]
      refine tk (i := 7) (v8) hS8 rfl (by kernel_rfl) (by kernel_rfl) (by kernel_rfl) (fun _ _ _ h => h) (by kernel_rfl) (by intro _ _; exact rfl) ?_
      simp only [Act.put, List.setIfInBounds_toArray, List.set_cons_zero, List.set_cons_succ]
      refine tk (i := 8) (.int .i64 0) hS8 rfl (by kernel_rfl) (by kernel_rfl) (by kernel_rfl) (fun _ _ _ h => h) (by kernel_rfl) (by intro _ _; exact rfl) ?_
      simp only [Act.put, List.setIfInBounds_toArray, List.set_cons_zero, List.set_cons_succ]
      refine wpAnyH_done (by kernel_rfl) ?_ _
      obtain ⟨A', c', rfl, _⟩ := own_shape ho8.own
      go_wp2
      go_ret2
      exact ⟨_, _, rfl, Lib.hid herr.symm, by rw [← hwr _ hsq]; exact ho8.more (Nat.le_succ w.heap.size), hS8.bel⟩
      -- END 8a
    · have hsq : q = u.sum PS := by rw [← hsq0, nz, if_neg hz]
      clear hsq0
      go_wp2_with fail
      have ho := hZ5.own.drew
      refine wp_region_held_drew (S := SRU u A c w) (by kernel_rfl) (hZ5.r.keep (below_drew _ _)) (fun hS => ?_)
      generalize W9.drew = W0 at hS ho ⊢
      -- REGION 8b
      refine tk (i := 0) (.slice A9 B.length c9) hS rfl (by kernel_rfl) (by kernel_rfl) (by kernel_rfl) (fun _ _ _ h => h) (by kernel_rfl) (by intro _ _; exact rfl) ?_
      simp only [Act.put, List.setIfInBounds_toArray, List.set_cons_zero, List.set_cons_succ]
      refine tk (i := 1) (.int .u16 q) hS rfl (by kernel_rfl) (by kernel_rfl) (by kernel_rfl) (fun _ _ _ h => h) (by kernel_rfl) (by intro _ _; exact rfl) ?_
      simp only [Act.put, List.setIfInBounds_toArray, List.set_cons_zero, List.set_cons_succ]
      refine tk (i := 2) (.int .u64 q) hS rfl (by kernel_rfl) (by kernel_rfl) (by kernel_rfl) (fun _ _ _ h => h) (by kernel_rfl) (by intro _ h; exact ex_conv (by exact rfl) (by exact rfl) (conv_u64 _ _ .u16 q (by rw [Try.underlying22]; rfl) Try.underlying87 (by omega) (by omega) _)) ?_
      simp only [Act.put, List.setIfInBounds_toArray, List.set_cons_zero, List.set_cons_succ]
      refine tk (i := 4) (.pointer (some ⟨w.heap.size, 2, none⟩)) hS rfl (by kernel_rfl) (by kernel_rfl) (by kernel_rfl) (fun _ _ _ h => h) (by kernel_rfl) (by intro _ _; exact ex_field 2 0 (by exact rfl) Try.underlying28 (by exact rfl) rfl (by kernel_rfl) (by exact rfl)) ?_
      simp only [Act.put, List.setIfInBounds_toArray, List.set_cons_zero, List.set_cons_succ]
      refine tk (i := 5) (.slice A u.bl.length c) hS rfl (by kernel_rfl) (by kernel_rfl) (by kernel_rfl) (fun _ _ _ h => h) (by kernel_rfl) (by intro _ h; exact ex_cell (by exact rfl) Try.underlying24 rfl (by exact rfl) (h.hU.cell 2 rfl)) ?_
      simp only [Act.put, List.setIfInBounds_toArray, List.set_cons_zero, List.set_cons_succ]
      refine tk_one (by kernel_rfl) (op_callx (i := 3) (fun v w' => OwnB w' (w.heap.size + 1) v (B ++ [q / 256, q % 256])) rfl (by kernel_rfl) (by exact ex_call (by exact rfl) Try.func51 (by kernel_rfl) (by kernel_rfl) (by simp only [List.map_toArray, List.map_cons, List.map_nil] <;> rfl)) (by refine (put2_any (w.heap.size + 1) _ B q (by omega) (by omega) _ ho hS.big (by omega)).mono fun e w' g => ?_; obtain ⟨v, rfl, ho, hb⟩ := g; exact ⟨_, rfl, ho, hS.keep hb⟩) ?_)
      rintro v7 W7 ho7 hS7
      simp only [Act.put, List.setIfInBounds_toArray, List.set_cons_zero, List.set_cons_succ]
      refine tk_one (by kernel_rfl) (op_app (i := 6) (.tmp 45) (.tmp 47) _ rfl (by kernel_rfl) rfl Try.underlying24 (by kernel_rfl) (w.heap.size + 1) _ _ rfl (ho7) _ _ _ _ _ rfl (ru.body.below hS7.bel (Nat.le_refl _)) (by simp; omega) (hS7.big) (fun _ hb => hS7.keep hb) ?_)
      intro v8 W8 ho8 hb8 hS8
      simp only [Act.put, List.setIfInBounds_toArray, List.set_cons_zero, List.set_cons_succ]
      refine tk (i := 7) (v8) hS8 rfl (by kernel_rfl) (by kernel_rfl) (by kernel_rfl) (fun _ _ _ h => h) (by kernel_rfl) (by intro _ _; exact rfl) ?_
      simp only [Act.put, List.setIfInBounds_toArray, List.set_cons_zero, List.set_cons_succ]
      refine tk (i := 8) (.int .i64 0) hS8 rfl (by kernel_rfl) (by kernel_rfl) (by kernel_rfl) (fun _ _ _ h => h) (by kernel_rfl) (by intro _ _; exact rfl) ?_
      simp only [Act.put, List.setIfInBounds_toArray, List.set_cons_zero, List.set_cons_succ]
      refine wpAnyH_done (by kernel_rfl) ?_ _
      obtain ⟨A', c', rfl, _⟩ := own_shape ho8.own
      go_wp2
      go_ret2
      exact ⟨_, _, rfl, Lib.hid herr.symm, by rw [← hwr _ hsq]; exact ho8.more (Nat.le_succ w.heap.size), hS8.bel⟩
      -- END 8b
theorem rwudp4_any (a b : List Int) (ha : a.length = 4) (hb : b.length = 4) (A1 A2 : Option Addr) (c1 c2 : Nat) (u : DU) (A : Option Addr) (c : Nat) (w : World) (y1 : By w.heap.size w A1 4 c1 a) (y2 : By w.heap.size w A2 4 c2 b) (ru : RdU w.heap.size w u A c) :
    Calls Try.prog 23 #[.slice A1 4 c1, .slice A2 4 c2, .agg (u.cells A c)] w fun e w' => ∃ v s, e = .returned (.tuple #[v, .int .i64 s]) ∧ Hid (s = u.err) ∧ OwnB w' w.heap.size v (u.write (pse4 a b (8 + u.bl.length) 17)) ∧ Below w.heap.size w w' := by
  by_cases hl : u.bl.length ≤ 65527
  · exact rwudp_gen u A c w ru _ (by rw [pse4_len ha hb]; decide) (pse4_rng y1.rng y2.rng (by omega) (by decide)) A1 A2 4 4 c1 c2 fun _ w' h => rpse4_any a b ha hb 17 _ (by decide) (by decide) (by omega) (by omega) A1 A2 c1 c2 w' ((y1.below h (Nat.le_refl _)).more h.size) ((y2.below h (Nat.le_refl _)).more h.size)
  · have e : ∀ PS, u.write PS = u.write [] := fun PS => by rw [DU.write, DU.write, if_pos (by omega), if_pos (by omega)]
    rw [e]
    exact rwudp_gen u A c w ru [] (by simp) InB.nil A1 A2 4 4 c1 c2 fun h => absurd h hl
theorem rwudp6_any (a b : List Int) (ha : a.length = 16) (hb : b.length = 16) (A1 A2 : Option Addr) (c1 c2 : Nat) (u : DU) (A : Option Addr) (c : Nat) (w : World) (y1 : By w.heap.size w A1 16 c1 a) (y2 : By w.heap.size w A2 16 c2 b) (ru : RdU w.heap.size w u A c) :
    Calls Try.prog 23 #[.slice A1 16 c1, .slice A2 16 c2, .agg (u.cells A c)] w fun e w' => ∃ v s, e = .returned (.tuple #[v, .int .i64 s]) ∧ Hid (s = u.err) ∧ OwnB w' w.heap.size v (u.write (pse6 a b (8 + u.bl.length) 17)) ∧ Below w.heap.size w w' := by
  by_cases hl : u.bl.length ≤ 65527
  · exact rwudp_gen u A c w ru _ (by rw [pse6_len ha hb]; decide) (pse6_rng y1.rng y2.rng (by omega) (by decide)) A1 A2 16 16 c1 c2 fun _ w' h => rpse6_any a b ha hb 17 _ (by decide) (by decide) (by omega) (by omega) A1 A2 c1 c2 w' ((y1.below h (Nat.le_refl _)).more h.size) ((y2.below h (Nat.le_refl _)).more h.size)
  · have e : ∀ PS, u.write PS = u.write [] := fun PS => by rw [DU.write, DU.write, if_pos (by omega), if_pos (by omega)]
    rw [e]
    exact rwudp_gen u A c w ru [] (by simp) InB.nil A1 A2 16 16 c1 c2 fun h => absurd h hl
end Go.Proofs.Ytaobnbjkhgcmlaa
