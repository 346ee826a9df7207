/-
  The walk of the reference's WriteTCP.
-/
import Derived.Test.YtaobnbjkhgcmlaaRwu
import Derived.Test.YtaobnbjkhgcmlaaSt7
namespace Go.Proofs.Ytaobnbjkhgcmlaa
open Go.RowKit Go.Shelf

/-- what lay in a world stands -/
structure SG (w w' : World) : Prop where
  b : Below w.heap.size w w'
theorem SG.keep {w w' w'' : World} (h : SG w w') (hb : Below w.heap.size w' w'') : SG w w'' := ⟨h.b.trans hb⟩
theorem SG.big {w w' : World} (h : SG w w') : w.heap.size ≤ w'.heap.size := h.b.size
theorem own_apart {w0 w : World} {b1 b2 : Nat} {v v2 : Value} {l l2 : List Int} (h : OwnB w0 b1 v l) (h2 : OwnB w b2 v2 l2) (hb : w0.heap.size ≤ b2) : v2.ownBlock = none ∨ v2.ownBlock ≠ v.ownBlock := by
  cases e : v2.ownBlock with
  | none => exact .inl rfl
  | some k =>
    right
    intro e2
    have h3 := (h2.base k e).1
    have h4 := (h.base k e2.symm).2
    omega

set_option maxRecDepth 100000 in
set_option maxHeartbeats 1600000 in
theorem rwtcp_gen (t : DT) (p : WT) (w : World) (rt : RdT w.heap.size w t p) (PS : List Int) (hpl : PS.length ≤ 100) (hpr : InB PS) (A1 A2 : Option Addr) (n1 n2 c1 c2 : Nat)
    (hP : t.check = 0 → ∀ w', Below w.heap.size w w' → Calls Try.prog 20 #[.slice A1 n1 c1, .slice A2 n2 c2, .int .u8 6, .int .i64 (20 + (t.ol.length : Int) + (t.bl.length : Int))] w' fun e w'' => ∃ v, e = .returned v ∧ OwnB w'' w'.heap.size v PS ∧ Below w'.heap.size w' w'') :
    Calls Try.prog 24 #[.slice A1 n1 c1, .slice A2 n2 c2, .agg (t.cells p)] w fun e w' => ∃ v s, e = .returned (.tuple #[v, .int .i64 s]) ∧ Hid (s = t.check) ∧ OwnB w' w.heap.size v (t.write PS) ∧ Below w.heap.size w w' := by
  have hT0 : Has (w.alloc (.cells (t.cells p) 26)) w.heap.size (.cells (t.cells p) 26 (0, 0)) := Has.newAt rfl
  have hB0 : Below w.heap.size w (w.alloc (.cells (t.cells p) 26)) := (Below.refl _ _).alloc (Nat.le_refl _) _
  have hb1 := rt.opt.big
  have hb2 := rt.body.big
  have hb3 := rt.opt.cap
  have hb4 := rt.body.cap
  have hcH := Lib.hid (checkTCP_any t p (w.alloc (.cells (t.cells p) 26)) (by omega) (by omega) rt.ok.flags)
  clear hb1 hb2 hb3 hb4
  go_enter Try.func24, Try.ntmps24
  go_wp2_with (refine wpList_load_row rfl 26 (.tmp 5) rfl w.heap.size rfl 26 (t.cells p) (0, 0) _ hT0 Try.underlying26 rfl tcp_info ?_)
  refine hcH.out.mono ?_
  rintro e w1 ⟨⟨q, rfl, hq⟩, hb1⟩
  have hT := hT0.below hb1 hT0.lt
  have hB1 := hB0.trans (hb1.mono hB0.size)
  clear hcH hT0 hb1 hB0
  by_cases hc : t.check = 0
  case neg =>
    obtain ⟨s, hs⟩ : ∃ s, s = t.check := ⟨_, rfl⟩
    have hw : t.write PS = [] := by rw [DT.write, if_neg hc]
    obtain rfl : q = s := by rw [hs]; exact hq.out
    have hq0 : q ≠ 0 := by rw [hs]; exact hc
    have hsH := Lib.hid hs
    clear hs hq hc hP
    go_wp2
    go_ret2
    exact ⟨_, _, rfl, hsH, by rw [hw]; exact OwnB.nil _ _, hB1⟩
  case pos =>
  obtain rfl : q = 0 := hq.out.trans hc
  have hsm := DT.small hc
  have hP := hP hc
  have hcH := Lib.hid hc
  have hwr : t.write PS = t.bytes PS := by rw [DT.write, if_pos hc]
  have c7 := hT.cell 7 (v := .slice p.oA t.ol.length p.oc) rfl
  have hol := hsm.1
  have hbl : t.bl.length ≤ 65515 := by omega
  have hfl := rt.ok.flags
  have hmod := hsm.2.1
  clear hq hc hsm
  go_wp2_with fail
  refine wp_region_held_drew (S := SG w1) (by kernel_rfl) ⟨below_drew _ _⟩ (fun hS => ?_)
  generalize w1.drew = W0 at hS ⊢
  clear c7
  -- REGION 5
  refine tk (i := 0) (.pointer (some ⟨w.heap.size, 0, none⟩)) hS rfl (by kernel_rfl) (by kernel_rfl) (by kernel_rfl) (fun _ _ _ h => h) (by kernel_rfl) (by intro _ _; exact ex_field 0 0 (by exact rfl) Try.underlying26 (by exact rfl) rfl (by kernel_rfl) (by exact rfl)) ?_
  simp only [Act.put, List.setIfInBounds_toArray, List.set_cons_zero, List.set_cons_succ]
  refine tk (i := 1) (.int .u16 t.src) hS rfl (by kernel_rfl) (by kernel_rfl) (by kernel_rfl) (fun _ _ _ h => h) (by kernel_rfl) (by intro _ h; exact ex_cell (by exact rfl) Try.underlying22 rfl (by exact rfl) ((hT.below h.b hT.lt).cell 0 rfl)) ?_
  simp only [Act.put, List.setIfInBounds_toArray, List.set_cons_zero, List.set_cons_succ]
  refine tk (i := 2) (.int .u64 t.src) hS rfl (by kernel_rfl) (by kernel_rfl) (by kernel_rfl) (fun _ _ _ h => h) (by kernel_rfl) (by intro _ h; exact ex_conv (by exact rfl) (by exact rfl) (conv_u64 _ _ .u16 t.src (by rw [Try.underlying22]; rfl) Try.underlying87 (rt.ok.src.1) (by have := rt.ok.src.2; omega) _)) ?_
  simp only [Act.put, List.setIfInBounds_toArray, List.set_cons_zero, List.set_cons_succ]
  refine tk (i := 4) (.pointer (some ⟨w.heap.size, 1, none⟩)) hS rfl (by kernel_rfl) (by kernel_rfl) (by kernel_rfl) (fun _ _ _ h => h) (by kernel_rfl) (by intro _ _; exact ex_field 1 0 (by exact rfl) Try.underlying26 (by exact rfl) rfl (by kernel_rfl) (by exact rfl)) ?_
  simp only [Act.put, List.setIfInBounds_toArray, List.set_cons_zero, List.set_cons_succ]
  refine tk (i := 5) (.int .u16 t.dst) hS rfl (by kernel_rfl) (by kernel_rfl) (by kernel_rfl) (fun _ _ _ h => h) (by kernel_rfl) (by intro _ h; exact ex_cell (by exact rfl) Try.underlying22 rfl (by exact rfl) ((hT.below h.b hT.lt).cell 1 rfl)) ?_
  simp only [Act.put, List.setIfInBounds_toArray, List.set_cons_zero, List.set_cons_succ]
  refine tk (i := 6) (.int .u64 t.dst) hS rfl (by kernel_rfl) (by kernel_rfl) (by kernel_rfl) (fun _ _ _ h => h) (by kernel_rfl) (by intro _ h; exact ex_conv (by exact rfl) (by exact rfl) (conv_u64 _ _ .u16 t.dst (by rw [Try.underlying22]; rfl) Try.underlying87 (rt.ok.dst.1) (by have := rt.ok.dst.2; omega) _)) ?_
  simp only [Act.put, List.setIfInBounds_toArray, List.set_cons_zero, List.set_cons_succ]
  refine tk_one (by kernel_rfl) (op_callx (i := 3) (fun v w' => OwnB w' w1.heap.size v ([] ++ [t.src / 256, t.src % 256])) rfl (by kernel_rfl) (by exact ex_call (by exact rfl) Try.func51 (by kernel_rfl) (by kernel_rfl) (by simp only [List.map_toArray, List.map_cons, List.map_nil] <;> rfl)) (by refine (put2_any w1.heap.size _ _ t.src (rt.ok.src.1) (rt.ok.src.2) _ (OwnB.nil _ _) hS.big (by simp)).mono fun e w' g => ?_; obtain ⟨v, rfl, ho, hb⟩ := g; exact ⟨_, rfl, ho, hS.keep hb⟩) ?_)
  rintro v1 W1 ho1 hS1
  simp only [Act.put, List.setIfInBounds_toArray, List.set_cons_zero, List.set_cons_succ]
  refine tk_one (by kernel_rfl) (op_callx (i := 7) (fun v w' => OwnB w' w1.heap.size v ([] ++ [t.src / 256, t.src % 256] ++ [t.dst / 256, t.dst % 256])) rfl (by kernel_rfl) (by exact ex_call (by exact rfl) Try.func51 (by kernel_rfl) (by kernel_rfl) (by simp only [List.map_toArray, List.map_cons, List.map_nil] <;> rfl)) (by refine (put2_any w1.heap.size _ _ t.dst (rt.ok.dst.1) (rt.ok.dst.2) _ (ho1) hS1.big (by simp)).mono fun e w' g => ?_; obtain ⟨v, rfl, ho, hb⟩ := g; exact ⟨_, rfl, ho, hS1.keep hb⟩) ?_)
  rintro v2 W2 ho2 hS2
  simp only [Act.put, List.setIfInBounds_toArray, List.set_cons_zero, List.set_cons_succ]
  refine tk (i := 8) (v2) hS2 rfl (by kernel_rfl) (by kernel_rfl) (by kernel_rfl) (fun _ _ _ h => h) (by kernel_rfl) (by intro _ _; exact rfl) ?_
  simp only [Act.put, List.setIfInBounds_toArray, List.set_cons_zero, List.set_cons_succ]
  refine wpAnyH_done (by kernel_rfl) ?_ _
  have hZ := hS2
  -- END 5
  go_wp2_with fail
  have ho2 := ho2.drew
  refine wp_region_held_drew (S := SG w1) (by kernel_rfl) (hZ.keep (below_drew _ _)) (fun hS => ?_)
  generalize W2.drew = W0 at hS ho2 ⊢
  -- REGION 6
  refine tk (i := 0) (v2) hS rfl (by kernel_rfl) (by kernel_rfl) (by kernel_rfl) (fun _ _ _ h => h) (by kernel_rfl) (by intro _ _; exact rfl) ?_
  simp only [Act.put, List.setIfInBounds_toArray, List.set_cons_zero, List.set_cons_succ]
  refine tk (i := 1) (.pointer (some ⟨w.heap.size, 2, none⟩)) hS rfl (by kernel_rfl) (by kernel_rfl) (by kernel_rfl) (fun _ _ _ h => h) (by kernel_rfl) (by intro _ _; exact ex_field 2 0 (by exact rfl) Try.underlying26 (by exact rfl) rfl (by kernel_rfl) (by exact rfl)) ?_
  simp only [Act.put, List.setIfInBounds_toArray, List.set_cons_zero, List.set_cons_succ]
  refine tk (i := 2) (.int .u32 t.seq) hS rfl (by kernel_rfl) (by kernel_rfl) (by kernel_rfl) (fun _ _ _ h => h) (by kernel_rfl) (by intro _ h; exact ex_cell (by exact rfl) Try.underlying23 rfl (by exact rfl) ((hT.below h.b hT.lt).cell 2 rfl)) ?_
  simp only [Act.put, List.setIfInBounds_toArray, List.set_cons_zero, List.set_cons_succ]
  refine tk (i := 3) (.int .u64 t.seq) hS rfl (by kernel_rfl) (by kernel_rfl) (by kernel_rfl) (fun _ _ _ h => h) (by kernel_rfl) (by intro _ h; exact ex_conv (by exact rfl) (by exact rfl) (conv_u64 _ _ .u32 t.seq (by rw [Try.underlying23]; rfl) Try.underlying87 (rt.ok.seq.1) (by have := rt.ok.seq.2; omega) _)) ?_
  simp only [Act.put, List.setIfInBounds_toArray, List.set_cons_zero, List.set_cons_succ]
  refine tk (i := 5) (.pointer (some ⟨w.heap.size, 3, none⟩)) hS rfl (by kernel_rfl) (by kernel_rfl) (by kernel_rfl) (fun _ _ _ h => h) (by kernel_rfl) (by intro _ _; exact ex_field 3 0 (by exact rfl) Try.underlying26 (by exact rfl) rfl (by kernel_rfl) (by exact rfl)) ?_
  simp only [Act.put, List.setIfInBounds_toArray, List.set_cons_zero, List.set_cons_succ]
  refine tk (i := 6) (.int .u32 t.ack) hS rfl (by kernel_rfl) (by kernel_rfl) (by kernel_rfl) (fun _ _ _ h => h) (by kernel_rfl) (by intro _ h; exact ex_cell (by exact rfl) Try.underlying23 rfl (by exact rfl) ((hT.below h.b hT.lt).cell 3 rfl)) ?_
  simp only [Act.put, List.setIfInBounds_toArray, List.set_cons_zero, List.set_cons_succ]
  refine tk (i := 7) (.int .u64 t.ack) hS rfl (by kernel_rfl) (by kernel_rfl) (by kernel_rfl) (fun _ _ _ h => h) (by kernel_rfl) (by intro _ h; exact ex_conv (by exact rfl) (by exact rfl) (conv_u64 _ _ .u32 t.ack (by rw [Try.underlying23]; rfl) Try.underlying87 (rt.ok.ack.1) (by have := rt.ok.ack.2; omega) _)) ?_
  simp only [Act.put, List.setIfInBounds_toArray, List.set_cons_zero, List.set_cons_succ]
  refine tk_one (by kernel_rfl) (op_callx (i := 4) (fun v w' => OwnB w' w1.heap.size v ([] ++ [t.src / 256, t.src % 256] ++ [t.dst / 256, t.dst % 256] ++ [t.seq / 16777216, t.seq / 65536 % 256, t.seq / 256 % 256, t.seq % 256])) rfl (by kernel_rfl) (by exact ex_call (by exact rfl) Try.func51 (by kernel_rfl) (by kernel_rfl) (by simp only [List.map_toArray, List.map_cons, List.map_nil] <;> rfl)) (by refine (put4_any w1.heap.size _ _ t.seq (rt.ok.seq.1) (rt.ok.seq.2) _ (ho2) hS.big (by simp)).mono fun e w' g => ?_; obtain ⟨v, rfl, ho, hb⟩ := g; exact ⟨_, rfl, ho, hS.keep hb⟩) ?_)
  rintro v3 W3 ho3 hS3
  simp only [Act.put, List.setIfInBounds_toArray, List.set_cons_zero, List.set_cons_succ]
  refine tk_one (by kernel_rfl) (op_callx (i := 8) (fun v w' => OwnB w' w1.heap.size v ([] ++ [t.src / 256, t.src % 256] ++ [t.dst / 256, t.dst % 256] ++ [t.seq / 16777216, t.seq / 65536 % 256, t.seq / 256 % 256, t.seq % 256] ++ [t.ack / 16777216, t.ack / 65536 % 256, t.ack / 256 % 256, t.ack % 256])) rfl (by kernel_rfl) (by exact ex_call (by exact rfl) Try.func51 (by kernel_rfl) (by kernel_rfl) (by simp only [List.map_toArray, List.map_cons, List.map_nil] <;> rfl)) (by refine (put4_any w1.heap.size _ _ t.ack (rt.ok.ack.1) (rt.ok.ack.2) _ (ho3) hS3.big (by simp)).mono fun e w' g => ?_; obtain ⟨v, rfl, ho, hb⟩ := g; exact ⟨_, rfl, ho, hS3.keep hb⟩) ?_)
  rintro v4 W4 ho4 hS4
  simp only [Act.put, List.setIfInBounds_toArray, List.set_cons_zero, List.set_cons_succ]
  refine tk (i := 9) (v4) hS4 rfl (by kernel_rfl) (by kernel_rfl) (by kernel_rfl) (fun _ _ _ h => h) (by kernel_rfl) (by intro _ _; exact rfl) ?_
  simp only [Act.put, List.setIfInBounds_toArray, List.set_cons_zero, List.set_cons_succ]
  refine wpAnyH_done (by kernel_rfl) ?_ _
  have hZ := hS4
  -- END 6
  obtain ⟨B4, hB4⟩ : ∃ B4, [] ++ [t.src / 256, t.src % 256] ++ [t.dst / 256, t.dst % 256] ++ [t.seq / 16777216, t.seq / 65536 % 256, t.seq / 256 % 256, t.seq % 256] ++ [t.ack / 16777216, t.ack / 65536 % 256, t.ack / 256 % 256, t.ack % 256] = B4 := ⟨_, rfl⟩
  rw [hB4] at ho4
  have hl4 : B4.length = 12 := by rw [← hB4]; rfl
  have hT4 := hT.below hZ.b hT.lt
  have c4 := hT4.cell 4 (v := .int .u8 t.flags) rfl
  clear hS1 hS2 hS3 hS ho1 ho2 ho3
  have hz4 := hZ.big
  have hwin := rt.ok.window
  go_wp2_with (at_builtin; refine wpList_appB _ rfl _ _ _ rfl Try.underlying24 info8 w1.heap.size v4 _ rfl (ho4.alloc _) _ _ 2 2 [(20 + (t.ol.length : Int)) * 4, t.flags] rfl (By.blk (t := 5) (fz := (0, 0)) (Has.newAt rfl) (Nat.le_refl _) (by intro y hy; simp at hy; omega) (by simp) rfl rfl) (by omega) (by simp; omega) ?_; intro v5 w5 ho5 hg5 _; have hb5 : SG w1 w5 := hZ.keep (((Below.refl _ _).alloc hz4 _).trans (below_app (ho4.alloc _) hg5 (by simp; omega))); have c5 := (hT.below hb5.b hT.lt).cell 5 (v := .int .u16 t.window) rfl)
  refine (put2_any w1.heap.size v5 _ t.window rt.ok.window.1 rt.ok.window.2 w5 ho5 hb5.big (by simp; omega)).mono ?_
  rintro e w6 ⟨v6, rfl, ho6, hb6⟩
  have hS6 := hb5.keep hb6
  obtain ⟨B6, hB6e⟩ : ∃ B6, B4 ++ [(20 + (t.ol.length : Int)) * 4, t.flags] ++ [t.window / 256, t.window % 256] = B6 := ⟨_, rfl⟩
  rw [hB6e] at ho6
  have hl6 : B6.length ≤ 16 := by rw [← hB6e]; simp [hl4]
  have hT6 := hT.below hS6.b hT.lt
  have hB6 : Below w.heap.size w w6 := hB1.trans (hS6.b.mono hB1.size)
  clear hg5 hb5 c4 c5 ho4 ho5 hb6 hZ
  go_wp2_with fail
  refine wp_region_held_drew (S := SG w6) (by kernel_rfl) ⟨below_drew _ _⟩ (fun hS => ?_)
  generalize w6.drew = W0 at hS ⊢
  -- REGION 9
  refine tk (i := 0) (.pointer (some ⟨w.heap.size, 6, none⟩)) hS rfl (by kernel_rfl) (by kernel_rfl) (by kernel_rfl) (fun _ _ _ h => h) (by kernel_rfl) (by intro _ _; exact ex_field 6 0 (by exact rfl) Try.underlying26 (by exact rfl) rfl (by kernel_rfl) (by exact rfl)) ?_
  simp only [Act.put, List.setIfInBounds_toArray, List.set_cons_zero, List.set_cons_succ]
  refine tk (i := 1) (.int .u16 t.urgent) hS rfl (by kernel_rfl) (by kernel_rfl) (by kernel_rfl) (fun _ _ _ h => h) (by kernel_rfl) (by intro _ h; exact ex_cell (by exact rfl) Try.underlying22 rfl (by exact rfl) ((hT6.below h.b hT6.lt).cell 6 rfl)) ?_
  simp only [Act.put, List.setIfInBounds_toArray, List.set_cons_zero, List.set_cons_succ]
  refine tk (i := 2) (.int .u64 t.urgent) hS rfl (by kernel_rfl) (by kernel_rfl) (by kernel_rfl) (fun _ _ _ h => h) (by kernel_rfl) (by intro _ h; exact ex_conv (by exact rfl) (by exact rfl) (conv_u64 _ _ .u16 t.urgent (by rw [Try.underlying22]; rfl) Try.underlying87 (rt.ok.urgent.1) (by have := rt.ok.urgent.2; omega) _)) ?_
  simp only [Act.put, List.setIfInBounds_toArray, List.set_cons_zero, List.set_cons_succ]
  refine tk (i := 4) (.pointer (some ⟨w.heap.size, 7, none⟩)) hS rfl (by kernel_rfl) (by kernel_rfl) (by kernel_rfl) (fun _ _ _ h => h) (by kernel_rfl) (by intro _ _; exact ex_field 7 0 (by exact rfl) Try.underlying26 (by exact rfl) rfl (by kernel_rfl) (by exact rfl)) ?_
  simp only [Act.put, List.setIfInBounds_toArray, List.set_cons_zero, List.set_cons_succ]
  refine tk (i := 5) (.slice p.oA t.ol.length p.oc) hS rfl (by kernel_rfl) (by kernel_rfl) (by kernel_rfl) (fun _ _ _ h => h) (by kernel_rfl) (by intro _ h; exact ex_cell (by exact rfl) Try.underlying24 rfl (by exact rfl) ((hT6.below h.b hT6.lt).cell 7 rfl)) ?_
  simp only [Act.put, List.setIfInBounds_toArray, List.set_cons_zero, List.set_cons_succ]
  refine tk_one (by kernel_rfl) (op_callx (i := 3) (fun v w' => OwnB w' w6.heap.size v ([] ++ [t.urgent / 256, t.urgent % 256])) rfl (by kernel_rfl) (by exact ex_call (by exact rfl) Try.func51 (by kernel_rfl) (by kernel_rfl) (by simp only [List.map_toArray, List.map_cons, List.map_nil] <;> rfl)) (by refine (put2_any w6.heap.size _ _ t.urgent (rt.ok.urgent.1) (rt.ok.urgent.2) _ (OwnB.nil _ _) hS.big (by simp)).mono fun e w' g => ?_; obtain ⟨v, rfl, ho, hb⟩ := g; exact ⟨_, rfl, ho, hS.keep hb⟩) ?_)
  rintro v7 W7 ho7 hS7
  simp only [Act.put, List.setIfInBounds_toArray, List.set_cons_zero, List.set_cons_succ]
  refine tk_one (by kernel_rfl) (op_app (i := 6) (.tmp 55) (.tmp 57) _ rfl (by kernel_rfl) rfl Try.underlying24 (by kernel_rfl) w6.heap.size _ _ rfl (ho7) _ _ _ _ _ rfl (rt.opt.below (hB6.trans (hS7.b.mono hB6.size)) (Nat.le_refl _)) (by simp; omega) (hS7.big) (fun _ hb => hS7.keep hb) ?_)
  intro v8 W8 ho8 hb8 hS8
  simp only [Act.put, List.setIfInBounds_toArray, List.set_cons_zero, List.set_cons_succ]
  refine tk (i := 7) (v8) hS8 rfl (by kernel_rfl) (by kernel_rfl) (by kernel_rfl) (fun _ _ _ h => h) (by kernel_rfl) (by intro _ _; exact rfl) ?_
  simp only [Act.put, List.setIfInBounds_toArray, List.set_cons_zero, List.set_cons_succ]
  refine wpAnyH_done (by kernel_rfl) ?_ _
  have hZ := hS8
  -- END 9
  have c8 := (hT6.below hZ.b hT6.lt).cell 8 (v := .slice p.bA t.bl.length p.bc) rfl
  have y8 := rt.body.below (hB6.trans (hZ.b.mono hB6.size)) (Nat.le_refl _)
  have hz8 := hZ.big
  go_wp2_with (at_builtin; refine wpList_appB _ rfl _ _ _ rfl Try.underlying24 info8 w6.heap.size v8 _ rfl ho8 _ _ _ _ _ rfl y8 (by simp; omega) hz8 ?_; intro v9 w9 ho9 hg9 _; have hb9 : SG w6 w9 := hZ.keep (below_app ho8 hg9 hz8); have c9 := (hT6.below hb9.b hT6.lt).cell 8 (v := .slice p.bA t.bl.length p.bc) rfl)
  refine (hP w9 (hB6.trans (hb9.b.mono hB6.size))).mono ?_
  rintro e w10 ⟨v10, rfl, ho10, hb10⟩
  obtain ⟨R, hR⟩ : ∃ R, [] ++ [t.urgent / 256, t.urgent % 256] ++ t.ol ++ t.bl = R := ⟨_, rfl⟩
  rw [hR] at ho9
  have hlR : R.length ≤ 65557 := by rw [← hR]; simp; omega
  have hb10' : SG w6 w10 := hb9.keep (hb10.mono hb9.big)
  have ho60 := ho6
  have ho6 := ho6.below hb10'.b
  have ho9 := ho9.below hb10
  obtain ⟨A8, c8', rfl, _⟩ := own_shape ho10.own
  obtain ⟨A6, c6, rfl, _⟩ := own_shape ho6.own
  obtain ⟨A9, c9', rfl, _⟩ := own_shape ho9.own
  have hf : ∀ g5, flat [(A8, c8', PS), (A6, c6, B6), (some ⟨g5, 0, none⟩, 2, [0, 0]), (A9, c9', R)] = PS ++ (t.first 0 ++ t.ol ++ t.bl) := fun _ => by
    rw [← hR, ← hB6e, ← hB4]
    have e : (20 + (t.ol.length : Int)) * 4 = (20 + t.ol.length : Int) / 4 * 16 := by omega
    simp [flat, DT.first, e]
  have hby : ∀ s, s = t.sum PS → B6 ++ [s / 256, s % 256] ++ R = t.write PS := fun s hs => by
    rw [hwr, DT.bytes, ← hs, ← hR, ← hB6e, ← hB4]
    have e : (20 + (t.ol.length : Int)) * 4 = (20 + t.ol.length : Int) / 4 * 16 := by omega
    simp [DT.first, e]
  clear hR hB6e hB4 hP c8 c9 y8 hg9 ho7 ho8 hS7 hS8 hb8
  have hbW : Below w10.heap.size w10 ((w10.alloc (.cells #[.int .u8 0, .int .u8 0] 5)).alloc (.cells #[.slice A8 PS.length c8', .slice A6 B6.length c6, .slice (some ⟨w10.heap.size, 0, none⟩) 2 2, .slice A9 R.length c9'] 24)) := ((Below.refl _ _).alloc (Nat.le_refl _) _).alloc (by simp) _
  have z5 : By ((w10.alloc (.cells #[.int .u8 0, .int .u8 0] 5)).alloc (.cells #[.slice A8 PS.length c8', .slice A6 B6.length c6, .slice (some ⟨w10.heap.size, 0, none⟩) 2 2, .slice A9 R.length c9'] 24)).heap.size ((w10.alloc (.cells #[.int .u8 0, .int .u8 0] 5)).alloc (.cells #[.slice A8 PS.length c8', .slice A6 B6.length c6, .slice (some ⟨w10.heap.size, 0, none⟩) 2 2, .slice A9 R.length c9'] 24)) (some ⟨w10.heap.size, 0, none⟩) 2 2 [0, 0] := By.blk' (t := 5) (fz := (0, 0)) ((Has.newAt rfl).alloc) (by simp; omega) (by intro y hy; simp at hy; omega) (by simp) rfl rfl
  have hP4 : Parts ((w10.alloc (.cells #[.int .u8 0, .int .u8 0] 5)).alloc (.cells #[.slice A8 PS.length c8', .slice A6 B6.length c6, .slice (some ⟨w10.heap.size, 0, none⟩) 2 2, .slice A9 R.length c9'] 24)).heap.size ((w10.alloc (.cells #[.int .u8 0, .int .u8 0] 5)).alloc (.cells #[.slice A8 PS.length c8', .slice A6 B6.length c6, .slice (some ⟨w10.heap.size, 0, none⟩) 2 2, .slice A9 R.length c9'] 24)) (some ⟨w10.heap.size + 1, 0, none⟩) 4 4 [(A8, c8', PS), (A6, c6, B6), (some ⟨w10.heap.size, 0, none⟩, 2, [0, 0]), (A9, c9', R)] := Parts.blk (t := 24) (fz := (0, 0)) (Has.newAt (by simp)) (Nat.le_refl _) rfl (all4 ((ho10.below hbW).row) ((ho6.below hbW).row) z5 ((ho9.below hbW).row)) (by simp)
  have hpH := Lib.hid hP4
  have hBW := Lib.hid hbW
  clear hP4 hbW z5
  go_wp2_with fail
  refine (rof_any _ _ [(A8, c8', PS), (A6, c6, B6), (some ⟨w10.heap.size, 0, none⟩, 2, [0, 0]), (A9, c9', R)] _ hpH.out (by rw [hf]; simp [DT.first]; omega)).mono ?_
  rintro e w12 ⟨rfl, hb12⟩
  rw [hf]
  have hb12' := hBW.out.trans (hb12.mono hBW.out.size)
  obtain ⟨q, hq⟩ : ∃ q, 65535 - sumw (PS ++ (t.first 0 ++ t.ol ++ t.bl)) = q := ⟨_, rfl⟩
  rw [hq]
  have hsum : q = t.sum PS := by rw [DT.sum, hq]
  have hqr : 0 ≤ q ∧ q < 65536 := by
    have := sumw_rng _ hpH.out.rng
    rw [hf] at this
    omega
  have hby := hby q hsum
  clear hq hsum hf hpH hBW hb12 hwr
  have hS12 := hb10'.keep (hb12'.mono hb10'.big)
  have ho6 := ho6.below hb12'
  have ho9 := ho9.below hb12'
  go_wp2_with fail
  have hap := own_apart ho60 ho9 (Nat.le_refl _)
  have hs12 : w1.heap.size ≤ w12.heap.size := Nat.le_trans hS6.big hS12.big
  refine (put2_gr w1.heap.size _ _ q hqr.1 hqr.2 w12 ho6 hs12 (by omega)).mono ?_
  rintro e w13 ⟨v13, rfl, ho13, hb13, hg13⟩
  have ho9 := hg13.keeps _ _ _ ho9 hap
  have hs13 : w1.heap.size ≤ w13.heap.size := Nat.le_trans hs12 hb13.size
  have hB13 : Below w1.heap.size w1 w13 := (hS6.b.trans (hS12.b.mono hS6.big)).trans hb13
  clear hg13 hap ho60 ho6 hb13
  go_wp2_with (at_builtin; refine wpList_appB _ rfl _ _ _ rfl Try.underlying24 info8 w1.heap.size v13 _ rfl ho13 _ _ _ _ _ rfl ho9.row (by simp; omega) hs13 ?_; intro v14 w14 ho14 hg14 _; have hb14 := below_app ho13 hg14 hs13; rw [hby] at ho14; obtain ⟨A', c', rfl, _⟩ := own_shape ho14.own)
  go_ret2
  exact ⟨_, _, rfl, Lib.hid hcH.out.symm, ho14.more hB1.size, hB1.trans ((hB13.trans hb14).mono hB1.size)⟩
theorem rwtcp4_any (a b : List Int) (ha : a.length = 4) (hb : b.length = 4) (A1 A2 : Option Addr) (c1 c2 : Nat) (t : DT) (p : WT) (w : World) (y1 : By w.heap.size w A1 4 c1 a) (y2 : By w.heap.size w A2 4 c2 b) (rt : RdT w.heap.size w t p) :
    Calls Try.prog 24 #[.slice A1 4 c1, .slice A2 4 c2, .agg (t.cells p)] w fun e w' => ∃ v s, e = .returned (.tuple #[v, .int .i64 s]) ∧ Hid (s = t.check) ∧ OwnB w' w.heap.size v (t.write (pse4 a b (20 + t.ol.length + t.bl.length) 6)) ∧ Below w.heap.size w w' := by
  by_cases hc : t.check = 0
  · have hs := DT.small hc
    exact rwtcp_gen t p w rt _ (by rw [pse4_len ha hb]; decide) (pse4_rng y1.rng y2.rng (by omega) (by decide)) A1 A2 4 4 c1 c2 fun _ w' h => rpse4_any a b ha hb 6 _ (by decide) (by decide) (by omega) (by omega) A1 A2 c1 c2 w' ((y1.below h (Nat.le_refl _)).more h.size) ((y2.below h (Nat.le_refl _)).more h.size)
  · have e : ∀ PS, t.write PS = t.write [] := fun PS => by rw [DT.write, DT.write, if_neg hc, if_neg hc]
    rw [e]
    exact rwtcp_gen t p w rt [] (by simp) InB.nil A1 A2 4 4 c1 c2 fun h => absurd h hc
theorem rwtcp6_any (a b : List Int) (ha : a.length = 16) (hb : b.length = 16) (A1 A2 : Option Addr) (c1 c2 : Nat) (t : DT) (p : WT) (w : World) (y1 : By w.heap.size w A1 16 c1 a) (y2 : By w.heap.size w A2 16 c2 b) (rt : RdT w.heap.size w t p) :
    Calls Try.prog 24 #[.slice A1 16 c1, .slice A2 16 c2, .agg (t.cells p)] w fun e w' => ∃ v s, e = .returned (.tuple #[v, .int .i64 s]) ∧ Hid (s = t.check) ∧ OwnB w' w.heap.size v (t.write (pse6 a b (20 + t.ol.length + t.bl.length) 6)) ∧ Below w.heap.size w w' := by
  by_cases hc : t.check = 0
  · have hs := DT.small hc
    exact rwtcp_gen t p w rt _ (by rw [pse6_len ha hb]; decide) (pse6_rng y1.rng y2.rng (by omega) (by decide)) A1 A2 16 16 c1 c2 fun _ w' h => rpse6_any a b ha hb 6 _ (by decide) (by decide) (by omega) (by omega) A1 A2 c1 c2 w' ((y1.below h (Nat.le_refl _)).more h.size) ((y2.below h (Nat.le_refl _)).more h.size)
  · have e : ∀ PS, t.write PS = t.write [] := fun PS => by rw [DT.write, DT.write, if_neg hc, if_neg hc]
    rw [e]
    exact rwtcp_gen t p w rt [] (by simp) InB.nil A1 A2 16 16 c1 c2 fun h => absurd h hc
end Go.Proofs.Ytaobnbjkhgcmlaa
