/-
  The walk of segment.writeTCP over IPv4.
-/
import Derived.Test.YtaobnbjkhgcmlaaSg4
import Derived.Test.YtaobnbjkhgcmlaaReg3
namespace Go.Proofs.Ytaobnbjkhgcmlaa
open Go.RowKit Go.Shelf

theorem tcp_info : (Try.prog.info? 26).map (·.size) = some 9 := by kernel_rfl
theorem DT.ok_of_check {t : DT} (h : t.check = 0) : t.flags < 64 ∧ t.ol.length ≤ 40 ∧ t.ol.length % 4 = 0 ∧ t.bl.length ≤ 65515 - t.ol.length := by
  unfold DT.check at h
  split at h
  · cases h
  · split at h
    · cases h
    · omega
theorem q_add20 (t : TypeId) (O : Nat) (h : O ≤ 40) (w : World) : (binOp .add t (.int .i64 20) (.int .i64 (O : Int))).run Try.prog w = .ok (.int .i64 (20 + (O : Int))) w := by
  have h1 : (O : Int) ≤ 40 := by omega
  clear h
  go_simp
  exact IntWalk.i64_in _ (by omega)
theorem q_quo4 (t : TypeId) (O : Nat) (h : O ≤ 40) (T : Int) (hT : T = (20 + (O : Int)) / 4) (w : World) : (binOp .quo t (.int .i64 (20 + (O : Int))) (.int .i64 4)).run Try.prog w = .ok (.int .i64 T) w := by
  subst hT
  have h1 : (O : Int) ≤ 40 := by omega
  clear h
  go_simp
  rw [Int.tdiv_eq_ediv_of_nonneg (by omega)]
  exact IntWalk.i64_in _ (by omega)
theorem q_c8 (T : Int) (h : 0 ≤ T ∧ T ≤ 255) (w : World) : (convert 3 5 (.int .i64 T)).run Try.prog w = .ok (.int .u8 T) w := by
  have h1 := h.1
  have h2 := h.2
  clear h
  go_simp
  rw [IntKind.wrap_u8]
  omega
theorem q_shl4 (t : TypeId) (T : Int) (h : 5 ≤ T ∧ T ≤ 15) (w : World) : (binOp .shl t (.int .u8 T) (.int .u64 4)).run Try.prog w = .ok (.int .u8 (T * 16)) w := by
  have h1 := h.1
  have h2 := h.2
  clear h
  go_simp
  rw [IntKind.wrap_u8]
  omega
/-- the first twenty bytes as they are set one by one -/
def set20 (t : DT) (T : Int) : List Int :=
  set2 (set2 (((set2 (set2 (set2 (set2 (set2 (set2 (List.replicate 20 0) 0 t.src) 2 t.dst) 4 (t.seq / 65536)) 6 (t.seq % 65536)) 8 (t.ack / 65536)) 10 (t.ack % 65536)).set 12 (T * 16)).set 13 t.flags) 14 t.window) 18 t.urgent
theorem set20_eq (t : DT) (T : Int) (hT : T = (20 + (t.ol.length : Int)) / 4) : set20 t T = t.first 0 := by
  subst hT
  have e : set20 t ((20 + (t.ol.length : Int)) / 4) = [t.src / 256, t.src % 256, t.dst / 256, t.dst % 256, t.seq / 65536 / 256, t.seq / 65536 % 256, t.seq % 65536 / 256, t.seq % 65536 % 256, t.ack / 65536 / 256, t.ack / 65536 % 256, t.ack % 65536 / 256, t.ack % 65536 % 256,
    (20 + (t.ol.length : Int)) / 4 * 16, t.flags, t.window / 256, t.window % 256, 0, 0, t.urgent / 256, t.urgent % 256] := by
    simp only [set20, set2, List.replicate, List.set_cons_zero, List.set_cons_succ, Nat.reduceAdd]
  rw [e]
  have h1 : ∀ x : Int, x / 65536 / 256 = x / 16777216 := fun x => by omega
  have h2 : ∀ x : Int, x % 65536 / 256 = x / 256 % 256 := fun x => by omega
  have h3 : ∀ x : Int, x % 65536 % 256 = x % 256 := fun x => by omega
  simp only [DT.first, h1, h2, h3]
  rfl
theorem first_set16 (t : DT) (q : Int) (l : List Int) : set2 (t.first 0 ++ l) 16 q = t.first q ++ l := by
  simp only [set2, DT.first, List.cons_append, List.nil_append, List.set_cons_zero, List.set_cons_succ, Nat.reduceAdd]

set_option maxRecDepth 100000 in
set_option maxHeartbeats 2000000 in
theorem wtcp4_ok (a b : List Int) (ha : a.length = 4) (hb : b.length = 4) (ra : InB a) (rb : InB b) (g1 g2 : Nat) (t : DT) (p : WT) (w : World) (hA : Has w g1 (.cells (u8s a).toArray 34 (0, 0))) (hB : Has w g2 (.cells (u8s b).toArray 34 (0, 0))) (hR : RdT w.heap.size w t p) (h0 : t.check = 0) :
    Calls Try.prog 49 #[.func (.func 68) #[] #[.pointer (some ⟨g1, 0, none⟩), .pointer (some ⟨g2, 0, none⟩)], .agg (t.cells p)] w fun e w' => ∃ v, e = .returned (.tuple #[v, .int .i64 0]) ∧ OwnB w' w.heap.size v (t.bytes (pse4 a b (20 + t.ol.length + t.bl.length) 6)) ∧ Below w.heap.size w w' := by
  obtain ⟨l1, l2, l3, l4⟩ := DT.ok_of_check h0
  have rs := hR.ok.src
  have rd := hR.ok.dst
  have rq := hR.ok.seq
  have rk := hR.ok.ack
  have rf := hR.ok.flags
  have rw' := hR.ok.window
  have ru := hR.ok.urgent
  have hBW : Below w.heap.size w (w.alloc (.cells (t.cells p) 26)) := (Below.refl _ _).alloc (Nat.le_refl _) _
  have hH : Has (w.alloc (.cells (t.cells p) 26)) w.heap.size (.cells (t.cells p) 26 (0, 0)) := Has.newAt rfl
  have hsz1 : (w.alloc (.cells (t.cells p) 26)).heap.size = w.heap.size + 1 := by simp
  have hA1 := hA.alloc (o' := .cells (t.cells p) 26)
  have hB1 := hB.alloc (o' := .cells (t.cells p) 26)
  obtain ⟨ps, hps0⟩ : ∃ ps, pse4 a b (20 + t.ol.length + t.bl.length) 6 = ps := ⟨_, rfl⟩
  rw [hps0]
  have hps := Lib.hid hps0
  clear hps0
  have hgA := hA.lt
  have hgB := hB.lt
  obtain ⟨O, hO⟩ : ∃ N : Nat, t.ol.length = N := ⟨_, rfl⟩
  obtain ⟨M, hM⟩ : ∃ N : Nat, t.bl.length = N := ⟨_, rfl⟩
  have hopt := hR.opt
  have hbody := hR.body
  have hOH := Lib.hid hO
  have hMH := Lib.hid hM
  have hcells : t.cells p = #[.int .u16 t.src, .int .u16 t.dst, .int .u32 t.seq, .int .u32 t.ack, .int .u8 t.flags, .int .u16 t.window, .int .u16 t.urgent, .slice p.oA O p.oc, .slice p.bA M p.bc] := by rw [← hO, ← hM]; rfl
  rw [hO] at l2 l3 l4 hopt
  rw [hM] at l4 hbody
  rw [hcells] at hH hA1 hB1 hBW hsz1 ⊢
  have c4 := hH.cell 4 (v := .int .u8 t.flags) rfl
  have c7 := hH.cell 7 (v := .slice p.oA O p.oc) rfl
  have c8 := hH.cell 8 (v := .slice p.bA M p.bc) rfl
  have t4 : ((O : Int) % 4 != 0) = false := by simp; omega
  obtain ⟨T, hT⟩ : ∃ T : Int, (20 + (O : Int)).tdiv 4 = T := ⟨_, rfl⟩
  have hT2 : T = (20 + (O : Int)) / 4 := by rw [← hT, Int.tdiv_eq_ediv_of_nonneg (by omega)]
  have hT3 : 5 ≤ T ∧ T ≤ 15 := by omega
  have hT2H := Lib.hid hT2
  have l4H := Lib.hid l4
  clear hO hM hA hB hT2 l3 hcells
  generalize hW : w.alloc (.cells #[.int .u16 t.src, .int .u16 t.dst, .int .u32 t.seq, .int .u32 t.ack, .int .u8 t.flags, .int .u16 t.window, .int .u16 t.urgent, .slice p.oA O p.oc, .slice p.bA M p.bc] 26) = w1 at hH hA1 hB1 hBW c4 c7 c8 hsz1
  have hWs : w.heap.size + 1 ≤ w1.heap.size := by omega
  have l5 : (M : Int) ≤ 65515 - (O : Int) := by omega
  clear l4
  go_enter Try.func49, Try.ntmps49
  go_wp2_with (refine wpList_makeB rfl 24 _ _ rfl 20 20 rfl rfl Try.underlying24 info8 (by decide) (by decide) (w.heap.size + 1) hWs ?_; intro w2 o2 hb2 hl2; have hH2 := hH.below hb2 hH.lt; have d0 := hH2.cell 0 (v := .int .u16 t.src) rfl)
  rw [hsz1] at o2
  have bel2 : Below (w.heap.size + 1) w1 w2 := hb2.mono hWs
  clear hb2 hl2 hH2 c4 c7 c8 t4 l5
  refine (set_own _ _ 20 20 _ w2 o2 (by simp [set2_len]) 0 (by decide) (by decide) t.src rs).mono ?_
  rintro e w3 ⟨rfl, o3, gr⟩
  have bel3 := bel2.trans (below_own o2.own gr (Nat.le_trans hWs bel2.size))
  have hH3 := hH.below bel3 (Nat.lt_succ_self _)
  have d1 := hH3.cell 1 (v := .int .u16 t.dst) rfl
  clear o2 gr bel2 d0
  go_wp2_with fail
  refine (set_own _ _ 20 20 _ w3 o3 (by simp [set2_len]) 2 (by decide) (by decide) t.dst rd).mono ?_
  rintro e w4 ⟨rfl, o4, gr⟩
  have bel4 := bel3.trans (below_own o3.own gr (Nat.le_trans hWs bel3.size))
  have hH4 := hH.below bel4 (Nat.lt_succ_self _)
  have d2 := hH4.cell 2 (v := .int .u32 t.seq) rfl
  clear o3 gr bel3 d1 hH3
  go_wp2_with fail
  refine (set_own _ _ 20 20 _ w4 o4 (by simp [set2_len]) 4 (by decide) (by decide) (t.seq / 65536) (by omega)).mono ?_
  rintro e w5 ⟨rfl, o5, gr⟩
  have bel5 := bel4.trans (below_own o4.own gr (Nat.le_trans hWs bel4.size))
  have hH5 := hH.below bel5 (Nat.lt_succ_self _)
  have d3 := hH5.cell 2 (v := .int .u32 t.seq) rfl
  clear o4 gr bel4 d2 hH4
  go_wp2_with fail
  refine (set_own _ _ 20 20 _ w5 o5 (by simp [set2_len]) 6 (by decide) (by decide) (t.seq % 65536) (by omega)).mono ?_
  rintro e w6 ⟨rfl, o6, gr⟩
  have bel6 := bel5.trans (below_own o5.own gr (Nat.le_trans hWs bel5.size))
  have hH6 := hH.below bel6 (Nat.lt_succ_self _)
  have d4 := hH6.cell 3 (v := .int .u32 t.ack) rfl
  clear o5 gr bel5 d3 hH5
  go_wp2_with fail
  refine (set_own _ _ 20 20 _ w6 o6 (by simp [set2_len]) 8 (by decide) (by decide) (t.ack / 65536) (by omega)).mono ?_
  rintro e w7 ⟨rfl, o7, gr⟩
  have bel7 := bel6.trans (below_own o6.own gr (Nat.le_trans hWs bel6.size))
  have hH7 := hH.below bel7 (Nat.lt_succ_self _)
  have d5 := hH7.cell 3 (v := .int .u32 t.ack) rfl
  clear o6 gr bel6 d4 hH6
  go_wp2_with fail
  refine (set_own _ _ 20 20 _ w7 o7 (by simp [set2_len]) 10 (by decide) (by decide) (t.ack % 65536) (by omega)).mono ?_
  rintro e w8 ⟨rfl, o8, gr⟩
  have bel8 := bel7.trans (below_own o7.own gr (Nat.le_trans hWs bel7.size))
  have hH8 := hH.below bel8 (Nat.lt_succ_self _)
  clear o7 gr bel7 d5 hH7
  have e4 := hH8.cell 4 (v := .int .u8 t.flags) rfl
  have e7 := hH8.cell 7 (v := .slice p.oA O p.oc) rfl
  have hs8 := Nat.le_trans hWs bel8.size
  obtain ⟨g, eg, hg1, hg2, c12, f12, u12⟩ := o8.drew.byte (i := 12) (by simp [set2_len]) (by decide)
  injection eg with eg
  injection eg with eg
  subst eg
  have o9 := u12 (T * 16) (by omega)
  obtain ⟨g, eg, _, _, c13, f13, u13⟩ := o9.byte (i := 13) (by simp [set2_len]) (by decide)
  injection eg with eg
  injection eg with eg
  subst eg
  have o10 := u13 t.flags rf
  have c12 := Lib.hid c12
  have f12 := Lib.hid f12
  have c13 := Lib.hid c13
  have f13 := Lib.hid f13
  have o10 := Lib.hid o10
  have bel9 := Lib.hid (bel8.trans (below_drew _ _))
  have hS0 := Lib.hid (show SHas w.heap.size (.cells #[.int .u16 t.src, .int .u16 t.dst, .int .u32 t.seq, .int .u32 t.ack, .int .u8 t.flags, .int .u16 t.window, .int .u16 t.urgent, .slice p.oA O p.oc, .slice p.bA M p.bc] 26 (0, 0)) w8.drew from hH8.drew)
  have hgne : w.heap.size ≠ w.heap.size + 1 := by omega
  clear u12 u13 o9 e4 e7 hH8
  go_wp2
  refine wp_region_held_drew (S := SHas w.heap.size (.cells #[.int .u16 t.src, .int .u16 t.dst, .int .u32 t.seq, .int .u32 t.ack, .int .u8 t.flags, .int .u16 t.window, .int .u16 t.urgent, .slice p.oA O p.oc, .slice p.bA M p.bc] 26 (0, 0))) (by kernel_rfl) hS0.out (fun hS => ?_)
  -- REGION 12
  refine tk (i := 0) (.slice (some ⟨w.heap.size + 1, 0, none⟩) 20 20) hS rfl (by kernel_rfl) (by kernel_rfl) (by kernel_rfl) (fun _ _ _ h => h) (by kernel_rfl) (by intro _ _; exact rfl) ?_
  simp only [Act.put, List.setIfInBounds_toArray, List.set_cons_zero, List.set_cons_succ]
  refine tk (i := 1) (.slice (some ⟨w.heap.size + 1, 0, none⟩) 20 20) hS rfl (by kernel_rfl) (by kernel_rfl) (by kernel_rfl) (fun _ _ _ h => h) (by kernel_rfl) (by intro _ _; exact rfl) ?_
  simp only [Act.put, List.setIfInBounds_toArray, List.set_cons_zero, List.set_cons_succ]
  refine tk (i := 2) (.pointer (some ⟨w.heap.size, 7, none⟩)) hS rfl (by kernel_rfl) (by kernel_rfl) (by kernel_rfl) (fun _ _ _ h => h) (by kernel_rfl) (by intro _ _; exact ex_field 7 0 (by exact rfl) Try.underlying26 (by exact rfl) rfl (by kernel_rfl) (by exact rfl)) ?_
  simp only [Act.put, List.setIfInBounds_toArray, List.set_cons_zero, List.set_cons_succ]
  refine tk (i := 3) (.slice p.oA O p.oc) hS rfl (by kernel_rfl) (by kernel_rfl) (by kernel_rfl) (fun _ _ _ h => h) (by kernel_rfl) (by intro _ h; exact ex_cell (by exact rfl) Try.underlying24 rfl (by exact rfl) (Has.cell h 7 rfl)) ?_
  simp only [Act.put, List.setIfInBounds_toArray, List.set_cons_zero, List.set_cons_succ]
  refine tk (i := 4) (.int .i64 (O : Int)) hS rfl (by kernel_rfl) (by kernel_rfl) (by kernel_rfl) (fun _ _ _ h => h) (by kernel_rfl) (by intro _ _; exact ex_len (by exact rfl) Try.underlying24 (by exact rfl)) ?_
  simp only [Act.put, List.setIfInBounds_toArray, List.set_cons_zero, List.set_cons_succ]
  refine tk (i := 5) (.int .i64 (20 + (O : Int))) hS rfl (by kernel_rfl) (by kernel_rfl) (by kernel_rfl) (fun _ _ _ h => h) (by kernel_rfl) (by intro _ _; exact ex_bin (by exact rfl) (by exact rfl) (by exact rfl) (by decide) (q_add20 _ O l2 _)) ?_
  simp only [Act.put, List.setIfInBounds_toArray, List.set_cons_zero, List.set_cons_succ]
  refine tk (i := 6) (.int .i64 T) hS rfl (by kernel_rfl) (by kernel_rfl) (by kernel_rfl) (fun _ _ _ h => h) (by kernel_rfl) (by intro _ _; exact ex_bin (by exact rfl) (by exact rfl) (by exact rfl) (by decide) (q_quo4 _ O l2 T hT2H.out _)) ?_
  simp only [Act.put, List.setIfInBounds_toArray, List.set_cons_zero, List.set_cons_succ]
  refine tk (i := 7) (.int .u8 T) hS rfl (by kernel_rfl) (by kernel_rfl) (by kernel_rfl) (fun _ _ _ h => h) (by kernel_rfl) (by intro _ _; exact ex_conv (by exact rfl) (by exact rfl) (q_c8 T (by omega) _)) ?_
  simp only [Act.put, List.setIfInBounds_toArray, List.set_cons_zero, List.set_cons_succ]
  refine tk (i := 8) (.int .u8 (T * 16)) hS rfl (by kernel_rfl) (by kernel_rfl) (by kernel_rfl) (fun _ _ _ h => h) (by kernel_rfl) (by intro _ _; exact ex_bin (by exact rfl) (by exact rfl) (by exact rfl) (by decide) (q_shl4 _ T hT3 _)) ?_
  simp only [Act.put, List.setIfInBounds_toArray, List.set_cons_zero, List.set_cons_succ]
  refine tk (i := 9) (.pointer (some ⟨w.heap.size, 4, none⟩)) hS rfl (by kernel_rfl) (by kernel_rfl) (by kernel_rfl) (fun _ _ _ h => h) (by kernel_rfl) (by intro _ _; exact ex_field 4 0 (by exact rfl) Try.underlying26 (by exact rfl) rfl (by kernel_rfl) (by exact rfl)) ?_
  simp only [Act.put, List.setIfInBounds_toArray, List.set_cons_zero, List.set_cons_succ]
  refine tk (i := 10) (.int .u8 t.flags) hS rfl (by kernel_rfl) (by kernel_rfl) (by kernel_rfl) (fun _ _ _ h => h) (by kernel_rfl) (by intro _ h; exact ex_cell (by exact rfl) Try.underlying5 rfl (by exact rfl) (Has.cell h 4 rfl)) ?_
  simp only [Act.put, List.setIfInBounds_toArray, List.set_cons_zero, List.set_cons_succ]
  refine tk (i := 11) (.pointer (some ⟨w.heap.size + 1, 12, none⟩)) hS rfl (by kernel_rfl) (by kernel_rfl) (by kernel_rfl) (fun _ _ _ h => h) (by kernel_rfl) (by intro _ _; exact ex_index0 (k := 12) (by exact rfl) Try.underlying24 (by kernel_rfl) (by exact rfl) (by exact rfl) (by decide)) ?_
  simp only [Act.put, List.setIfInBounds_toArray, List.set_cons_zero, List.set_cons_succ]
  refine tk_store1 (i := 12) (k := 12) (g := w.heap.size + 1) (v := .int .u8 (T * 16)) (by kernel_rfl) rfl (by kernel_rfl) rfl rfl rfl rfl (by kernel_rfl) c12.out f12.out rfl (Has.setCell_other hS hgne _ _) ?_
  have hS1 : SHas w.heap.size _ _ := Has.setCell_other hS hgne 12 (.int .u8 (T * 16))
  simp only [Act.put, List.setIfInBounds_toArray, List.set_cons_zero, List.set_cons_succ]
  refine tk (i := 13) (.pointer (some ⟨w.heap.size + 1, 13, none⟩)) hS1 rfl (by kernel_rfl) (by kernel_rfl) (by kernel_rfl) (fun _ _ _ h => h) (by kernel_rfl) (by intro _ _; exact ex_index0 (k := 13) (by exact rfl) Try.underlying24 (by kernel_rfl) (by exact rfl) (by exact rfl) (by decide)) ?_
  simp only [Act.put, List.setIfInBounds_toArray, List.set_cons_zero, List.set_cons_succ]
  refine tk_store1 (i := 14) (k := 13) (g := w.heap.size + 1) (v := .int .u8 t.flags) (by kernel_rfl) rfl (by kernel_rfl) rfl rfl rfl rfl (by kernel_rfl) c13.out f13.out rfl (Has.setCell_other hS1 hgne _ _) ?_
  have hS2 : SHas w.heap.size _ _ := Has.setCell_other hS1 hgne 13 (.int .u8 t.flags)
  simp only [Act.put, List.setIfInBounds_toArray, List.set_cons_zero, List.set_cons_succ]
  refine wpAnyH_done (by kernel_rfl) ?_ _
  have belA := Lib.hid (below_setCell (below_setCell bel9.out (Nat.le_refl _) 12 (.int .u8 (T * 16))) (Nat.le_refl _) 13 (.int .u8 t.flags))
  have o10 := o10.out
  have hHa : Has _ w.heap.size _ := hS2
  clear hS hS1 hS2 hS0 c12 f12 c13 f13 bel9 hT
  generalize (w8.drew.setCell ⟨w.heap.size + 1, 12, none⟩ (.int .u8 (T * 16))).setCell ⟨w.heap.size + 1, 13, none⟩ (.int .u8 t.flags) = wa at o10 belA hHa ⊢
  have d5 := hHa.cell 5 (v := .int .u16 t.window) rfl
  have hsA := Nat.le_trans hWs belA.out.size
  go_wp2_with fail
  refine (set_own _ _ 20 20 _ wa o10 (by simp [set2_len]) 14 (by decide) (by decide) t.window rw').mono ?_
  rintro e wb ⟨rfl, o11, gr⟩
  have belB := belA.out.trans (below_own o10.own gr hsA)
  have hHb := hH.below belB (Nat.lt_succ_self _)
  have d6 := hHb.cell 6 (v := .int .u16 t.urgent) rfl
  clear o10 gr d5 hHa belA hsA
  have hsB := Nat.le_trans hWs belB.size
  go_wp2_with fail
  refine (set_own _ _ 20 20 _ wb o11 (by simp [set2_len]) 18 (by decide) (by decide) t.urgent ru).mono ?_
  rintro e wc ⟨rfl, o12, gr⟩
  have belC := belB.trans (below_own o11.own gr hsB)
  have hHc := hH.below belC (Nat.lt_succ_self _)
  have d7 := hHc.cell 7 (v := .slice p.oA O p.oc) rfl
  have d8 := hHc.cell 8 (v := .slice p.bA M p.bc) rfl
  have o12 : OwnB wc (w.heap.size + 1) (.slice (some ⟨w.heap.size + 1, 0, none⟩) 20 20) (set20 t T) := o12
  rw [set20_eq t T (by rw [hT2H.out, hOH.out])] at o12
  have n0 : (t.first 0).length = 20 := rfl
  have hBc := hBW.trans (belC.mono (Nat.le_succ _))
  have yO := hopt.below hBc (Nat.le_refl _)
  have yM := hbody.below hBc (Nat.le_refl _)
  have y0 := own_byN o12
  have hszc := Lib.hid hBc.size
  have n0H := Lib.hid n0
  clear o11 gr d6 hHb belB hsB hHc n0
  go_wp2_with fail
  refine (concat_any _ _ [(some ⟨w.heap.size + 1, 0, none⟩, 20, t.first 0), (p.oA, p.oc, t.ol), (p.bA, p.bc, t.bl)] _
      (Parts.blk (t := 24) (fz := (0, 0)) (by simp only [List.map_cons, List.map_nil, hOH.out, hMH.out, n0H.out]; exact Has.newAt (by simp)) (Nat.le_refl _) rfl
        (all3 ((By.alloc (n0H.out ▸ y0 : By wc.heap.size wc (some ⟨w.heap.size + 1, 0, none⟩) (t.first 0).length 20 (t.first 0)) (Nat.le_refl _) _).more (by simp))
          ((By.alloc (hOH.out.symm ▸ yO : By w.heap.size wc p.oA t.ol.length p.oc t.ol) hszc.out _).more (by have := hszc.out; simp; omega))
          ((By.alloc (hMH.out.symm ▸ yM : By w.heap.size wc p.bA t.bl.length p.bc t.bl) hszc.out _).more (by have := hszc.out; simp; omega))) (by simp))
      (by simp only [flat, List.map_cons, List.map_nil, List.flatten_cons, List.flatten_nil, List.length_append, List.length_nil, n0H.out, hOH.out, hMH.out]; have := l4H.out; omega)).mono ?_
  rintro e wd ⟨v, rfl, od, hbd⟩
  obtain ⟨L, hL⟩ : ∃ L, t.first 0 ++ (t.ol ++ t.bl) = L := ⟨_, rfl⟩
  have od := od.more (base' := w.heap.size + 1) (by have := belC.size; simp; omega)
  have od : OwnB wd (w.heap.size + 1) v L := by rw [← hL]; have h := od; simp only [flat, List.map_cons, List.map_nil, List.flatten_cons, List.flatten_nil, List.append_nil] at h; exact h
  have nL : L.length = 20 + O + M := by rw [← hL, List.length_append, List.length_append, n0H.out, hOH.out, hMH.out]; omega
  obtain ⟨A6, c6, hv6, _⟩ := own_shape od.own
  rw [nL] at hv6
  subst hv6
  have hbd' : Below wc.heap.size wc wd := ((Below.refl _ _).alloc (Nat.le_refl _) _).trans (hbd.mono (by simp))
  have belD := belC.trans (hbd'.mono (Nat.le_trans hWs belC.size))
  have hAd := hA1.below belD (Nat.lt_succ_of_lt hgA)
  have hBd := hB1.below belD (Nat.lt_succ_of_lt hgB)
  have nL := Lib.hid nL
  have hL := Lib.hid hL
  have hOM := Lib.hid (show O + M ≤ 65515 by have := l4H.out; omega)
  clear d7 d8 yO yM y0 o12 hbd hbd' belC
  obtain ⟨Z, hZ⟩ : ∃ Z : Nat, 20 + O + M = Z := ⟨_, rfl⟩
  have hZ2 : 20 ≤ Z ∧ Z ≤ 65535 := by have := hOM.out; omega
  have hZe : (20 + t.ol.length + t.bl.length : Int) = (Z : Int) := by rw [hOH.out, hMH.out, ← hZ]; omega
  rw [hZ] at od nL ⊢
  have hZe := Lib.hid hZe
  clear hZ
  go_wp2_with fail
  refine (head4_any a b ha hb ra rb 6 (Z : Int) (by decide) (by decide) (by omega) (by omega) g1 g2 wd hAd hBd).mono ?_
  rintro e we ⟨v7, rfl, o7, hb7⟩
  have o7 : OwnB we wd.heap.size v7 ps := by have h := o7; rw [← hZe.out, hps.out] at h; exact h
  obtain ⟨A7, k7, rfl, y7⟩ := o7.by_
  have oe := od.below hb7
  have y6 := own_byN oe
  have bigD := Nat.le_trans hWs belD.size
  have belE := belD.trans (hb7.mono bigD)
  clear o7 hAd hBd od hA1 hB1
  go_wp2_with fail
  refine (of_new [(A7, k7, ps), (A6, c6, L)] 2 (by simp only [List.map_cons, List.map_nil, nL.out]; exact Has.newAt (by simp)) rfl
    (all2 ((y7.alloc (Nat.le_refl _) _).more (by simp)) (((nL.out ▸ y6 : By we.heap.size we A6 L.length c6 L).alloc (Nat.le_refl _) _).more (by simp))) (by simp)).mono ?_
  rintro e wf ⟨q, rfl, hq, hq2, hb8⟩
  have hb8' : Below we.heap.size we wf := ((Below.refl _ _).alloc (Nat.le_refl _) _).trans (hb8.mono (by simp))
  have of' := oe.below hb8'
  have bigE := Nat.le_trans bigD hb7.size
  have belF := belE.trans (hb8'.mono bigE)
  have bigF := Nat.le_trans bigE hb8'.size
  have hqs : q = t.sum ps := by rw [hq.out, DT.sum, List.append_assoc, hL.out]; simp [flat]
  have hqsH := Lib.hid hqs
  clear hq hb8 hb8' hqs y7 y6 oe belE hb7 belD
  go_wp2_with fail
  refine (set_own _ _ Z c6 L wf of' nL.out.symm 16 (by omega) (by omega) q hq2).mono ?_
  rintro e wg ⟨rfl, og, gr⟩
  have belG := belF.trans (below_own of'.own gr bigF)
  go_wp2
  go_ret2
  refine ⟨_, rfl, ?_, hBW.trans (belG.mono (Nat.le_succ _))⟩
  have e9 : set2 L 16 q = t.bytes ps := by rw [DT.bytes, ← hqsH.out, ← hL.out, first_set16, List.append_assoc]
  rw [← e9]
  exact og.more (Nat.le_succ _)
  -- END 12
end Go.Proofs.Ytaobnbjkhgcmlaa
