/-
  The walk of Ipv4Back.
-/
import Derived.Test.YtfkcejfjmfliaaaBkA
import Derived.Test.YtfkcejfjmfliaaaP4Q
import Derived.Test.YtfkcejfjmfliaaaLaw4A
import Derived.Test.YtfkcejfjmfliaaaLaw4E
namespace Go.Proofs.Ytfkcejfjmfliaaa
open Go.RowKit Go.Shelf

theorem options_n (A : Option Addr) (n c : Nat) (l : List Int) (w : World) (hy : By w.heap.size w A n c l) (hs : n ≤ 1048576) :
    Calls Try.prog 26 #[.slice A n c] w fun e w' => ToldOs (optsOf l).2.1 (optsOf l).2.2 (if (optsOf l).2.2 = 0 then (optsOf l).1 else []) w e w' := by
  have := hy.len
  subst this
  exact options_any A c l w hy hs

theorem pe4_small {l : List Int} (hin : InB l) (h : pe4 false l = 0) {n : Nat} (hn : l.length = n) : n ≤ 65535 := by
  have a := getD_rng4 hin 2
  have b := getD_rng4 hin 3
  unfold pe4 at h
  split at h
  · cases h
  split at h
  · cases h
  split at h
  · cases h
  split at h
  · cases h
  rename_i h4
  have h5 : ¬ (tot4 l ≠ (l.length : Int)) := fun q => h4 (.inl ⟨rfl, q⟩)
  have h6 := Decidable.not_not.1 h5
  unfold tot4 at h6
  omega
theorem pkBytes_small (os : List (Int × List Int)) : (pkBytes os).length ≤ 1048576 := by
  unfold pkBytes
  split
  · rename_i h
    have : (pkAll os).length ≤ 40 := by
      unfold pkErr at h
      split at h
      · cases h
      · split at h
        · cases h
        · omega
    unfold pad4
    rw [List.length_append, List.length_replicate]
    omega
  · simp
theorem got4_ok {l : List Int} (h : pe4 false l = 0) : got4 false l = of4 l := by unfold got4; rw [if_pos h]
set_option maxRecDepth 100000 in
set_option maxHeartbeats 8000000 in
theorem back4_walk (d : D4) (p : W4) (A : Option Addr) (c : Nat) (l : List Int) (A2 : Option Addr) (c2 : Nat) (ps : List Kd) (w : World) (hR : Rd4 w.heap.size w d p) (y : By w.heap.size w A l.length c l) (K : Kds w.heap.size w A2 ps.length c2 ps) :
    Calls Try.prog 10 #[.agg (d.cells p), .slice A l.length c, .slice A2 ps.length c2] w fun e w' => e = .returned (.bool true) ∧ Below w.heap.size w w' := by
  obtain ⟨K0, hB⟩ := K4.arg hR
  have hcc := d.check_cases
  obtain ⟨n, hn⟩ : ∃ n, l.length = n := ⟨_, rfl⟩
  obtain ⟨M, hM⟩ : ∃ M, ps.length = M := ⟨_, rfl⟩
  rw [hM] at K ⊢
  rw [hn] at y ⊢
  have hnH := Lib.hid hn
  have kp := fun W (h : Below w.heap.size w W) => pparse_n A n c l W ((y.below h (Nat.le_refl _)).more h.size)
  have kk := fun W (h : Below w.heap.size w W) => pack_any A2 M c2 ps W ((K.below h (Nat.le_refl _)).more h.size)
  have kpH := Lib.hid kp
  have kkH := Lib.hid kk
  have hok := Lib.hid hR.ok
  have hin := y.rng
  clear hn hM kp kk
  go_enter Try.func10, Try.ntmps10
  go_wp2_with fail
  refine (awake_any _).mono ?_
  rintro e w1 ⟨rfl, hb⟩
  have K0 := K0.below hb
  have hB := hB.trans (hb.mono hB.size)
  clear hb
  go_wp2_with (refine wpList_load_rowG (by kernel_rfl) 27 (.tmp 3) rfl (w.heap.size) rfl 27 (d.cells p) (0, 0) _ K0.has Try.underlying27 rfl v4_info ?_)
  refine (write_any d p w1 K0.rd).mono ?_
  rintro e w2 ⟨v, s, rfl, hs, ho, hb⟩
  have K0 := K0.below hb
  have hB := hB.trans (hb.mono hB.size)
  by_cases h0 : d.check = 0
  case' pos =>
    obtain rfl : s = 0 := hs.out.trans h0
    have hw : d.write = d.bytes := by unfold D4.write; rw [if_pos h0]
    rw [hw] at ho
    obtain ⟨A1, c1, rfl, y1⟩ := ho.by_
    obtain ⟨z1, z2⟩ := d.back hok.out h0 hR.opt.rng
    have hp := pparse_n A1 _ c1 _ w2 y1
    rw [z1, z2] at hp
    generalize d.bytes.length = n1 at hp ⊢
    have hp := Lib.hid hp
    clear hw hs ho z1 z2 hcc h0 y1 hb
    go_wp2_with fail
    refine hp.out.mono ?_
    rintro e w4 ⟨⟨p4, a, s, rfl, ha, hs, ho4⟩, hb⟩
    obtain rfl : a = 0 := ha.out
    obtain rfl : s = 0 := hs.out
    have K0 := K0.below hb
    have hB := hB.trans (hb.mono hB.size)
    obtain ⟨K9, hb⟩ := K4.new ho4.rd
    have hZ : Has (w4.alloc (.cells #[.int .u8 0, .int .u16 0, .bool false, .bool false, .int .i64 0, .int .u8 0, .int .u8 0, .int .u8 0, .int .u8 0, .int .u8 0, .int .u8 0, .int .u8 0, .int .u8 0, .int .u8 0, .int .u8 0, .slice none 0 0, .slice none 0 0] 27)) w4.heap.size (.cells #[.int .u8 0, .int .u16 0, .bool false, .bool false, .int .i64 0, .int .u8 0, .int .u8 0, .int .u8 0, .int .u8 0, .int .u8 0, .int .u8 0, .int .u8 0, .int .u8 0, .int .u8 0, .int .u8 0, .slice none 0 0, .slice none 0 0] 27 (0, 0)) := Has.newAt rfl
    have K0 := K0.below hb
    have hB := hB.trans (hb.mono hB.size)
    clear ho4 ha hs hp hb
    go_wp2_with (first | (refine wpList_store_row rfl 27 (.tmp 9) (.tmp 34) rfl w4.heap.size _ rfl rfl 27 _ hZ v4_info rfl (by simp [D4.cells, Value.oneCell']) ?_) | (refine wpList_load_rowG (by kernel_rfl) 27 (.tmp 3) rfl (w.heap.size) rfl 27 (d.cells p) (0, 0) _ K0.has Try.underlying27 rfl v4_info ?_) | (refine wpList_load_rowG (by kernel_rfl) 27 (.tmp 9) rfl (w4.heap.size) rfl 27 (d.cells p4) (0, 0) _ K9.has Try.underlying27 rfl v4_info ?_))
    clear hZ
    generalize (w4.alloc (.cells #[.int .u8 0, .int .u16 0, .bool false, .bool false, .int .i64 0, .int .u8 0, .int .u8 0, .int .u8 0, .int .u8 0, .int .u8 0, .int .u8 0, .int .u8 0, .int .u8 0, .int .u8 0, .int .u8 0, .slice none 0 0, .slice none 0 0] 27)).setRow w4.heap.size (d.cells p4) = w5 at K0 K9 hB ⊢
    generalize w4.heap.size = g9 at K9 ⊢
    refine (K0.same K9).mono ?_
    rintro e w6 ⟨b, rfl, hq, hb⟩
    obtain rfl : b = true := by rw [hq.out, same4_self]
    have K0 := K0.below hb
    have hB := hB.trans (hb.mono hB.size)
    clear hb hq K9
  case' neg =>
    obtain ⟨A1, c1, rfl, y1⟩ := ho.by_
    have hs2 : s ≠ 0 := by rw [hs.out]; exact h0
    generalize d.write.length = n1 at ⊢
    clear ho hs hcc y1 hb
  all_goals
    go_wp2_with fail
    refine (kpH.out _ hB).mono ?_
    rintro e w7 ⟨⟨p7, a7, s7, rfl, ha7, hs7, ho7⟩, hb⟩
    have hB7 := hB
    have hB := hB.trans (hb.mono hB.size)
    obtain ⟨K12, hb⟩ := K4.new ho7.rd
    have hZ : Has (w7.alloc (.cells #[.int .u8 0, .int .u16 0, .bool false, .bool false, .int .i64 0, .int .u8 0, .int .u8 0, .int .u8 0, .int .u8 0, .int .u8 0, .int .u8 0, .int .u8 0, .int .u8 0, .int .u8 0, .int .u8 0, .slice none 0 0, .slice none 0 0] 27)) w7.heap.size (.cells #[.int .u8 0, .int .u16 0, .bool false, .bool false, .int .i64 0, .int .u8 0, .int .u8 0, .int .u8 0, .int .u8 0, .int .u8 0, .int .u8 0, .int .u8 0, .int .u8 0, .int .u8 0, .int .u8 0, .slice none 0 0, .slice none 0 0] 27 (0, 0)) := Has.newAt rfl
    have hB := hB.trans (hb.mono hB.size)
    by_cases hE : pe4 false l = 0
    case' neg =>
      have hs8 : s7 ≠ 0 := by rw [hs7.out]; exact hE
      clear hE hs7 ha7
      go_wp2_with (first | (refine wpList_store_row rfl 27 (.tmp 12) (.tmp 52) rfl w7.heap.size _ rfl rfl 27 _ hZ v4_info rfl (by simp [D4.cells, Value.oneCell']) ?_) | (refine wpList_load_rowG (by kernel_rfl) 27 (.tmp 12) rfl (w7.heap.size) rfl 27 (_) (0, 0) _ K12.has Try.underlying27 rfl v4_info ?_))
      clear hZ K12
      generalize (w7.alloc (.cells #[.int .u8 0, .int .u16 0, .bool false, .bool false, .int .i64 0, .int .u8 0, .int .u8 0, .int .u8 0, .int .u8 0, .int .u8 0, .int .u8 0, .int .u8 0, .int .u8 0, .int .u8 0, .int .u8 0, .slice none 0 0, .slice none 0 0] 27)).setRow w7.heap.size (_) = w8 at hB ⊢
    case' pos =>
      obtain rfl : s7 = 0 := hs7.out.trans hE
      have hn20 : 20 ≤ n := by
        rw [← hnH.out]
        unfold pe4 at hE
        split at hE
        · cases hE
        · omega
      obtain ⟨bb, off, hA, hbl, -⟩ := y.row.at_ (by omega)
      subst hA
      have r6 := getD_rng4 hin 6
      have hnr : n ≤ 65535 := pe4_small hin hE hnH.out
      have z6 : (6 : Int) < (n : Int) := by omega
      have hg := got4_ok hE
      rw [hg] at K12 hB
      have d6 := ((y.below hB (Nat.le_refl _))).atO (k := 6) (by omega)
      have hag := fun h => D4.again hin hE h
      obtain ⟨x6, hx6⟩ : ∃ x, l.getD 6 0 = x := ⟨_, rfl⟩
      rw [hx6] at d6 r6 hag
      rw [hg]
      clear hg hE hs7 ha7 ho7 hx6
      by_cases h6 : x6 < 128
      case' pos =>
        obtain ⟨f1, f2, f3, f4⟩ := hag h6
        generalize of4 l = D at K12 hB d6 f1 f2 f3 f4 ⊢
        rw [hnH.out] at f2
        clear hag
        go_wp2_with (first | (refine wpList_store_row rfl 27 (.tmp 12) (.tmp 52) rfl w7.heap.size _ rfl rfl 27 _ hZ v4_info rfl (by simp [D4.cells, Value.oneCell']) ?_) | (refine wpList_load_rowG (by kernel_rfl) 27 (.tmp 12) rfl (w7.heap.size) rfl 27 (_) (0, 0) _ K12.has Try.underlying27 rfl v4_info ?_))
        clear hZ
        generalize (w7.alloc (.cells #[.int .u8 0, .int .u16 0, .bool false, .bool false, .int .i64 0, .int .u8 0, .int .u8 0, .int .u8 0, .int .u8 0, .int .u8 0, .int .u8 0, .int .u8 0, .int .u8 0, .int .u8 0, .int .u8 0, .slice none 0 0, .slice none 0 0] 27)).setRow w7.heap.size (_) = w8 at K12 hB d6 ⊢
        generalize w7.heap.size = g12 at K12 ⊢
        refine (write_any D p7 _ K12.rd).mono ?_
        rintro e w9 ⟨v, s, rfl, hs, ho, hb2⟩
        obtain rfl : s = 0 := hs.out.trans f1
        have hB8 := hB
        have hB := hB.trans (hb2.mono hB.size)
        have hw : D.write = D.bytes := by unfold D4.write; rw [if_pos f1]
        rw [hw] at ho
        obtain ⟨A5, c5, rfl, y5⟩ := ho.by_
        generalize D.bytes = Y at y5 f2 f3 f4 ⊢
        rw [f2] at y5 ⊢
        have yw := (y.below hB (Nat.le_refl _)).more hB.size
        obtain ⟨s1, t1⟩ := y5.to_ (P := Try.prog) 25 Try.underlying25 (by kernel_rfl) (k := 10) (by omega)
        obtain ⟨s2, t2⟩ := yw.to_ (P := Try.prog) 25 Try.underlying25 (by kernel_rfl) (k := 10) (by omega)
        obtain ⟨A7, c7, s3, t3⟩ := y5.from_ (P := Try.prog) 25 Try.underlying25 (by kernel_rfl) (k := 12) (by omega)
        obtain ⟨A8, c8, s4, t4⟩ := yw.from_ (P := Try.prog) 25 Try.underlying25 (by kernel_rfl) (k := 12) (by omega)
        rw [f3] at t1
        rw [f4] at t3
        generalize l.take 10 = T at t1 t2
        generalize l.drop 12 = U at t3 t4
        have hb5 := Nat.le_trans y5.cap y5.big
        clear hs ho hw f1 f2 f3 f4 y5 yw d6 hb2 K12
        go_wp2
        refine wp_region_held_drew (S := fun W => Below w9.heap.size w9 W) (by kernel_rfl) (below_drew _ _) (fun hS => ?_)
        -- REGION 11
        refine tk (i := 0) (.int .i64 0) hS rfl (by kernel_rfl) (by kernel_rfl) (by kernel_rfl) (fun _ _ _ h => h) (by kernel_rfl) (by intro _ _; exact rfl) ?_
        simp only [Act.put, List.setIfInBounds_toArray, List.set_cons_zero, List.set_cons_succ]
        refine tk (i := 1) (.bool false) hS rfl (by kernel_rfl) (by kernel_rfl) (by kernel_rfl) (fun _ _ _ h => h) (by kernel_rfl) (by intro _ _; exact neq_int_eq (by exact rfl) (by exact rfl) (by exact rfl) rfl) ?_
        simp only [Act.put, List.setIfInBounds_toArray, List.set_cons_zero, List.set_cons_succ]
        refine tk (i := 2) (.bool false) hS rfl (by kernel_rfl) (by kernel_rfl) (by kernel_rfl) (fun _ _ _ h => h) (by kernel_rfl) (by intro _ _; exact rfl) ?_
        simp only [Act.put, List.setIfInBounds_toArray, List.set_cons_zero, List.set_cons_succ]
        refine tk (i := 3) (.slice A5 n c5) hS rfl (by kernel_rfl) (by kernel_rfl) (by kernel_rfl) (fun _ _ _ h => h) (by kernel_rfl) (by intro _ _; exact rfl) ?_
        simp only [Act.put, List.setIfInBounds_toArray, List.set_cons_zero, List.set_cons_succ]
        refine tk (i := 4) (.int .i64 (n : Int)) hS rfl (by kernel_rfl) (by kernel_rfl) (by kernel_rfl) (fun _ _ _ h => h) (by kernel_rfl) (by intro _ _; exact ex_len (by exact rfl) Try.underlying25 (by exact rfl)) ?_
        simp only [Act.put, List.setIfInBounds_toArray, List.set_cons_zero, List.set_cons_succ]
        refine tk (i := 5) (.slice (some ⟨bb, off, none⟩) n c) hS rfl (by kernel_rfl) (by kernel_rfl) (by kernel_rfl) (fun _ _ _ h => h) (by kernel_rfl) (by intro _ _; exact rfl) ?_
        simp only [Act.put, List.setIfInBounds_toArray, List.set_cons_zero, List.set_cons_succ]
        refine tk (i := 6) (.int .i64 (n : Int)) hS rfl (by kernel_rfl) (by kernel_rfl) (by kernel_rfl) (fun _ _ _ h => h) (by kernel_rfl) (by intro _ _; exact ex_len (by exact rfl) Try.underlying25 (by exact rfl)) ?_
        simp only [Act.put, List.setIfInBounds_toArray, List.set_cons_zero, List.set_cons_succ]
        refine tk (i := 7) (.bool false) hS rfl (by kernel_rfl) (by kernel_rfl) (by kernel_rfl) (fun _ _ _ h => h) (by kernel_rfl) (by intro _ _; exact neq_int_eq (by exact rfl) (by exact rfl) (by exact rfl) rfl) ?_
        simp only [Act.put, List.setIfInBounds_toArray, List.set_cons_zero, List.set_cons_succ]
        refine tk (i := 8) (.bool false) hS rfl (by kernel_rfl) (by kernel_rfl) (by kernel_rfl) (fun _ _ _ h => h) (by kernel_rfl) (by intro _ _; exact rfl) ?_
        simp only [Act.put, List.setIfInBounds_toArray, List.set_cons_zero, List.set_cons_succ]
        refine tk (i := 9) (.bool false) hS rfl (by kernel_rfl) (by kernel_rfl) (by kernel_rfl) (fun _ _ _ h => h) (by kernel_rfl) (by intro _ _; exact rfl) ?_
        simp only [Act.put, List.setIfInBounds_toArray, List.set_cons_zero, List.set_cons_succ]
        refine tk (i := 10) (.slice A5 n c5) hS rfl (by kernel_rfl) (by kernel_rfl) (by kernel_rfl) (fun _ _ _ h => h) (by kernel_rfl) (by intro _ _; exact rfl) ?_
        simp only [Act.put, List.setIfInBounds_toArray, List.set_cons_zero, List.set_cons_succ]
        refine tk (i := 11) (.slice A5 10 c5) hS rfl (by kernel_rfl) (by kernel_rfl) (by kernel_rfl) (fun _ _ _ h => h) (by kernel_rfl) (by intro w' _; exact ex_slice (by exact rfl) (by exact rfl) (s1 w')) ?_
        simp only [Act.put, List.setIfInBounds_toArray, List.set_cons_zero, List.set_cons_succ]
        refine tk (i := 12) (.string (strOfNums T)) hS rfl (by kernel_rfl) (by kernel_rfl) (by kernel_rfl) (fun _ _ _ h => h) (by kernel_rfl) (by intro _ h; exact ex_conv (by exact rfl) (by exact rfl) ((t1.below h (Nat.le_refl _)).conv _ _ Try.underlying25 Try.underlying5 Try.underlying9)) ?_
        simp only [Act.put, List.setIfInBounds_toArray, List.set_cons_zero, List.set_cons_succ]
        refine tk (i := 13) (.slice (some ⟨bb, off, none⟩) n c) hS rfl (by kernel_rfl) (by kernel_rfl) (by kernel_rfl) (fun _ _ _ h => h) (by kernel_rfl) (by intro _ _; exact rfl) ?_
        simp only [Act.put, List.setIfInBounds_toArray, List.set_cons_zero, List.set_cons_succ]
        refine tk (i := 14) (.slice (some ⟨bb, off, none⟩) 10 c) hS rfl (by kernel_rfl) (by kernel_rfl) (by kernel_rfl) (fun _ _ _ h => h) (by kernel_rfl) (by intro w' _; exact ex_slice (by exact rfl) (by exact rfl) (s2 w')) ?_
        simp only [Act.put, List.setIfInBounds_toArray, List.set_cons_zero, List.set_cons_succ]
        refine tk (i := 15) (.string (strOfNums T)) hS rfl (by kernel_rfl) (by kernel_rfl) (by kernel_rfl) (fun _ _ _ h => h) (by kernel_rfl) (by intro _ h; exact ex_conv (by exact rfl) (by exact rfl) ((t2.below h (Nat.le_refl _)).conv _ _ Try.underlying25 Try.underlying5 Try.underlying9)) ?_
        simp only [Act.put, List.setIfInBounds_toArray, List.set_cons_zero, List.set_cons_succ]
        refine tk (i := 16) (.bool false) hS rfl (by kernel_rfl) (by kernel_rfl) (by kernel_rfl) (fun _ _ _ h => h) (by kernel_rfl) (by intro _ _; exact neq_str_f (by exact rfl) (by exact rfl) (by exact rfl) (by simp)) ?_
        simp only [Act.put, List.setIfInBounds_toArray, List.set_cons_zero, List.set_cons_succ]
        refine tk (i := 17) (.bool false) hS rfl (by kernel_rfl) (by kernel_rfl) (by kernel_rfl) (fun _ _ _ h => h) (by kernel_rfl) (by intro _ _; exact rfl) ?_
        simp only [Act.put, List.setIfInBounds_toArray, List.set_cons_zero, List.set_cons_succ]
        refine tk (i := 18) (.bool false) hS rfl (by kernel_rfl) (by kernel_rfl) (by kernel_rfl) (fun _ _ _ h => h) (by kernel_rfl) (by intro _ _; exact rfl) ?_
        simp only [Act.put, List.setIfInBounds_toArray, List.set_cons_zero, List.set_cons_succ]
        refine tk (i := 19) (.slice A5 n c5) hS rfl (by kernel_rfl) (by kernel_rfl) (by kernel_rfl) (fun _ _ _ h => h) (by kernel_rfl) (by intro _ _; exact rfl) ?_
        simp only [Act.put, List.setIfInBounds_toArray, List.set_cons_zero, List.set_cons_succ]
        refine tk (i := 20) (.slice A7 (n - 12) c7) hS rfl (by kernel_rfl) (by kernel_rfl) (by kernel_rfl) (fun _ _ _ h => h) (by kernel_rfl) (by intro w' _; exact ex_slice (by exact rfl) (by exact rfl) (s3 w')) ?_
        simp only [Act.put, List.setIfInBounds_toArray, List.set_cons_zero, List.set_cons_succ]
        refine tk (i := 21) (.string (strOfNums U)) hS rfl (by kernel_rfl) (by kernel_rfl) (by kernel_rfl) (fun _ _ _ h => h) (by kernel_rfl) (by intro _ h; exact ex_conv (by exact rfl) (by exact rfl) ((t3.below h (Nat.le_refl _)).conv _ _ Try.underlying25 Try.underlying5 Try.underlying9)) ?_
        simp only [Act.put, List.setIfInBounds_toArray, List.set_cons_zero, List.set_cons_succ]
        refine tk (i := 22) (.slice (some ⟨bb, off, none⟩) n c) hS rfl (by kernel_rfl) (by kernel_rfl) (by kernel_rfl) (fun _ _ _ h => h) (by kernel_rfl) (by intro _ _; exact rfl) ?_
        simp only [Act.put, List.setIfInBounds_toArray, List.set_cons_zero, List.set_cons_succ]
        refine tk (i := 23) (.slice A8 (n - 12) c8) hS rfl (by kernel_rfl) (by kernel_rfl) (by kernel_rfl) (fun _ _ _ h => h) (by kernel_rfl) (by intro w' _; exact ex_slice (by exact rfl) (by exact rfl) (s4 w')) ?_
        simp only [Act.put, List.setIfInBounds_toArray, List.set_cons_zero, List.set_cons_succ]
        refine tk (i := 24) (.string (strOfNums U)) hS rfl (by kernel_rfl) (by kernel_rfl) (by kernel_rfl) (fun _ _ _ h => h) (by kernel_rfl) (by intro _ h; exact ex_conv (by exact rfl) (by exact rfl) ((t4.below h (Nat.le_refl _)).conv _ _ Try.underlying25 Try.underlying5 Try.underlying9)) ?_
        simp only [Act.put, List.setIfInBounds_toArray, List.set_cons_zero, List.set_cons_succ]
        refine tk (i := 25) (.bool false) hS rfl (by kernel_rfl) (by kernel_rfl) (by kernel_rfl) (fun _ _ _ h => h) (by kernel_rfl) (by intro _ _; exact neq_str_f (by exact rfl) (by exact rfl) (by exact rfl) (by simp)) ?_
        simp only [Act.put, List.setIfInBounds_toArray, List.set_cons_zero, List.set_cons_succ]
        refine tk (i := 26) (.bool false) hS rfl (by kernel_rfl) (by kernel_rfl) (by kernel_rfl) (fun _ _ _ h => h) (by kernel_rfl) (by intro _ _; exact rfl) ?_
        simp only [Act.put, List.setIfInBounds_toArray, List.set_cons_zero, List.set_cons_succ]
        refine wpAnyH_done (by kernel_rfl) ?_ _
        go_wp2_with fail
        have hB := hB.trans (Below.mono hS hB.size)
        -- END 11
      case' neg =>
        clear hag
        go_wp2_with (first | (refine wpList_store_row rfl 27 (.tmp 12) (.tmp 52) rfl w7.heap.size _ rfl rfl 27 _ hZ v4_info rfl (by simp [D4.cells, Value.oneCell']) ?_) | (refine wpList_load_rowG (by kernel_rfl) 27 (.tmp 12) rfl (w7.heap.size) rfl 27 (_) (0, 0) _ K12.has Try.underlying27 rfl v4_info ?_))
        clear hZ d6 K12
        generalize (w7.alloc (.cells #[.int .u8 0, .int .u16 0, .bool false, .bool false, .int .i64 0, .int .u8 0, .int .u8 0, .int .u8 0, .int .u8 0, .int .u8 0, .int .u8 0, .int .u8 0, .int .u8 0, .int .u8 0, .int .u8 0, .slice none 0 0, .slice none 0 0] 27)).setRow w7.heap.size (_) = w8 at hB ⊢
    all_goals
      refine (kkH.out _ hB).mono ?_
      rintro e v3 ⟨v, rfl, o3, hb⟩
      have hB := hB.trans (hb.mono hB.size)
      obtain ⟨A3, c3, rfl, y3⟩ := o3.by_
      have hopb := Lib.hid (fun h => opts_back (kdL ps) h)
      have hlp := Lib.hid (pkBytes_small (kdL ps))
      by_cases hE0 : pkErr (kdL ps) = 0
      case neg =>
        have hr : pkBytes (kdL ps) = [] := by unfold pkBytes; rw [if_neg hE0]
        rw [hr] at y3 ⊢
        generalize pkErr (kdL ps) = E at hE0 ⊢
        clear hopb hlp o3 hr
        go_wp2
        go_ret
        exact ⟨rfl, hB⟩
      case pos =>
        have hoo := hopb.out hE0
        rw [hE0]
        have hco := options_n A3 _ c3 _ _ y3 hlp.out
        rw [hoo] at hco
        generalize (pkBytes (kdL ps)).length = n3 at hco ⊢
        have hco := Lib.hid hco
        clear hopb hlp o3 y3 hoo hE0 hb
        go_wp2_with fail
        refine hco.out.mono ?_
        rintro e v4 ⟨v, p1, rfl, h1, o1, hb⟩
        have hB := hB.trans (hb.mono hB.size)
        obtain ⟨B1, d1, rfl, K1⟩ := o1.kds
        have hsame : Hid (kdL ps = kdL p1) := Lib.hid (h1.out.trans (if_pos trivial)).symm
        generalize p1.length = n4 at K1 ⊢
        clear hco o1 h1 hb
        go_wp2_with fail
        refine (rsameo_any _ _ _ _ _ _ _ _ v4 ((K.below hB (Nat.le_refl _)).more hB.size) K1).mono ?_
        rintro e v5 ⟨rfl, hb⟩
        have hB := hB.trans (hb.mono hB.size)
        rw [decide_eq_true hsame.out]
        go_wp2
        go_ret
        exact ⟨rfl, hB⟩
end Go.Proofs.Ytfkcejfjmfliaaa
