/-
  The walk of ipv6.Same.
-/
import Derived.Test.YtndmmkadceobjaaV6SA
import Derived.Test.YtndmmkadceobjaaClone
namespace Go.Proofs.Ytndmmkadceobjaa
open Go.RowKit Go.Shelf

set_option maxRecDepth 100000 in
theorem hsame_any (pk qk : Int) (pA qA : Option Addr) (pc qc B1 B2 : Nat) (pl ql : List Int) (w : World) (yP : By B1 w pA pl.length pc pl) (yQ : By B2 w qA ql.length qc ql) (h1 : B1 ≤ w.heap.size) (h2 : B2 ≤ w.heap.size) :
    Calls Try.prog 32 #[.agg #[.int .u8 pk, .slice pA pl.length pc], .agg #[.int .u8 qk, .slice qA ql.length qc]] w fun e w' => Tru (decide (pk = qk ∧ pl = ql)) e ∧ Below w.heap.size w w' := by
  have hB : Below w.heap.size w ((w.alloc (.cells #[.int .u8 pk, .slice pA pl.length pc] 54)).alloc (.cells #[.int .u8 qk, .slice qA ql.length qc] 54)) := ((Below.refl _ _).alloc (Nat.le_refl _) _).alloc (by simp) _
  have yP := yP.below hB h1
  have yQ := yQ.below hB h2
  have hE := Lib.hid (equal_any _ _ pA qA pc qc pl ql _ yP yQ)
  by_cases hk : pk = qk
  case neg =>
    have e1 : decide (pk = qk ∧ pl = ql) = false := decide_eq_false (fun h => hk h.1)
    have hk : (pk == qk) = false := by simpa using hk
    rw [e1]
    clear hE yP yQ e1
    go_enter Try.func32, Try.ntmps32
    go_wp2
    go_ret
    exact ⟨Tru.mk rfl, hB⟩
  case pos =>
    subst hk
    have e1 : decide (pk = pk ∧ pl = ql) = decide (pl = ql) := by simp
    rw [e1]
    obtain ⟨q, hq⟩ : ∃ q, decide (pl = ql) = q := ⟨_, rfl⟩
    rw [hq] at hE ⊢
    clear yP yQ e1 hq
    go_enter Try.func32, Try.ntmps32
    go_wp2_with fail
    refine hE.out.mono ?_
    rintro e w2 ⟨rfl, rfl⟩
    clear hE
    go_wp2
    go_ret
    exact ⟨Tru.mk rfl, hB⟩

set_option maxRecDepth 100000 in
set_option maxHeartbeats 4000000 in
theorem eqf_any (A1 A2 : Option Addr) (M1 M2 c1 c2 : Nat) (ps qs : List Kd) (w : World) (K1 : Kds w.heap.size w A1 M1 c1 ps) (K2 : Kds w.heap.size w A2 M2 c2 qs) :
    Calls Try.prog 31 #[.slice A1 M1 c1, .slice A2 M2 c2, .func (.func 32) #[] #[]] w fun e w' => Tru (decide (kdL ps = kdL qs)) e ∧ Below w.heap.size w w' := by
  obtain ⟨V, hV⟩ : ∃ V, decide (kdL ps = kdL qs) = V := ⟨_, rfl⟩
  rw [hV]
  have hM1 := K1.len
  have hM2 := K2.len
  have hb1 := Nat.le_trans K1.cap K1.big
  have hb2 := Nat.le_trans K2.cap K2.big
  by_cases hM : M1 = M2
  case neg =>
    obtain rfl : V = false := by
      rw [← hV, decide_eq_false_iff_not]
      intro h
      have := congrArg List.length h
      rw [kdL_len, kdL_len] at this
      omega
    have hMi : ((M1 : Int) != (M2 : Int)) = true := by simp; omega
    clear K1 K2 hV hM1 hM2
    go_enter Try.func31, Try.ntmps31
    go_wp2
    go_ret
    exact ⟨Tru.mk rfl, Below.refl _ _⟩
  case pos =>
  subst hM
  obtain ⟨M, rfl⟩ : ∃ M, M = M1 := ⟨_, rfl⟩
  have hV0 : Hid (decide ((kdL ps).drop 0 = (kdL qs).drop 0) = V) := Lib.hid (by rw [List.drop_zero, List.drop_zero]; exact hV)
  have hMi : ((M : Int) != (M : Int)) = false := by simp
  have hM1H := Lib.hid hM1
  have hM2H := Lib.hid hM2
  clear hV hM1 hM2
  go_enter Try.func31, Try.ntmps31
  go_wp2
  go_loopw [17] (fun i wr => ∃ k : Nat, k ≤ M ∧ i = .int .i64 k ∧ Hid (decide ((kdL ps).drop k = (kdL qs).drop k) = V) ∧ Below w.heap.size w wr) (fun i _ => M - (intOf i).toNat)
  case atStart => exact ⟨0, Nat.zero_le _, rfl, hV0, Below.refl _ _⟩
  case round =>
  obtain ⟨k, hk, rfl, hVk, hBr⟩ := hrel
  rename_i wr _
  by_cases hkM : k < M
  case neg =>
    have hge : ¬ ((k : Int) < (M : Int)) := by omega
    obtain rfl : V = true := by
      rw [← hVk.out, List.drop_of_length_le (by rw [kdL_len, hM1H.out]; omega), List.drop_of_length_le (by rw [kdL_len, hM2H.out]; omega)]
      simp
    clear hVk hV0 K1 K2
    go_wp2
    go_ret
    exact ⟨Tru.mk rfl, hBr⟩
  case pos =>
  have hkz : (k : Int) < (M : Int) := by omega
  obtain ⟨⟨pk, pA, pc, pl⟩, hp⟩ : ∃ p', ps[k]? = some p' := ⟨ps[k]'(by rw [hM1H.out]; exact hkM), List.getElem?_eq_getElem _⟩
  obtain ⟨⟨qk, qA, qc, ql⟩, hq⟩ : ∃ p', qs[k]? = some p' := ⟨qs[k]'(by rw [hM2H.out]; exact hkM), List.getElem?_eq_getElem _⟩
  have hd1 := drop_kd (hs := kdL ps) rfl hp
  have hd2 := drop_kd (hs := kdL qs) rfl hq
  obtain ⟨b1, o1, hA1', hbb1, hr1, hr2, yP, e0, e1, hld1⟩ := K1.loadHead hp
  obtain ⟨b2, o2, hA2', hbb2, hr3, hr4, yQ, g0, g1, hld2⟩ := K2.loadHead hq
  subst hA1' hA2'
  dsimp only at hd1 hd2 yP yQ hld1 hld2
  have hV2 := hVk.out
  rw [hd1, hd2] at hV2
  obtain ⟨W4, hW4, hH4, hX4⟩ := head_var wr pk pA pl.length pc
  obtain ⟨W5, hW5, hH5, hX5⟩ := head_var W4 qk qA ql.length qc
  have hB4 := hBr.trans (hX4.mono hBr.size)
  have hB5 := hB4.trans (hX5.mono hB4.size)
  have hld1 := hld1 wr hBr
  have hld2 := hld2 W4 hB4
  have hN1 : Has (wr.alloc (.cells #[.int .u8 0, .slice none 0 0] 54)) wr.heap.size (.cells #[.int .u8 0, .slice none 0 0] 54 (0, 0)) := Has.newAt rfl
  have hN2 : Has (W4.alloc (.cells #[.int .u8 0, .slice none 0 0] 54)) W4.heap.size (.cells #[.int .u8 0, .slice none 0 0] 54 (0, 0)) := Has.newAt rfl
  have hH4' := hH4.below hX5 hH4.lt
  have hc := Lib.hid (hsame_any pk qk pA qA pc qc _ _ pl ql W5 (yP.below hB5 (Nat.le_refl _)) (yQ.below hB5 (Nat.le_refl _)) hB5.size hB5.size)
  have hV2H := Lib.hid hV2
  clear hV2 hVk hV0 hp hq hd1 hd2 K1 K2 yP yQ e0 e1 g0 g1
  go_wp2_with (first | (refine wl (.pointer (some ⟨b1, o1 + k * 2, none⟩)) (by kernel_rfl) (by exact ex_index2 (by exact rfl) Try.underlying25 (by kernel_rfl) (by exact rfl) (by exact rfl) hkM) ?_) | (refine wl (.pointer (some ⟨b2, o2 + k * 2, none⟩)) (by kernel_rfl) (by exact ex_index2 (by exact rfl) Try.underlying25 (by kernel_rfl) (by exact rfl) (by exact rfl) hkM) ?_) | (refine wl (.agg #[.int .u8 pk, .slice pA pl.length pc]) (by kernel_rfl) (by exact ex_loadAt (by exact rfl) (by exact rfl) hld1) ?_) | (refine wl (.agg #[.int .u8 qk, .slice qA ql.length qc]) (by kernel_rfl) (by exact ex_loadAt (by exact rfl) (by exact rfl) hld2) ?_) | (refine wpList_store_row rfl 54 (.tmp 8) (.tmp 21) rfl wr.heap.size _ rfl rfl 54 _ hN1 head_info rfl (by simp [Value.oneCell']) ?_) | (refine wpList_store_row rfl 54 (.tmp 9) (.tmp 25) rfl W4.heap.size _ rfl rfl 54 _ hN2 head_info rfl (by simp [Value.oneCell']) ?_) | (refine wpList_load_row rfl 54 (.tmp 8) rfl wr.heap.size rfl 54 #[.int .u8 pk, .slice pA pl.length pc] (0, 0) _ hH4' Try.underlying54 rfl head_info ?_) | (refine wpList_load_row rfl 54 (.tmp 9) rfl W4.heap.size rfl 54 #[.int .u8 qk, .slice qA ql.length qc] (0, 0) _ hH5 Try.underlying54 rfl head_info ?_))
  refine hc.out.mono ?_
  rintro e w6 ⟨⟨q, rfl, hq⟩, hb⟩
  have hB6 := hB5.trans (hb.mono hB5.size)
  clear hc hb
  by_cases hpq : pk = qk ∧ pl = ql
  case neg =>
    obtain rfl : q = false := hq.out.trans (decide_eq_false hpq)
    obtain rfl : V = false := by rw [← hV2H.out]; exact decide_eq_false (fun h => hpq (by simpa using (List.cons.inj h).1))
    clear hq hV2H
    go_wp2
    go_ret
    exact ⟨Tru.mk rfl, hB6⟩
  case pos =>
    obtain rfl : q = true := hq.out.trans (decide_eq_true hpq)
    have hVn : Hid (decide ((kdL ps).drop (k + 1) = (kdL qs).drop (k + 1)) = V) := Lib.hid (by rw [← hV2H.out, hpq.1, hpq.2]; simp)
    clear hq hV2H hpq
    go_wp2
    go_roundw
    case rel => exact ⟨k + 1, by omega, by go_num, hVn, hB6⟩
    case measure => simp [intOf]; omega

set_option maxRecDepth 100000 in
set_option maxHeartbeats 16000000 in
theorem same6_any (d d' : D6) (p p' : W6) (w : World) (hR : Rd6 w.heap.size w d p) (hR' : Rd6 w.heap.size w d' p') :
    Calls Try.prog 20 #[.agg (d.cells p), .agg (d'.cells p')] w fun e w' => Tru (same6 d d') e ∧ Below w.heap.size w w' := by
  obtain ⟨hA1, hc1, ps, bA1, bc1⟩ := p
  obtain ⟨hA2, hc2, qs, bA2, bc2⟩ := p'
  obtain ⟨W1, hW1⟩ : ∃ W, w.alloc (.cells (d.cells ⟨hA1, hc1, ps, bA1, bc1⟩) 28) = W := ⟨_, rfl⟩
  obtain ⟨W2, hW2⟩ : ∃ W, W1.alloc (.cells (d'.cells ⟨hA2, hc2, qs, bA2, bc2⟩) 28) = W := ⟨_, rfl⟩
  have hs1 : W1.heap.size = w.heap.size + 1 := by rw [← hW1]; simp
  have hB1 : Below w.heap.size w W1 := by rw [← hW1]; exact (Below.refl _ _).alloc (Nat.le_refl _) _
  have hB2 : Below W1.heap.size W1 W2 := by rw [← hW2]; exact (Below.refl _ _).alloc (Nat.le_refl _) _
  have hB := hB1.trans (hB2.mono hB1.size)
  have hL : Has W2 w.heap.size (.cells (d.cells ⟨hA1, hc1, ps, bA1, bc1⟩) 28 (0, 0)) := by
    have h : Has W1 w.heap.size (.cells (d.cells ⟨hA1, hc1, ps, bA1, bc1⟩) 28 (0, 0)) := by rw [← hW1]; exact Has.newAt rfl
    exact h.below hB2 h.lt
  have hG : Has W2 (w.heap.size + 1) (.cells (d'.cells ⟨hA2, hc2, qs, bA2, bc2⟩) 28 (0, 0)) := by rw [← hW2, ← hs1]; exact Has.newAt rfl
  have hR1 := (hR.below hB (Nat.le_refl _)).more hB.size
  have hR2 := (hR'.below hB (Nat.le_refl _)).more hB.size
  obtain ⟨V, hV⟩ : ∃ V, same6 d d' = V := ⟨_, rfl⟩
  rw [hV]
  have s1 := hR.ok.srcL
  have s2 := hR'.ok.srcL
  have s3 := hR.ok.dstL
  have s4 := hR'.ok.dstL
  have l1 := D6.load_src hL s1
  have l2 := D6.load_src hG s2
  have l3 := D6.load_dst hL s3
  have l4 := D6.load_dst hG s4
  have c10 := hL.cell 0 (v := .int .u8 d.cls) rfl
  have c20 := hG.cell 0 (v := .int .u8 d'.cls) rfl
  have c11 := hL.cell 1 (v := .int .u32 d.lab) rfl
  have c21 := hG.cell 1 (v := .int .u32 d'.lab) rfl
  have c12 := hL.cell 2 (v := .int .u8 d.hop) rfl
  have c22 := hG.cell 2 (v := .int .u8 d'.hop) rfl
  have c136 := hL.cell 36 (v := .bool d.frag) rfl
  have c236 := hG.cell 36 (v := .bool d'.frag) rfl
  have c137 := hL.cell 37 (v := .int .u32 d.id) rfl
  have c237 := hG.cell 37 (v := .int .u32 d'.id) rfl
  have c138 := hL.cell 38 (v := .int .i64 d.off) rfl
  have c238 := hG.cell 38 (v := .int .i64 d'.off) rfl
  have c139 := hL.cell 39 (v := .bool d.more) rfl
  have c239 := hG.cell 39 (v := .bool d'.more) rfl
  have c140 := hL.cell 40 (v := .int .u8 d.pro) rfl
  have c240 := hG.cell 40 (v := .int .u8 d'.pro) rfl
  have c141 := hL.cell 41 (v := .slice bA1 d.bl.length bc1) rfl
  have c241 := hG.cell 41 (v := .slice bA2 d'.bl.length bc2) rfl
  have c135 := hL.cell 35 (v := .slice hA1 d.hs.length hc1) rfl
  have c235 := hG.cell 35 (v := .slice hA2 d'.hs.length hc2) rfl
  obtain ⟨M1, hM1⟩ : ∃ M, d.hs.length = M := ⟨_, rfl⟩
  obtain ⟨M2, hM2⟩ : ∃ M, d'.hs.length = M := ⟨_, rfl⟩
  obtain ⟨N1, hN1⟩ : ∃ M, d.bl.length = M := ⟨_, rfl⟩
  obtain ⟨N2, hN2⟩ : ∃ M, d'.bl.length = M := ⟨_, rfl⟩
  rw [hN1] at c141
  rw [hN2] at c241
  rw [hM1] at c135
  rw [hM2] at c235
  have K1 := hR1.hd
  have K2 := hR2.hd
  dsimp only at K1 K2
  rw [hM1] at K1
  rw [hM2] at K2
  have hMc1 := Nat.le_trans K1.cap K1.big
  have hMc2 := Nat.le_trans K2.cap K2.big
  go_enter Try.func20, Try.ntmps20
  refine wp_seq (wp_region_lit ?_)
  refine wl_box 28 _ _ rfl rfl rfl ?_
  simp only [Act.put, List.setIfInBounds_toArray, List.set_cons_zero, List.set_cons_succ]
  refine wl_box 28 _ _ rfl rfl rfl ?_
  simp only [Act.put, List.setIfInBounds_toArray, List.set_cons_zero, List.set_cons_succ]
  refine wl (.bool false) (by kernel_rfl) (by exact rfl) ?_
  simp only [Act.put, List.setIfInBounds_toArray, List.set_cons_zero, List.set_cons_succ]
  refine wpList_nil ?_
  change Code.wp _ _ _ _ _
  rw [hW1, hW2, hs1]
  simp only [List.append_eq, List.cons_append, List.nil_append]
  refine wp_seq (wp_region_lit ?_)
  refine wl (.pointer (some ⟨w.heap.size, 0, none⟩)) (by kernel_rfl) (by exact ex_field 0 0 (by exact rfl) Try.underlying28 (by exact rfl) rfl (by kernel_rfl) (by exact rfl)) ?_
  simp only [Act.put, List.setIfInBounds_toArray, List.set_cons_zero, List.set_cons_succ]
  refine wl (.int .u8 d.cls) (by kernel_rfl) (by exact ex_cell (by exact rfl) Try.underlying5 rfl (by exact rfl) c10) ?_
  simp only [Act.put, List.setIfInBounds_toArray, List.set_cons_zero, List.set_cons_succ]
  refine wl (.pointer (some ⟨w.heap.size + 1, 0, none⟩)) (by kernel_rfl) (by exact ex_field 0 0 (by exact rfl) Try.underlying28 (by exact rfl) rfl (by kernel_rfl) (by exact rfl)) ?_
  simp only [Act.put, List.setIfInBounds_toArray, List.set_cons_zero, List.set_cons_succ]
  refine wl (.int .u8 d'.cls) (by kernel_rfl) (by exact ex_cell (by exact rfl) Try.underlying5 rfl (by exact rfl) c20) ?_
  simp only [Act.put, List.setIfInBounds_toArray, List.set_cons_zero, List.set_cons_succ]
  by_cases zcls : d.cls = d'.cls
  case neg =>
    obtain rfl : V = false := by
      rw [← hV]
      refine decide_eq_false (fun h => ?_)
      exact zcls h.1
    refine wl (.bool false) (by kernel_rfl) (by exact eq_int_ne (by exact rfl) (by exact rfl) (by exact rfl) zcls) ?_
    simp only [Act.put, List.setIfInBounds_toArray, List.set_cons_zero, List.set_cons_succ]
    refine skip_ok (t' := #[.agg (d.cells ⟨hA1, hc1, ps, bA1, bc1⟩), .agg (d'.cells ⟨hA2, hc2, qs, bA2, bc2⟩), .pointer (some ⟨w.heap.size, 0, none⟩), .pointer (some ⟨w.heap.size + 1, 0, none⟩), .bool false, .bool false, .pointer (some ⟨w.heap.size, 0, none⟩), .int .u8 d.cls, .pointer (some ⟨w.heap.size + 1, 0, none⟩), .int .u8 d'.cls, .bool false, .bool false, undef, undef, undef, undef, undef, .bool false, .bool false, undef, undef, undef, undef, undef, .bool false, .bool false, undef, undef, undef, undef, undef, .bool false, .bool false, undef, undef, undef, undef, undef, .bool false, .bool false, undef, undef, undef, undef, undef, .bool false, .bool false, undef, undef, undef, undef, undef, .bool false, .bool false, undef, undef, undef, undef, undef, .bool false, .bool false, undef, undef, undef, undef, undef, .bool false, .bool false, undef, undef, undef, undef, undef, .bool false, undef, undef, undef, undef, undef, undef, undef, undef, undef, undef, undef, undef, undef, undef, undef]) _ _ (by kernel_rfl) ?_
    change Code.wp _ _ _ _ _
    go_wp2
    go_ret
    exact ⟨Tru.mk rfl, hB⟩
  case pos =>
  refine wl (.bool true) (by kernel_rfl) (by exact eq_int_eq (by exact rfl) (by exact rfl) (by exact rfl) zcls) ?_
  simp only [Act.put, List.setIfInBounds_toArray, List.set_cons_zero, List.set_cons_succ]
  refine wl (.bool true) (by kernel_rfl) (by exact rfl) ?_
  simp only [Act.put, List.setIfInBounds_toArray, List.set_cons_zero, List.set_cons_succ]
  refine wl (.pointer (some ⟨w.heap.size, 1, none⟩)) (by kernel_rfl) (by exact ex_field 1 0 (by exact rfl) Try.underlying28 (by exact rfl) rfl (by kernel_rfl) (by exact rfl)) ?_
  simp only [Act.put, List.setIfInBounds_toArray, List.set_cons_zero, List.set_cons_succ]
  refine wl (.int .u32 d.lab) (by kernel_rfl) (by exact ex_cell (by exact rfl) Try.underlying22 rfl (by exact rfl) c11) ?_
  simp only [Act.put, List.setIfInBounds_toArray, List.set_cons_zero, List.set_cons_succ]
  refine wl (.pointer (some ⟨w.heap.size + 1, 1, none⟩)) (by kernel_rfl) (by exact ex_field 1 0 (by exact rfl) Try.underlying28 (by exact rfl) rfl (by kernel_rfl) (by exact rfl)) ?_
  simp only [Act.put, List.setIfInBounds_toArray, List.set_cons_zero, List.set_cons_succ]
  refine wl (.int .u32 d'.lab) (by kernel_rfl) (by exact ex_cell (by exact rfl) Try.underlying22 rfl (by exact rfl) c21) ?_
  simp only [Act.put, List.setIfInBounds_toArray, List.set_cons_zero, List.set_cons_succ]
  by_cases zlab : d.lab = d'.lab
  case neg =>
    obtain rfl : V = false := by
      rw [← hV]
      refine decide_eq_false (fun h => ?_)
      exact zlab h.2.1
    refine wl (.bool false) (by kernel_rfl) (by exact eq_int_ne (by exact rfl) (by exact rfl) (by exact rfl) zlab) ?_
    simp only [Act.put, List.setIfInBounds_toArray, List.set_cons_zero, List.set_cons_succ]
    refine skip_ok (t' := #[.agg (d.cells ⟨hA1, hc1, ps, bA1, bc1⟩), .agg (d'.cells ⟨hA2, hc2, qs, bA2, bc2⟩), .pointer (some ⟨w.heap.size, 0, none⟩), .pointer (some ⟨w.heap.size + 1, 0, none⟩), .bool false, .bool false, .pointer (some ⟨w.heap.size, 0, none⟩), .int .u8 d.cls, .pointer (some ⟨w.heap.size + 1, 0, none⟩), .int .u8 d'.cls, .bool true, .bool true, .pointer (some ⟨w.heap.size, 1, none⟩), .int .u32 d.lab, .pointer (some ⟨w.heap.size + 1, 1, none⟩), .int .u32 d'.lab, .bool false, .bool false, .bool false, undef, undef, undef, undef, undef, .bool false, .bool false, undef, undef, undef, undef, undef, .bool false, .bool false, undef, undef, undef, undef, undef, .bool false, .bool false, undef, undef, undef, undef, undef, .bool false, .bool false, undef, undef, undef, undef, undef, .bool false, .bool false, undef, undef, undef, undef, undef, .bool false, .bool false, undef, undef, undef, undef, undef, .bool false, .bool false, undef, undef, undef, undef, undef, .bool false, undef, undef, undef, undef, undef, undef, undef, undef, undef, undef, undef, undef, undef, undef, undef]) _ _ (by kernel_rfl) ?_
    change Code.wp _ _ _ _ _
    go_wp2
    go_ret
    exact ⟨Tru.mk rfl, hB⟩
  case pos =>
  refine wl (.bool true) (by kernel_rfl) (by exact eq_int_eq (by exact rfl) (by exact rfl) (by exact rfl) zlab) ?_
  simp only [Act.put, List.setIfInBounds_toArray, List.set_cons_zero, List.set_cons_succ]
  refine wl (.bool true) (by kernel_rfl) (by exact rfl) ?_
  simp only [Act.put, List.setIfInBounds_toArray, List.set_cons_zero, List.set_cons_succ]
  refine wl (.bool true) (by kernel_rfl) (by exact rfl) ?_
  simp only [Act.put, List.setIfInBounds_toArray, List.set_cons_zero, List.set_cons_succ]
  refine wl (.pointer (some ⟨w.heap.size, 2, none⟩)) (by kernel_rfl) (by exact ex_field 2 0 (by exact rfl) Try.underlying28 (by exact rfl) rfl (by kernel_rfl) (by exact rfl)) ?_
  simp only [Act.put, List.setIfInBounds_toArray, List.set_cons_zero, List.set_cons_succ]
  refine wl (.int .u8 d.hop) (by kernel_rfl) (by exact ex_cell (by exact rfl) Try.underlying5 rfl (by exact rfl) c12) ?_
  simp only [Act.put, List.setIfInBounds_toArray, List.set_cons_zero, List.set_cons_succ]
  refine wl (.pointer (some ⟨w.heap.size + 1, 2, none⟩)) (by kernel_rfl) (by exact ex_field 2 0 (by exact rfl) Try.underlying28 (by exact rfl) rfl (by kernel_rfl) (by exact rfl)) ?_
  simp only [Act.put, List.setIfInBounds_toArray, List.set_cons_zero, List.set_cons_succ]
  refine wl (.int .u8 d'.hop) (by kernel_rfl) (by exact ex_cell (by exact rfl) Try.underlying5 rfl (by exact rfl) c22) ?_
  simp only [Act.put, List.setIfInBounds_toArray, List.set_cons_zero, List.set_cons_succ]
  by_cases zhop : d.hop = d'.hop
  case neg =>
    obtain rfl : V = false := by
      rw [← hV]
      refine decide_eq_false (fun h => ?_)
      exact zhop h.2.2.1
    refine wl (.bool false) (by kernel_rfl) (by exact eq_int_ne (by exact rfl) (by exact rfl) (by exact rfl) zhop) ?_
    simp only [Act.put, List.setIfInBounds_toArray, List.set_cons_zero, List.set_cons_succ]
    refine skip_ok (t' := #[.agg (d.cells ⟨hA1, hc1, ps, bA1, bc1⟩), .agg (d'.cells ⟨hA2, hc2, qs, bA2, bc2⟩), .pointer (some ⟨w.heap.size, 0, none⟩), .pointer (some ⟨w.heap.size + 1, 0, none⟩), .bool false, .bool false, .pointer (some ⟨w.heap.size, 0, none⟩), .int .u8 d.cls, .pointer (some ⟨w.heap.size + 1, 0, none⟩), .int .u8 d'.cls, .bool true, .bool true, .pointer (some ⟨w.heap.size, 1, none⟩), .int .u32 d.lab, .pointer (some ⟨w.heap.size + 1, 1, none⟩), .int .u32 d'.lab, .bool true, .bool true, .bool true, .pointer (some ⟨w.heap.size, 2, none⟩), .int .u8 d.hop, .pointer (some ⟨w.heap.size + 1, 2, none⟩), .int .u8 d'.hop, .bool false, .bool false, .bool false, undef, undef, undef, undef, undef, .bool false, .bool false, undef, undef, undef, undef, undef, .bool false, .bool false, undef, undef, undef, undef, undef, .bool false, .bool false, undef, undef, undef, undef, undef, .bool false, .bool false, undef, undef, undef, undef, undef, .bool false, .bool false, undef, undef, undef, undef, undef, .bool false, .bool false, undef, undef, undef, undef, undef, .bool false, undef, undef, undef, undef, undef, undef, undef, undef, undef, undef, undef, undef, undef, undef, undef]) _ _ (by kernel_rfl) ?_
    change Code.wp _ _ _ _ _
    go_wp2
    go_ret
    exact ⟨Tru.mk rfl, hB⟩
  case pos =>
  refine wl (.bool true) (by kernel_rfl) (by exact eq_int_eq (by exact rfl) (by exact rfl) (by exact rfl) zhop) ?_
  simp only [Act.put, List.setIfInBounds_toArray, List.set_cons_zero, List.set_cons_succ]
  refine wl (.bool true) (by kernel_rfl) (by exact rfl) ?_
  simp only [Act.put, List.setIfInBounds_toArray, List.set_cons_zero, List.set_cons_succ]
  refine wl (.bool true) (by kernel_rfl) (by exact rfl) ?_
  simp only [Act.put, List.setIfInBounds_toArray, List.set_cons_zero, List.set_cons_succ]
  refine wl (.pointer (some ⟨w.heap.size, 3, none⟩)) (by kernel_rfl) (by exact ex_field 3 15 (by exact rfl) Try.underlying28 (by exact rfl) rfl (by kernel_rfl) (by exact rfl)) ?_
  simp only [Act.put, List.setIfInBounds_toArray, List.set_cons_zero, List.set_cons_succ]
  refine wl (.agg (u8s d.src).toArray) (by kernel_rfl) (by exact ex_loadAt (by exact rfl) (by exact rfl) l1) ?_
  simp only [Act.put, List.setIfInBounds_toArray, List.set_cons_zero, List.set_cons_succ]
  refine wl (.pointer (some ⟨w.heap.size + 1, 3, none⟩)) (by kernel_rfl) (by exact ex_field 3 15 (by exact rfl) Try.underlying28 (by exact rfl) rfl (by kernel_rfl) (by exact rfl)) ?_
  simp only [Act.put, List.setIfInBounds_toArray, List.set_cons_zero, List.set_cons_succ]
  refine wl (.agg (u8s d'.src).toArray) (by kernel_rfl) (by exact ex_loadAt (by exact rfl) (by exact rfl) l2) ?_
  simp only [Act.put, List.setIfInBounds_toArray, List.set_cons_zero, List.set_cons_succ]
  by_cases zsrc : d.src = d'.src
  case neg =>
    obtain rfl : V = false := by
      rw [← hV]
      refine decide_eq_false (fun h => ?_)
      exact zsrc h.2.2.2.1
    refine wl (.bool false) (by kernel_rfl) (by exact ex_eq_arrN (by exact rfl) Try.underlying24 Try.underlying5 (by kernel_rfl) (by kernel_rfl) (by exact rfl) (by exact rfl) s1 s2 (by simpa using zsrc)) ?_
    simp only [Act.put, List.setIfInBounds_toArray, List.set_cons_zero, List.set_cons_succ]
    refine skip_ok (t' := #[.agg (d.cells ⟨hA1, hc1, ps, bA1, bc1⟩), .agg (d'.cells ⟨hA2, hc2, qs, bA2, bc2⟩), .pointer (some ⟨w.heap.size, 0, none⟩), .pointer (some ⟨w.heap.size + 1, 0, none⟩), .bool false, .bool false, .pointer (some ⟨w.heap.size, 0, none⟩), .int .u8 d.cls, .pointer (some ⟨w.heap.size + 1, 0, none⟩), .int .u8 d'.cls, .bool true, .bool true, .pointer (some ⟨w.heap.size, 1, none⟩), .int .u32 d.lab, .pointer (some ⟨w.heap.size + 1, 1, none⟩), .int .u32 d'.lab, .bool true, .bool true, .bool true, .pointer (some ⟨w.heap.size, 2, none⟩), .int .u8 d.hop, .pointer (some ⟨w.heap.size + 1, 2, none⟩), .int .u8 d'.hop, .bool true, .bool true, .bool true, .pointer (some ⟨w.heap.size, 3, none⟩), .agg (u8s d.src).toArray, .pointer (some ⟨w.heap.size + 1, 3, none⟩), .agg (u8s d'.src).toArray, .bool false, .bool false, .bool false, undef, undef, undef, undef, undef, .bool false, .bool false, undef, undef, undef, undef, undef, .bool false, .bool false, undef, undef, undef, undef, undef, .bool false, .bool false, undef, undef, undef, undef, undef, .bool false, .bool false, undef, undef, undef, undef, undef, .bool false, .bool false, undef, undef, undef, undef, undef, .bool false, undef, undef, undef, undef, undef, undef, undef, undef, undef, undef, undef, undef, undef, undef, undef]) _ _ (by kernel_rfl) ?_
    change Code.wp _ _ _ _ _
    go_wp2
    go_ret
    exact ⟨Tru.mk rfl, hB⟩
  case pos =>
  refine wl (.bool true) (by kernel_rfl) (by exact ex_eq_arrN (by exact rfl) Try.underlying24 Try.underlying5 (by kernel_rfl) (by kernel_rfl) (by exact rfl) (by exact rfl) s1 s2 (by simpa using zsrc)) ?_
  simp only [Act.put, List.setIfInBounds_toArray, List.set_cons_zero, List.set_cons_succ]
  refine wl (.bool true) (by kernel_rfl) (by exact rfl) ?_
  simp only [Act.put, List.setIfInBounds_toArray, List.set_cons_zero, List.set_cons_succ]
  refine wl (.bool true) (by kernel_rfl) (by exact rfl) ?_
  simp only [Act.put, List.setIfInBounds_toArray, List.set_cons_zero, List.set_cons_succ]
  refine wl (.pointer (some ⟨w.heap.size, 19, none⟩)) (by kernel_rfl) (by exact ex_field 19 15 (by exact rfl) Try.underlying28 (by exact rfl) rfl (by kernel_rfl) (by exact rfl)) ?_
  simp only [Act.put, List.setIfInBounds_toArray, List.set_cons_zero, List.set_cons_succ]
  refine wl (.agg (u8s d.dst).toArray) (by kernel_rfl) (by exact ex_loadAt (by exact rfl) (by exact rfl) l3) ?_
  simp only [Act.put, List.setIfInBounds_toArray, List.set_cons_zero, List.set_cons_succ]
  refine wl (.pointer (some ⟨w.heap.size + 1, 19, none⟩)) (by kernel_rfl) (by exact ex_field 19 15 (by exact rfl) Try.underlying28 (by exact rfl) rfl (by kernel_rfl) (by exact rfl)) ?_
  simp only [Act.put, List.setIfInBounds_toArray, List.set_cons_zero, List.set_cons_succ]
  refine wl (.agg (u8s d'.dst).toArray) (by kernel_rfl) (by exact ex_loadAt (by exact rfl) (by exact rfl) l4) ?_
  simp only [Act.put, List.setIfInBounds_toArray, List.set_cons_zero, List.set_cons_succ]
  by_cases zdst : d.dst = d'.dst
  case neg =>
    obtain rfl : V = false := by
      rw [← hV]
      refine decide_eq_false (fun h => ?_)
      exact zdst h.2.2.2.2.1
    refine wl (.bool false) (by kernel_rfl) (by exact ex_eq_arrN (by exact rfl) Try.underlying24 Try.underlying5 (by kernel_rfl) (by kernel_rfl) (by exact rfl) (by exact rfl) s3 s4 (by simpa using zdst)) ?_
    simp only [Act.put, List.setIfInBounds_toArray, List.set_cons_zero, List.set_cons_succ]
    refine skip_ok (t' := #[.agg (d.cells ⟨hA1, hc1, ps, bA1, bc1⟩), .agg (d'.cells ⟨hA2, hc2, qs, bA2, bc2⟩), .pointer (some ⟨w.heap.size, 0, none⟩), .pointer (some ⟨w.heap.size + 1, 0, none⟩), .bool false, .bool false, .pointer (some ⟨w.heap.size, 0, none⟩), .int .u8 d.cls, .pointer (some ⟨w.heap.size + 1, 0, none⟩), .int .u8 d'.cls, .bool true, .bool true, .pointer (some ⟨w.heap.size, 1, none⟩), .int .u32 d.lab, .pointer (some ⟨w.heap.size + 1, 1, none⟩), .int .u32 d'.lab, .bool true, .bool true, .bool true, .pointer (some ⟨w.heap.size, 2, none⟩), .int .u8 d.hop, .pointer (some ⟨w.heap.size + 1, 2, none⟩), .int .u8 d'.hop, .bool true, .bool true, .bool true, .pointer (some ⟨w.heap.size, 3, none⟩), .agg (u8s d.src).toArray, .pointer (some ⟨w.heap.size + 1, 3, none⟩), .agg (u8s d'.src).toArray, .bool true, .bool true, .bool true, .pointer (some ⟨w.heap.size, 19, none⟩), .agg (u8s d.dst).toArray, .pointer (some ⟨w.heap.size + 1, 19, none⟩), .agg (u8s d'.dst).toArray, .bool false, .bool false, .bool false, undef, undef, undef, undef, undef, .bool false, .bool false, undef, undef, undef, undef, undef, .bool false, .bool false, undef, undef, undef, undef, undef, .bool false, .bool false, undef, undef, undef, undef, undef, .bool false, .bool false, undef, undef, undef, undef, undef, .bool false, undef, undef, undef, undef, undef, undef, undef, undef, undef, undef, undef, undef, undef, undef, undef]) _ _ (by kernel_rfl) ?_
    change Code.wp _ _ _ _ _
    go_wp2
    go_ret
    exact ⟨Tru.mk rfl, hB⟩
  case pos =>
  refine wl (.bool true) (by kernel_rfl) (by exact ex_eq_arrN (by exact rfl) Try.underlying24 Try.underlying5 (by kernel_rfl) (by kernel_rfl) (by exact rfl) (by exact rfl) s3 s4 (by simpa using zdst)) ?_
  simp only [Act.put, List.setIfInBounds_toArray, List.set_cons_zero, List.set_cons_succ]
  refine wl (.bool true) (by kernel_rfl) (by exact rfl) ?_
  simp only [Act.put, List.setIfInBounds_toArray, List.set_cons_zero, List.set_cons_succ]
  refine wl (.bool true) (by kernel_rfl) (by exact rfl) ?_
  simp only [Act.put, List.setIfInBounds_toArray, List.set_cons_zero, List.set_cons_succ]
  refine wl (.pointer (some ⟨w.heap.size, 36, none⟩)) (by kernel_rfl) (by exact ex_field 36 0 (by exact rfl) Try.underlying28 (by exact rfl) rfl (by kernel_rfl) (by exact rfl)) ?_
  simp only [Act.put, List.setIfInBounds_toArray, List.set_cons_zero, List.set_cons_succ]
  refine wl (.bool d.frag) (by kernel_rfl) (by exact ex_cell (by exact rfl) Try.underlying4 rfl (by exact rfl) c136) ?_
  simp only [Act.put, List.setIfInBounds_toArray, List.set_cons_zero, List.set_cons_succ]
  refine wl (.pointer (some ⟨w.heap.size + 1, 36, none⟩)) (by kernel_rfl) (by exact ex_field 36 0 (by exact rfl) Try.underlying28 (by exact rfl) rfl (by kernel_rfl) (by exact rfl)) ?_
  simp only [Act.put, List.setIfInBounds_toArray, List.set_cons_zero, List.set_cons_succ]
  refine wl (.bool d'.frag) (by kernel_rfl) (by exact ex_cell (by exact rfl) Try.underlying4 rfl (by exact rfl) c236) ?_
  simp only [Act.put, List.setIfInBounds_toArray, List.set_cons_zero, List.set_cons_succ]
  by_cases zfrag : d.frag = d'.frag
  case neg =>
    obtain rfl : V = false := by
      rw [← hV]
      refine decide_eq_false (fun h => ?_)
      exact zfrag h.2.2.2.2.2.1
    refine wl (.bool false) (by kernel_rfl) (by exact ex_eq_bool6 (by exact rfl) Try.underlying4 (by exact rfl) (by exact rfl) (by simpa using zfrag)) ?_
    simp only [Act.put, List.setIfInBounds_toArray, List.set_cons_zero, List.set_cons_succ]
    refine skip_ok (t' := #[.agg (d.cells ⟨hA1, hc1, ps, bA1, bc1⟩), .agg (d'.cells ⟨hA2, hc2, qs, bA2, bc2⟩), .pointer (some ⟨w.heap.size, 0, none⟩), .pointer (some ⟨w.heap.size + 1, 0, none⟩), .bool false, .bool false, .pointer (some ⟨w.heap.size, 0, none⟩), .int .u8 d.cls, .pointer (some ⟨w.heap.size + 1, 0, none⟩), .int .u8 d'.cls, .bool true, .bool true, .pointer (some ⟨w.heap.size, 1, none⟩), .int .u32 d.lab, .pointer (some ⟨w.heap.size + 1, 1, none⟩), .int .u32 d'.lab, .bool true, .bool true, .bool true, .pointer (some ⟨w.heap.size, 2, none⟩), .int .u8 d.hop, .pointer (some ⟨w.heap.size + 1, 2, none⟩), .int .u8 d'.hop, .bool true, .bool true, .bool true, .pointer (some ⟨w.heap.size, 3, none⟩), .agg (u8s d.src).toArray, .pointer (some ⟨w.heap.size + 1, 3, none⟩), .agg (u8s d'.src).toArray, .bool true, .bool true, .bool true, .pointer (some ⟨w.heap.size, 19, none⟩), .agg (u8s d.dst).toArray, .pointer (some ⟨w.heap.size + 1, 19, none⟩), .agg (u8s d'.dst).toArray, .bool true, .bool true, .bool true, .pointer (some ⟨w.heap.size, 36, none⟩), .bool d.frag, .pointer (some ⟨w.heap.size + 1, 36, none⟩), .bool d'.frag, .bool false, .bool false, .bool false, undef, undef, undef, undef, undef, .bool false, .bool false, undef, undef, undef, undef, undef, .bool false, .bool false, undef, undef, undef, undef, undef, .bool false, .bool false, undef, undef, undef, undef, undef, .bool false, undef, undef, undef, undef, undef, undef, undef, undef, undef, undef, undef, undef, undef, undef, undef]) _ _ (by kernel_rfl) ?_
    change Code.wp _ _ _ _ _
    go_wp2
    go_ret
    exact ⟨Tru.mk rfl, hB⟩
  case pos =>
  refine wl (.bool true) (by kernel_rfl) (by exact ex_eq_bool6 (by exact rfl) Try.underlying4 (by exact rfl) (by exact rfl) (by simpa using zfrag)) ?_
  simp only [Act.put, List.setIfInBounds_toArray, List.set_cons_zero, List.set_cons_succ]
  refine wl (.bool true) (by kernel_rfl) (by exact rfl) ?_
  simp only [Act.put, List.setIfInBounds_toArray, List.set_cons_zero, List.set_cons_succ]
  refine wl (.bool true) (by kernel_rfl) (by exact rfl) ?_
  simp only [Act.put, List.setIfInBounds_toArray, List.set_cons_zero, List.set_cons_succ]
  refine wl (.pointer (some ⟨w.heap.size, 37, none⟩)) (by kernel_rfl) (by exact ex_field 37 0 (by exact rfl) Try.underlying28 (by exact rfl) rfl (by kernel_rfl) (by exact rfl)) ?_
  simp only [Act.put, List.setIfInBounds_toArray, List.set_cons_zero, List.set_cons_succ]
  refine wl (.int .u32 d.id) (by kernel_rfl) (by exact ex_cell (by exact rfl) Try.underlying22 rfl (by exact rfl) c137) ?_
  simp only [Act.put, List.setIfInBounds_toArray, List.set_cons_zero, List.set_cons_succ]
  refine wl (.pointer (some ⟨w.heap.size + 1, 37, none⟩)) (by kernel_rfl) (by exact ex_field 37 0 (by exact rfl) Try.underlying28 (by exact rfl) rfl (by kernel_rfl) (by exact rfl)) ?_
  simp only [Act.put, List.setIfInBounds_toArray, List.set_cons_zero, List.set_cons_succ]
  refine wl (.int .u32 d'.id) (by kernel_rfl) (by exact ex_cell (by exact rfl) Try.underlying22 rfl (by exact rfl) c237) ?_
  simp only [Act.put, List.setIfInBounds_toArray, List.set_cons_zero, List.set_cons_succ]
  by_cases zid : d.id = d'.id
  case neg =>
    obtain rfl : V = false := by
      rw [← hV]
      refine decide_eq_false (fun h => ?_)
      exact zid h.2.2.2.2.2.2.1
    refine wl (.bool false) (by kernel_rfl) (by exact eq_int_ne (by exact rfl) (by exact rfl) (by exact rfl) zid) ?_
    simp only [Act.put, List.setIfInBounds_toArray, List.set_cons_zero, List.set_cons_succ]
    refine skip_ok (t' := #[.agg (d.cells ⟨hA1, hc1, ps, bA1, bc1⟩), .agg (d'.cells ⟨hA2, hc2, qs, bA2, bc2⟩), .pointer (some ⟨w.heap.size, 0, none⟩), .pointer (some ⟨w.heap.size + 1, 0, none⟩), .bool false, .bool false, .pointer (some ⟨w.heap.size, 0, none⟩), .int .u8 d.cls, .pointer (some ⟨w.heap.size + 1, 0, none⟩), .int .u8 d'.cls, .bool true, .bool true, .pointer (some ⟨w.heap.size, 1, none⟩), .int .u32 d.lab, .pointer (some ⟨w.heap.size + 1, 1, none⟩), .int .u32 d'.lab, .bool true, .bool true, .bool true, .pointer (some ⟨w.heap.size, 2, none⟩), .int .u8 d.hop, .pointer (some ⟨w.heap.size + 1, 2, none⟩), .int .u8 d'.hop, .bool true, .bool true, .bool true, .pointer (some ⟨w.heap.size, 3, none⟩), .agg (u8s d.src).toArray, .pointer (some ⟨w.heap.size + 1, 3, none⟩), .agg (u8s d'.src).toArray, .bool true, .bool true, .bool true, .pointer (some ⟨w.heap.size, 19, none⟩), .agg (u8s d.dst).toArray, .pointer (some ⟨w.heap.size + 1, 19, none⟩), .agg (u8s d'.dst).toArray, .bool true, .bool true, .bool true, .pointer (some ⟨w.heap.size, 36, none⟩), .bool d.frag, .pointer (some ⟨w.heap.size + 1, 36, none⟩), .bool d'.frag, .bool true, .bool true, .bool true, .pointer (some ⟨w.heap.size, 37, none⟩), .int .u32 d.id, .pointer (some ⟨w.heap.size + 1, 37, none⟩), .int .u32 d'.id, .bool false, .bool false, .bool false, undef, undef, undef, undef, undef, .bool false, .bool false, undef, undef, undef, undef, undef, .bool false, .bool false, undef, undef, undef, undef, undef, .bool false, undef, undef, undef, undef, undef, undef, undef, undef, undef, undef, undef, undef, undef, undef, undef]) _ _ (by kernel_rfl) ?_
    change Code.wp _ _ _ _ _
    go_wp2
    go_ret
    exact ⟨Tru.mk rfl, hB⟩
  case pos =>
  refine wl (.bool true) (by kernel_rfl) (by exact eq_int_eq (by exact rfl) (by exact rfl) (by exact rfl) zid) ?_
  simp only [Act.put, List.setIfInBounds_toArray, List.set_cons_zero, List.set_cons_succ]
  refine wl (.bool true) (by kernel_rfl) (by exact rfl) ?_
  simp only [Act.put, List.setIfInBounds_toArray, List.set_cons_zero, List.set_cons_succ]
  refine wl (.bool true) (by kernel_rfl) (by exact rfl) ?_
  simp only [Act.put, List.setIfInBounds_toArray, List.set_cons_zero, List.set_cons_succ]
  refine wl (.pointer (some ⟨w.heap.size, 38, none⟩)) (by kernel_rfl) (by exact ex_field 38 0 (by exact rfl) Try.underlying28 (by exact rfl) rfl (by kernel_rfl) (by exact rfl)) ?_
  simp only [Act.put, List.setIfInBounds_toArray, List.set_cons_zero, List.set_cons_succ]
  refine wl (.int .i64 d.off) (by kernel_rfl) (by exact ex_cell (by exact rfl) Try.underlying3 rfl (by exact rfl) c138) ?_
  simp only [Act.put, List.setIfInBounds_toArray, List.set_cons_zero, List.set_cons_succ]
  refine wl (.pointer (some ⟨w.heap.size + 1, 38, none⟩)) (by kernel_rfl) (by exact ex_field 38 0 (by exact rfl) Try.underlying28 (by exact rfl) rfl (by kernel_rfl) (by exact rfl)) ?_
  simp only [Act.put, List.setIfInBounds_toArray, List.set_cons_zero, List.set_cons_succ]
  refine wl (.int .i64 d'.off) (by kernel_rfl) (by exact ex_cell (by exact rfl) Try.underlying3 rfl (by exact rfl) c238) ?_
  simp only [Act.put, List.setIfInBounds_toArray, List.set_cons_zero, List.set_cons_succ]
  by_cases zoff : d.off = d'.off
  case neg =>
    obtain rfl : V = false := by
      rw [← hV]
      refine decide_eq_false (fun h => ?_)
      exact zoff h.2.2.2.2.2.2.2.1
    refine wl (.bool false) (by kernel_rfl) (by exact eq_int_ne (by exact rfl) (by exact rfl) (by exact rfl) zoff) ?_
    simp only [Act.put, List.setIfInBounds_toArray, List.set_cons_zero, List.set_cons_succ]
    refine skip_ok (t' := #[.agg (d.cells ⟨hA1, hc1, ps, bA1, bc1⟩), .agg (d'.cells ⟨hA2, hc2, qs, bA2, bc2⟩), .pointer (some ⟨w.heap.size, 0, none⟩), .pointer (some ⟨w.heap.size + 1, 0, none⟩), .bool false, .bool false, .pointer (some ⟨w.heap.size, 0, none⟩), .int .u8 d.cls, .pointer (some ⟨w.heap.size + 1, 0, none⟩), .int .u8 d'.cls, .bool true, .bool true, .pointer (some ⟨w.heap.size, 1, none⟩), .int .u32 d.lab, .pointer (some ⟨w.heap.size + 1, 1, none⟩), .int .u32 d'.lab, .bool true, .bool true, .bool true, .pointer (some ⟨w.heap.size, 2, none⟩), .int .u8 d.hop, .pointer (some ⟨w.heap.size + 1, 2, none⟩), .int .u8 d'.hop, .bool true, .bool true, .bool true, .pointer (some ⟨w.heap.size, 3, none⟩), .agg (u8s d.src).toArray, .pointer (some ⟨w.heap.size + 1, 3, none⟩), .agg (u8s d'.src).toArray, .bool true, .bool true, .bool true, .pointer (some ⟨w.heap.size, 19, none⟩), .agg (u8s d.dst).toArray, .pointer (some ⟨w.heap.size + 1, 19, none⟩), .agg (u8s d'.dst).toArray, .bool true, .bool true, .bool true, .pointer (some ⟨w.heap.size, 36, none⟩), .bool d.frag, .pointer (some ⟨w.heap.size + 1, 36, none⟩), .bool d'.frag, .bool true, .bool true, .bool true, .pointer (some ⟨w.heap.size, 37, none⟩), .int .u32 d.id, .pointer (some ⟨w.heap.size + 1, 37, none⟩), .int .u32 d'.id, .bool true, .bool true, .bool true, .pointer (some ⟨w.heap.size, 38, none⟩), .int .i64 d.off, .pointer (some ⟨w.heap.size + 1, 38, none⟩), .int .i64 d'.off, .bool false, .bool false, .bool false, undef, undef, undef, undef, undef, .bool false, .bool false, undef, undef, undef, undef, undef, .bool false, undef, undef, undef, undef, undef, undef, undef, undef, undef, undef, undef, undef, undef, undef, undef]) _ _ (by kernel_rfl) ?_
    change Code.wp _ _ _ _ _
    go_wp2
    go_ret
    exact ⟨Tru.mk rfl, hB⟩
  case pos =>
  refine wl (.bool true) (by kernel_rfl) (by exact eq_int_eq (by exact rfl) (by exact rfl) (by exact rfl) zoff) ?_
  simp only [Act.put, List.setIfInBounds_toArray, List.set_cons_zero, List.set_cons_succ]
  refine wl (.bool true) (by kernel_rfl) (by exact rfl) ?_
  simp only [Act.put, List.setIfInBounds_toArray, List.set_cons_zero, List.set_cons_succ]
  refine wl (.bool true) (by kernel_rfl) (by exact rfl) ?_
  simp only [Act.put, List.setIfInBounds_toArray, List.set_cons_zero, List.set_cons_succ]
  refine wl (.pointer (some ⟨w.heap.size, 39, none⟩)) (by kernel_rfl) (by exact ex_field 39 0 (by exact rfl) Try.underlying28 (by exact rfl) rfl (by kernel_rfl) (by exact rfl)) ?_
  simp only [Act.put, List.setIfInBounds_toArray, List.set_cons_zero, List.set_cons_succ]
  refine wl (.bool d.more) (by kernel_rfl) (by exact ex_cell (by exact rfl) Try.underlying4 rfl (by exact rfl) c139) ?_
  simp only [Act.put, List.setIfInBounds_toArray, List.set_cons_zero, List.set_cons_succ]
  refine wl (.pointer (some ⟨w.heap.size + 1, 39, none⟩)) (by kernel_rfl) (by exact ex_field 39 0 (by exact rfl) Try.underlying28 (by exact rfl) rfl (by kernel_rfl) (by exact rfl)) ?_
  simp only [Act.put, List.setIfInBounds_toArray, List.set_cons_zero, List.set_cons_succ]
  refine wl (.bool d'.more) (by kernel_rfl) (by exact ex_cell (by exact rfl) Try.underlying4 rfl (by exact rfl) c239) ?_
  simp only [Act.put, List.setIfInBounds_toArray, List.set_cons_zero, List.set_cons_succ]
  by_cases zmore : d.more = d'.more
  case neg =>
    obtain rfl : V = false := by
      rw [← hV]
      refine decide_eq_false (fun h => ?_)
      exact zmore h.2.2.2.2.2.2.2.2.1
    refine wl (.bool false) (by kernel_rfl) (by exact ex_eq_bool6 (by exact rfl) Try.underlying4 (by exact rfl) (by exact rfl) (by simpa using zmore)) ?_
    simp only [Act.put, List.setIfInBounds_toArray, List.set_cons_zero, List.set_cons_succ]
    refine skip_ok (t' := #[.agg (d.cells ⟨hA1, hc1, ps, bA1, bc1⟩), .agg (d'.cells ⟨hA2, hc2, qs, bA2, bc2⟩), .pointer (some ⟨w.heap.size, 0, none⟩), .pointer (some ⟨w.heap.size + 1, 0, none⟩), .bool false, .bool false, .pointer (some ⟨w.heap.size, 0, none⟩), .int .u8 d.cls, .pointer (some ⟨w.heap.size + 1, 0, none⟩), .int .u8 d'.cls, .bool true, .bool true, .pointer (some ⟨w.heap.size, 1, none⟩), .int .u32 d.lab, .pointer (some ⟨w.heap.size + 1, 1, none⟩), .int .u32 d'.lab, .bool true, .bool true, .bool true, .pointer (some ⟨w.heap.size, 2, none⟩), .int .u8 d.hop, .pointer (some ⟨w.heap.size + 1, 2, none⟩), .int .u8 d'.hop, .bool true, .bool true, .bool true, .pointer (some ⟨w.heap.size, 3, none⟩), .agg (u8s d.src).toArray, .pointer (some ⟨w.heap.size + 1, 3, none⟩), .agg (u8s d'.src).toArray, .bool true, .bool true, .bool true, .pointer (some ⟨w.heap.size, 19, none⟩), .agg (u8s d.dst).toArray, .pointer (some ⟨w.heap.size + 1, 19, none⟩), .agg (u8s d'.dst).toArray, .bool true, .bool true, .bool true, .pointer (some ⟨w.heap.size, 36, none⟩), .bool d.frag, .pointer (some ⟨w.heap.size + 1, 36, none⟩), .bool d'.frag, .bool true, .bool true, .bool true, .pointer (some ⟨w.heap.size, 37, none⟩), .int .u32 d.id, .pointer (some ⟨w.heap.size + 1, 37, none⟩), .int .u32 d'.id, .bool true, .bool true, .bool true, .pointer (some ⟨w.heap.size, 38, none⟩), .int .i64 d.off, .pointer (some ⟨w.heap.size + 1, 38, none⟩), .int .i64 d'.off, .bool true, .bool true, .bool true, .pointer (some ⟨w.heap.size, 39, none⟩), .bool d.more, .pointer (some ⟨w.heap.size + 1, 39, none⟩), .bool d'.more, .bool false, .bool false, .bool false, undef, undef, undef, undef, undef, .bool false, undef, undef, undef, undef, undef, undef, undef, undef, undef, undef, undef, undef, undef, undef, undef]) _ _ (by kernel_rfl) ?_
    change Code.wp _ _ _ _ _
    go_wp2
    go_ret
    exact ⟨Tru.mk rfl, hB⟩
  case pos =>
  refine wl (.bool true) (by kernel_rfl) (by exact ex_eq_bool6 (by exact rfl) Try.underlying4 (by exact rfl) (by exact rfl) (by simpa using zmore)) ?_
  simp only [Act.put, List.setIfInBounds_toArray, List.set_cons_zero, List.set_cons_succ]
  refine wl (.bool true) (by kernel_rfl) (by exact rfl) ?_
  simp only [Act.put, List.setIfInBounds_toArray, List.set_cons_zero, List.set_cons_succ]
  refine wl (.bool true) (by kernel_rfl) (by exact rfl) ?_
  simp only [Act.put, List.setIfInBounds_toArray, List.set_cons_zero, List.set_cons_succ]
  refine wl (.pointer (some ⟨w.heap.size, 40, none⟩)) (by kernel_rfl) (by exact ex_field 40 0 (by exact rfl) Try.underlying28 (by exact rfl) rfl (by kernel_rfl) (by exact rfl)) ?_
  simp only [Act.put, List.setIfInBounds_toArray, List.set_cons_zero, List.set_cons_succ]
  refine wl (.int .u8 d.pro) (by kernel_rfl) (by exact ex_cell (by exact rfl) Try.underlying5 rfl (by exact rfl) c140) ?_
  simp only [Act.put, List.setIfInBounds_toArray, List.set_cons_zero, List.set_cons_succ]
  refine wl (.pointer (some ⟨w.heap.size + 1, 40, none⟩)) (by kernel_rfl) (by exact ex_field 40 0 (by exact rfl) Try.underlying28 (by exact rfl) rfl (by kernel_rfl) (by exact rfl)) ?_
  simp only [Act.put, List.setIfInBounds_toArray, List.set_cons_zero, List.set_cons_succ]
  refine wl (.int .u8 d'.pro) (by kernel_rfl) (by exact ex_cell (by exact rfl) Try.underlying5 rfl (by exact rfl) c240) ?_
  simp only [Act.put, List.setIfInBounds_toArray, List.set_cons_zero, List.set_cons_succ]
  by_cases zpro : d.pro = d'.pro
  case neg =>
    obtain rfl : V = false := by
      rw [← hV]
      refine decide_eq_false (fun h => ?_)
      exact zpro h.2.2.2.2.2.2.2.2.2.1
    refine wl (.bool false) (by kernel_rfl) (by exact eq_int_ne (by exact rfl) (by exact rfl) (by exact rfl) zpro) ?_
    simp only [Act.put, List.setIfInBounds_toArray, List.set_cons_zero, List.set_cons_succ]
    refine skip_ok (t' := #[.agg (d.cells ⟨hA1, hc1, ps, bA1, bc1⟩), .agg (d'.cells ⟨hA2, hc2, qs, bA2, bc2⟩), .pointer (some ⟨w.heap.size, 0, none⟩), .pointer (some ⟨w.heap.size + 1, 0, none⟩), .bool false, .bool false, .pointer (some ⟨w.heap.size, 0, none⟩), .int .u8 d.cls, .pointer (some ⟨w.heap.size + 1, 0, none⟩), .int .u8 d'.cls, .bool true, .bool true, .pointer (some ⟨w.heap.size, 1, none⟩), .int .u32 d.lab, .pointer (some ⟨w.heap.size + 1, 1, none⟩), .int .u32 d'.lab, .bool true, .bool true, .bool true, .pointer (some ⟨w.heap.size, 2, none⟩), .int .u8 d.hop, .pointer (some ⟨w.heap.size + 1, 2, none⟩), .int .u8 d'.hop, .bool true, .bool true, .bool true, .pointer (some ⟨w.heap.size, 3, none⟩), .agg (u8s d.src).toArray, .pointer (some ⟨w.heap.size + 1, 3, none⟩), .agg (u8s d'.src).toArray, .bool true, .bool true, .bool true, .pointer (some ⟨w.heap.size, 19, none⟩), .agg (u8s d.dst).toArray, .pointer (some ⟨w.heap.size + 1, 19, none⟩), .agg (u8s d'.dst).toArray, .bool true, .bool true, .bool true, .pointer (some ⟨w.heap.size, 36, none⟩), .bool d.frag, .pointer (some ⟨w.heap.size + 1, 36, none⟩), .bool d'.frag, .bool true, .bool true, .bool true, .pointer (some ⟨w.heap.size, 37, none⟩), .int .u32 d.id, .pointer (some ⟨w.heap.size + 1, 37, none⟩), .int .u32 d'.id, .bool true, .bool true, .bool true, .pointer (some ⟨w.heap.size, 38, none⟩), .int .i64 d.off, .pointer (some ⟨w.heap.size + 1, 38, none⟩), .int .i64 d'.off, .bool true, .bool true, .bool true, .pointer (some ⟨w.heap.size, 39, none⟩), .bool d.more, .pointer (some ⟨w.heap.size + 1, 39, none⟩), .bool d'.more, .bool true, .bool true, .bool true, .pointer (some ⟨w.heap.size, 40, none⟩), .int .u8 d.pro, .pointer (some ⟨w.heap.size + 1, 40, none⟩), .int .u8 d'.pro, .bool false, .bool false, undef, undef, undef, undef, undef, undef, undef, undef, undef, undef, undef, undef, undef, undef, undef]) _ _ (by kernel_rfl) ?_
    change Code.wp _ _ _ _ _
    go_wp2
    go_ret
    exact ⟨Tru.mk rfl, hB⟩
  case pos =>
  refine wl (.bool true) (by kernel_rfl) (by exact eq_int_eq (by exact rfl) (by exact rfl) (by exact rfl) zpro) ?_
  simp only [Act.put, List.setIfInBounds_toArray, List.set_cons_zero, List.set_cons_succ]
  refine wl (.bool true) (by kernel_rfl) (by exact rfl) ?_
  simp only [Act.put, List.setIfInBounds_toArray, List.set_cons_zero, List.set_cons_succ]
  refine wl (.bool true) (by kernel_rfl) (by exact rfl) ?_
  simp only [Act.put, List.setIfInBounds_toArray, List.set_cons_zero, List.set_cons_succ]
  refine wpList_nil ?_
  have hVv : Hid (decide (d.bl = d'.bl ∧ d.hs = d'.hs) = V) := Lib.hid (by
    rw [← hV, same6, Bool.eq_iff_iff, decide_eq_true_eq, decide_eq_true_eq]
    exact ⟨fun h => ⟨zcls, zlab, zhop, zsrc, zdst, zfrag, zid, zoff, zmore, zpro, h.1, h.2⟩, fun h => ⟨h.2.2.2.2.2.2.2.2.2.2.1, h.2.2.2.2.2.2.2.2.2.2.2⟩⟩)
  have hkl1 : kdL ps = d.hs := hR.hl
  have hkl2 : kdL qs = d'.hs := hR'.hl
  have k1 := Lib.hid (equal_any _ _ bA1 bA2 bc1 bc2 d.bl d'.bl W2 hR1.body hR2.body)
  rw [hN1, hN2] at k1
  have k2 := Lib.hid (eqf_any hA1 hA2 M1 M2 hc1 hc2 ps qs W2 K1 K2)
  rw [hkl1, hkl2] at k2
  clear hV hM1 hM2 hN1 hN2 hR hR' hR1 hR2 l1 l2 l3 l4 c10 c20 c11 c21 c12 c22 c136 c236 c137 c237 c138 c238 c139 c239 c140 c240 hW1 hW2 zcls zlab zhop zsrc zdst zfrag zid zoff zmore zpro K1 K2
  change Code.wp _ _ _ _ _
  go_wp2_with fail
  refine k1.out.mono ?_
  rintro e w3 ⟨rfl, hw3⟩
  obtain rfl : W2 = w3 := hw3
  clear k1
  by_cases hbl : d.bl = d'.bl
  case neg =>
    obtain rfl : V = false := by rw [← hVv.out]; exact decide_eq_false (fun h => hbl h.1)
    rw [decide_eq_false hbl]
    clear hVv k2 hbl
    go_wp2
    go_ret
    exact ⟨Tru.mk rfl, hB⟩
  case pos =>
    have hVw : Hid (decide (d.hs = d'.hs) = V) := Lib.hid (by rw [← hVv.out]; simp [hbl])
    rw [decide_eq_true hbl]
    clear hVv hbl
    go_wp2_with fail
    refine k2.out.mono ?_
    rintro e w4 ⟨⟨q, rfl, hq⟩, hb⟩
    clear k2
    go_wp2
    go_ret
    exact ⟨Tru.mk (hq.out.trans hVw.out), hB.trans (hb.mono hB.size)⟩
end Go.Proofs.Ytndmmkadceobjaa
