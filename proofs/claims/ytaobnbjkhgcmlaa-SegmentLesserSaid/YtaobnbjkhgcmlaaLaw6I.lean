/-
  The walk of SegmentLesser.
-/
import Derived.Test.YtaobnbjkhgcmlaaP6L
import Derived.Test.YtaobnbjkhgcmlaaLaw6A
import Derived.Test.YtaobnbjkhgcmlaaSg1
namespace Go.Proofs.Ytaobnbjkhgcmlaa
open Go.RowKit Go.Shelf

set_option maxRecDepth 100000 in
set_option maxHeartbeats 8000000 in
theorem lesser_walk (t : DT) (p : WT) (most : Int) (w : World) (rt : RdT w.heap.size w t p) (hs1 : t.ol.length ≤ 140737488355328) (hs2 : t.bl.length ≤ 140737488355328) (hm : -9223372036854775808 ≤ most ∧ most ≤ 9223372036854775807) :
    Calls Try.prog 9 #[.agg (t.cells p), .int .i64 most] w fun e w' => e = .returned (.bool true) ∧ Below w.heap.size w w' := by
  have hT : Has (w.alloc (.cells (t.cells p) 26)) w.heap.size (.cells (t.cells p) 26 (0, 0)) := Has.newAt rfl
  have hB : Below w.heap.size w (w.alloc (.cells (t.cells p) 26)) := (Below.refl _ _).alloc (Nat.le_refl _) _
  have f1 := mssOk_clamp t most
  have f2 := mssVal_clamp t most rt.ok rt.opt.rng
  have f3 := unl_clamp t most
  have f4 := clamp_len t most
  have f5 := clamp_back t most
  have f6 : clampQ t most = decide (mssOk t = true ∧ most < mssVal t) := rfl
  obtain ⟨D, hD⟩ : ∃ D, clampD t most = D := ⟨_, rfl⟩
  obtain ⟨Q, hQ⟩ : ∃ Q, clampQ t most = Q := ⟨_, rfl⟩
  rw [hD] at f1 f2 f3 f4 f5
  rw [hQ] at f3 f6
  have hDH := Lib.hid hD
  have hQH := Lib.hid hQ
  replace f1 := Lib.hid f1
  replace f2 := Lib.hid f2
  replace f3 := Lib.hid f3
  replace f4 := Lib.hid f4
  replace f5 := Lib.hid f5
  replace f6 := Lib.hid f6
  have hvr : Hid (0 ≤ mssVal t) := Lib.hid (by unfold mssVal; split; exact Int.le_refl _; exact (be2_rng rt.opt.rng _).1)
  clear hD hQ
  go_enter Try.func9, Try.ntmps9
  go_wp2_with fail
  refine (awake_any _).mono ?_
  rintro e w0 ⟨rfl, hb⟩
  have hT := hT.below hb hT.lt
  have hB := hB.trans (hb.mono hB.size)
  clear hb
  go_wp2_with (refine wpList_load_row rfl 26 (.tmp 2) rfl w.heap.size rfl 26 (t.cells p) (0, 0) _ hT Try.underlying26 rfl tcp_info ?_)
  refine (mss_any t p _ ((rt.below hB (Nat.le_refl _)).more hB.size) hs1).mono ?_
  rintro e w1 ⟨⟨n, q, rfl, hnq⟩, hb⟩
  have hT := hT.below hb hT.lt
  have hB := hB.trans (hb.mono hB.size)
  clear hb
  go_wp2_with (refine wpList_load_row rfl 26 (.tmp 2) rfl w.heap.size rfl 26 (t.cells p) (0, 0) _ hT Try.underlying26 rfl tcp_info ?_)
  refine (clamp_any t p most _ ((rt.below hB (Nat.le_refl _)).more hB.size) hs1 hs2 hm).mono ?_
  rw [hDH.out, hQH.out]
  rintro e w3 ⟨p9, rfl, hR, hb⟩
  have hg9 : w.heap.size < w3.heap.size := Nat.lt_of_lt_of_le hT.lt hb.size
  have hN : Has (w3.alloc (.cells #[.int .u16 0, .int .u16 0, .int .u32 0, .int .u32 0, .int .u8 0, .int .u16 0, .int .u16 0, .slice none 0 0, .slice none 0 0] 26)) w3.heap.size (.cells #[.int .u16 0, .int .u16 0, .int .u32 0, .int .u32 0, .int .u8 0, .int .u16 0, .int .u16 0, .slice none 0 0, .slice none 0 0] 26 (0, 0)) := Has.newAt rfl
  have hnew := KT.new (cs := #[.int .u16 0, .int .u16 0, .int .u32 0, .int .u32 0, .int .u8 0, .int .u16 0, .int .u16 0, .slice none 0 0, .slice none 0 0]) hR.opt hR.body
  have hT := (hT.below hb hT.lt).below hnew.2 (Nat.lt_of_lt_of_le hT.lt hb.size)
  have hB := (hB.trans (hb.mono hB.size)).trans (hnew.2.mono (Nat.le_trans hB.size hb.size))
  have k9 := hnew.1
  have hDok := Lib.hid hR.ok
  have hbd := hR.body.below hnew.2 (Nat.le_refl _)
  clear hb hnew hR
  go_wp2_with (first | (refine wpList_store_row rfl 26 (.tmp 7) (.tmp 24) rfl w3.heap.size _ rfl rfl 26 _ hN tcp_info rfl (by simp [DT.cells, Value.oneCell']) ?_) | (refine wpList_load_row rfl 26 (.tmp 7) rfl w3.heap.size rfl 26 (D.cells p9) (0, 0) _ k9.has Try.underlying26 rfl tcp_info ?_))
  clear hN
  generalize (w3.alloc (.cells #[.int .u16 0, .int .u16 0, .int .u32 0, .int .u32 0, .int .u8 0, .int .u16 0, .int .u16 0, .slice none 0 0, .slice none 0 0] 26)).setRow w3.heap.size (D.cells p9) = W3 at hT hB k9 hbd ⊢
  generalize w3.heap.size = g9 at k9 hg9 hbd ⊢
  refine (mss_any D p9 _ ⟨hDok.out, k9.opt, k9.row⟩ (by rw [f4.out]; exact hs1)).mono ?_
  rintro e w4 ⟨⟨m', q', rfl, hnq'⟩, hb⟩
  obtain rfl : q' = q := by rw [hnq'.out.2, f1.out, hnq.out.2]
  have hT := hT.below hb hT.lt
  have hB := hB.trans (hb.mono hB.size)
  have hbd := hbd.below hb (Nat.le_of_lt k9.has.lt)
  have k9 := k9.below hb
  clear hb
  have hcase : (q' = false ∧ Q = false) ∨ (q' = true ∧ Q = true ∧ 0 < n ∧ most < 0 ∧ m' = 0) ∨ (q' = true ∧ Q = true ∧ n = 0 ∧ most < 0 ∧ m' = 0) ∨ (q' = true ∧ Q = true ∧ most < n ∧ 0 ≤ most ∧ m' = most) ∨ (q' = true ∧ Q = false ∧ n ≤ most ∧ 0 ≤ most ∧ m' = n) := by
    have e1 := hnq.out.1
    have e2 := hnq.out.2
    have e3 := hnq'.out.1
    have e6 := f6.out
    have ev := hvr.out
    rw [← e2, ← e1] at e6
    rw [← e1] at ev
    cases q' with
    | false => left; exact ⟨rfl, by simpa using e6⟩
    | true =>
      right
      have e4 := f2.out e2.symm
      rw [← e3, ← e1] at e4
      by_cases h1 : most < n
      · have hq : Q = true := by rw [e6]; simp [h1]
        by_cases h2 : most < 0
        · by_cases h3 : 0 < n
          · left; exact ⟨rfl, hq, h3, h2, by omega⟩
          · right; left; exact ⟨rfl, hq, by omega, h2, by omega⟩
        · right; right; left; exact ⟨rfl, hq, h1, by omega, by omega⟩
      · have hq : Q = false := by rw [e6]; simp [h1]
        right; right; right; exact ⟨rfl, hq, by omega, by omega, by omega⟩
  obtain ⟨N, hNl⟩ : ∃ N, t.ol.length = N := ⟨_, rfl⟩
  have hNb : N ≤ 140737488355328 := by rw [← hNl]; exact hs1
  have hun := f3.out N
  have hD7 := k9.has.cell 7 (v := .slice p9.oA N p9.oc) (by rw [← hNl, ← f4.out]; rfl)
  have hT7 := hT.cell 7 (v := .slice p.oA N p.oc) (by rw [← hNl]; rfl)
  have yD : By w4.heap.size w4 p9.oA N p9.oc D.ol := by have h := k9.opt; rw [f4.out, hNl] at h; exact h
  have yT : By w4.heap.size w4 p.oA N p.oc t.ol := by have h := (rt.opt.below hB (Nat.le_refl _)).more hB.size; rw [hNl] at h; exact h
  have hinD := yD.rng
  have hinT := yT.rng
  have hNH := Lib.hid hNl
  clear hNl hnq hnq' hs1 hs2
  rcases hcase with ⟨rfl, rfl⟩ | ⟨rfl, rfl, hlt, hneg, rfl⟩ | ⟨rfl, rfl, rfl, hneg, rfl⟩ | ⟨rfl, rfl, hlt, hneg, rfl⟩ | ⟨rfl, rfl, hlt, hneg, rfl⟩
  all_goals
    have hunH := Lib.hid hun
    clear hun
    go_wp2
    go_loopw [11, 12] (fun u i wr => ∃ k : Nat, k ≤ N ∧ i = .int .i64 k ∧ u = .int .i64 (unl D.ol t.ol k) ∧ Below w4.heap.size w4 wr) (fun _ i _ => N - (intOf i).toNat)
    case atStart => exact ⟨0, Nat.zero_le _, rfl, rfl, Below.refl _ _⟩
    case round =>
      obtain ⟨k, hk, rfl, rfl, hBr⟩ := hrel
      rename_i wr
      have hKr := k9.has.below hBr k9.has.lt
      have hTr := hT.below hBr hT.lt
      have hD7r := hKr.cell 7 (v := .slice p9.oA N p9.oc) (by rw [← hNH.out, ← f4.out]; rfl)
      have hT7r := hTr.cell 7 (v := .slice p.oA N p.oc) (by rw [← hNH.out]; rfl)
      have hBw := hB.trans (hBr.mono hB.size)
      have hUr := unl_rng D.ol t.ol k
      have hUs : unl D.ol t.ol (k + 1) = unl D.ol t.ol k + if D.ol.getD k 0 ≠ t.ol.getD k 0 then 1 else 0 := rfl
      by_cases hkN : k < N
      case pos =>
        obtain ⟨bD, oD, hAD, _, -⟩ := yD.row.at_ (by omega)
        obtain ⟨bT, oT, hAT, _, -⟩ := yT.row.at_ (by omega)
        have yDr := yD.below hBr (Nat.le_refl _)
        have yTr := yT.below hBr (Nat.le_refl _)
        rw [hAD] at yDr hD7r
        rw [hAT] at yTr hT7r
        have d0 := yDr.at (k := k) hkN
        have d1 := yTr.at (k := k) hkN
        have r0 := getD_rng hinD k
        have r1 := getD_rng hinT k
        obtain ⟨x0, hx0⟩ : ∃ x, D.ol.getD k 0 = x := ⟨_, rfl⟩
        obtain ⟨x1, hx1⟩ : ∃ x, t.ol.getD k 0 = x := ⟨_, rfl⟩
        rw [hx0] at d0 r0 hUs
        rw [hx1] at d1 r1 hUs
        obtain ⟨U, hU⟩ : ∃ U, unl D.ol t.ol k = U := ⟨_, rfl⟩
        rw [hU] at hUs hUr ⊢
        have z0 : (k : Int) < (N : Int) := by omega
        by_cases hx : x0 = x1
        case pos =>
          rw [if_neg (by simp [hx])] at hUs
          subst hx
          have hUsH := Lib.hid hUs
          clear hU hUs hD7 hT7 yD yT yDr yTr hx0 hx1 hAD hAT
          go_wp2
          go_quiet (fail)
          go_wp2
          go_roundw
          case rel => exact ⟨k + 1, by omega, by go_num, by rw [hUsH.out]; simp, hBr.trans (below_drewN _ _ _)⟩
          case measure => simp [intOf]; omega
        case neg =>
          rw [if_pos hx] at hUs
          have hxb : (x0 == x1) = false := by simp [hx]
          have hUsH := Lib.hid hUs
          clear hU hUs hD7 hT7 yD yT yDr yTr hx0 hx1 hAD hAT
          go_wp2
          go_quiet (fail)
          go_wp2
          go_roundw
          case rel => exact ⟨k + 1, by omega, by go_num, by rw [hUsH.out], hBr.trans (below_drewN _ _ _)⟩
          case measure => simp [intOf]; omega
      case neg =>
        obtain rfl : k = N := by omega
        have fDr := hKr.free 7
        have hU2 := hunH.out.1
        have hU0 := hunH.out.2
        obtain ⟨U, hU⟩ : ∃ U, unl D.ol t.ol k = U := ⟨_, rfl⟩
        rw [hU] at hU2 hU0 hUr ⊢
        have hC : Has (wr.setCell ⟨g9, 7, none⟩ (.slice p.oA k p.oc)) g9 (.cells (t.cells ⟨p.oA, p.oc, p9.bA, p9.bc⟩) 26 (0, 0)) := by
          have h := hKr.setCell 7 (.slice p.oA k p.oc)
          have e : ({ D with ol := t.ol } : DT).cells ⟨p.oA, p.oc, p9.bA, p9.bc⟩ = (D.cells p9).setIfInBounds 7 (.slice p.oA k p.oc) := by rw [← hNH.out]; rfl
          rw [← e, f5.out] at h
          exact h
        have hTC : Has (wr.setCell ⟨g9, 7, none⟩ (.slice p.oA k p.oc)) w.heap.size (.cells (t.cells p) 26 (0, 0)) := hTr.setCell_other (by omega) 7 _
        have hBC : Below w.heap.size w (wr.setCell ⟨g9, 7, none⟩ (.slice p.oA k p.oc)) := below_setCell hBw (by omega) 7 _
        have hrow : By (wr.setCell ⟨g9, 7, none⟩ (.slice p.oA k p.oc)).heap.size (wr.setCell ⟨g9, 7, none⟩ (.slice p.oA k p.oc)) p9.bA t.bl.length p9.bc t.bl := by
          have hbl : D.bl = t.bl := by have h := congrArg DT.bl f5.out; exact h
          have h := (hbd.below hBr (Nat.le_of_lt k9.has.lt)).below (below_setCell (Below.refl g9 wr) (Nat.le_refl _) 7 (.slice p.oA k p.oc)) (Nat.le_refl _)
          rw [hbl] at h
          exact h.more (Nat.le_of_lt hC.lt)
        have hrT : RdT (wr.setCell ⟨g9, 7, none⟩ (.slice p.oA k p.oc)).heap.size (wr.setCell ⟨g9, 7, none⟩ (.slice p.oA k p.oc)) t p := (rt.below hBC (Nat.le_refl _)).more hBC.size
        clear hU yD yT hD7 hT7 hKr hUs
        go_wp2_with (first | (refine wpList_load_rowG (by kernel_rfl) 26 (.tmp 7) rfl _ rfl 26 (t.cells ⟨p.oA, p.oc, p9.bA, p9.bc⟩) (0, 0) _ hC Try.underlying26 rfl tcp_info ?_) | (refine wpList_load_rowG (by kernel_rfl) 26 (.tmp 2) rfl _ rfl 26 (t.cells p) (0, 0) _ hTC Try.underlying26 rfl tcp_info ?_))
        refine (rsameT_any _ _ t t ⟨p.oA, p.oc, p9.bA, p9.bc⟩ p _ hrT.opt hrT.opt hrow hrT.body (Nat.le_refl _) (Nat.le_refl _)).mono ?_
        rintro e w5 ⟨b, rfl, hb, hbb⟩
        obtain rfl : b = true := by rw [hb.out, sameT_self]
        go_wp2
        go_ret
        exact ⟨rfl, hBC.trans (hbb.mono hBC.size)⟩
end Go.Proofs.Ytaobnbjkhgcmlaa
