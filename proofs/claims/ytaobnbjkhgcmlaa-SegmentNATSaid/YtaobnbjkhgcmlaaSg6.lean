/-
  The walk of segment.writeUDP over IPv6.
-/
import Derived.Test.YtaobnbjkhgcmlaaSg4
import Derived.Test.YtaobnbjkhgcmlaaMake
import Derived.Deep.RegionWith
namespace Go.Proofs.Ytaobnbjkhgcmlaa
open Go.RowKit Go.Shelf


set_option maxRecDepth 100000 in
set_option maxHeartbeats 1000000 in
theorem wudp6_ok (a b : List Int) (ha : a.length = 16) (hb : b.length = 16) (ra : InB a) (rb : InB b) (g1 g2 : Nat) (u : DU) (A : Option Addr) (c : Nat) (w : World) (hA : Has w g1 (.cells (u8s a).toArray 36 (0, 0))) (hB : Has w g2 (.cells (u8s b).toArray 36 (0, 0))) (hR : RdU w.heap.size w u A c) (h0 : u.bl.length ≤ 65527) :
    Calls Try.prog 42 #[.func (.func 65) #[] #[.pointer (some ⟨g1, 0, none⟩), .pointer (some ⟨g2, 0, none⟩)], .agg (u.cells A c)] w fun e w' => ∃ v, e = .returned (.tuple #[v, .int .i64 0]) ∧ OwnB w' w.heap.size v (u.bytes (pse6 a b (8 + u.bl.length) 17)) ∧ Below w.heap.size w w' := by
  have rs := hR.ok.src
  have rd := hR.ok.dst
  have hBW : Below w.heap.size w (w.alloc (.cells (u.cells A c) 28)) := (Below.refl _ _).alloc (Nat.le_refl _) _
  have hH : Has (w.alloc (.cells (u.cells A c) 28)) w.heap.size (.cells (u.cells A c) 28 (0, 0)) := Has.newAt rfl
  have c2 := hH.cell 2 (v := .slice A u.bl.length c) rfl
  have hsz1 : (w.alloc (.cells (u.cells A c) 28)).heap.size = w.heap.size + 1 := by simp
  have hA1 := hA.alloc (o' := .cells (u.cells A c) 28)
  have hB1 := hB.alloc (o' := .cells (u.cells A c) 28)
  obtain ⟨ps, hps⟩ : ∃ ps, pse6 a b (8 + u.bl.length) 17 = ps := ⟨_, rfl⟩
  rw [hps]
  have hps := Lib.hid hps
  have hgA := hA.lt
  have hgB := hB.lt
  obtain ⟨N, hN⟩ : ∃ N : Nat, u.bl.length = N := ⟨_, rfl⟩
  have hbody := hR.body
  have hNH := Lib.hid hN
  rw [hN] at c2 h0 hbody
  have hcells : u.cells A c = #[.int .u16 u.src, .int .u16 u.dst, .slice A N c] := by rw [← hN]; rfl
  rw [hcells] at hH hA1 hB1 hBW c2 hsz1 ⊢
  clear hN hA hB hcells
  generalize hW : w.alloc (.cells #[.int .u16 u.src, .int .u16 u.dst, .slice A N c] 28) = w1 at hH hA1 hB1 hBW c2 hsz1
  have hWs : w.heap.size + 1 ≤ w1.heap.size := by omega
  go_enter Try.func42, Try.ntmps42
  go_wp2_with (refine wpList_makeB rfl 24 _ _ rfl 8 (8 + N) rfl rfl Try.underlying24 info8 (by omega) (by omega) (w.heap.size + 1) hWs ?_; intro w2 o2 hb2 hl2; have hH2 := hH.below hb2 hH.lt; have d0 := hH2.cell 0 (v := .int .u16 u.src) rfl)
  rw [hsz1] at o2
  have bel2 : Below (w.heap.size + 1) w1 w2 := hb2.mono hWs
  clear hb2 hl2 hH2 c2
  refine (set_own _ _ 8 (8 + N) _ w2 o2 rfl 0 (by decide) (by decide) u.src rs).mono ?_
  rintro e w3 ⟨rfl, o3, gr3⟩
  have bel3 := bel2.trans (below_own o2.own gr3 (Nat.le_trans hWs bel2.size))
  have hH3 := hH.below bel3 (Nat.lt_succ_self _)
  have d1 := hH3.cell 1 (v := .int .u16 u.dst) rfl
  clear o2 gr3 bel2 d0
  go_wp2_with fail
  refine (set_own _ _ 8 (8 + N) _ w3 o3 rfl 2 (by decide) (by decide) u.dst rd).mono ?_
  rintro e w4 ⟨rfl, o4, gr4⟩
  have bel4 := bel3.trans (below_own o3.own gr4 (Nat.le_trans hWs bel3.size))
  have hH4 := hH.below bel4 (Nat.lt_succ_self _)
  have d2 := hH4.cell 2 (v := .slice A N c) rfl
  clear o3 gr4 bel3 d1 hH3
  go_wp2_with fail
  refine (set_own _ _ 8 (8 + N) _ w4 o4 rfl 4 (by decide) (by decide) (8 + (N : Int)) (by omega)).mono ?_
  rintro e w5 ⟨rfl, o5, gr5⟩
  have bel5 := bel4.trans (below_own o4.own gr5 (Nat.le_trans hWs bel4.size))
  have hH5 := hH.below bel5 (Nat.lt_succ_self _)
  have d2 := hH5.cell 2 (v := .slice A N c) rfl
  have hB5 := hBW.trans (bel5.mono (Nat.le_succ _))
  have y5 := hbody.below hB5 (Nat.le_refl _)
  have e5 : set2 (set2 (set2 (List.replicate 8 0) 0 u.src) 2 u.dst) 4 (8 + (N : Int)) = u.first 0 := by rw [DU.first, hNH.out]; rfl
  have e5 : OwnB w5 (w.heap.size + 1) (.slice (some ⟨w.heap.size + 1, 0, none⟩) 8 (8 + N)) (u.first 0) := e5 ▸ o5
  have n5 : (u.first 0).length = 8 := rfl
  clear o4 gr5 bel4 hH4 o5
  go_wp2_with (at_builtin; refine wpList_appB _ rfl _ _ _ rfl Try.underlying24 info8 (w.heap.size + 1) _ (u.first 0) rfl e5 _ A N c u.bl rfl y5 (by rw [n5]; omega) (Nat.le_trans hWs bel5.size) ?_; intro v6 w6 o6 gr6 at6; have bel6 := bel5.trans (below_app e5 gr6 (Nat.le_trans hWs bel5.size)); obtain ⟨L6, hL6⟩ : ∃ L, u.first 0 ++ u.bl = L := ⟨_, rfl⟩; rw [hL6] at o6; have n6 : L6.length = 8 + N := by { rw [← hL6, List.length_append, n5, hNH.out] }; obtain ⟨A6, c6, hv6, _⟩ := own_shape o6.own; rw [n6] at hv6; subst hv6; have hA6 := hA1.below bel6 (Nat.lt_succ_of_lt hgA); have hB6 := hB1.below bel6 (Nat.lt_succ_of_lt hgB); have n6 := Lib.hid n6; have hL6 := Lib.hid hL6; clear gr6 at6 e5 y5 d2 hB5 hH5)
  refine (head6_any a b ha hb ra rb 17 (8 + (N : Int)) (by decide) (by decide) (by omega) (by omega) g1 g2 w6 hA6 hB6).mono ?_
  rintro e w7 ⟨v7, rfl, o7, hb7⟩
  have o7 : OwnB w7 w6.heap.size v7 ps := by have h := o7; rw [show (8 + (N : Int)) = 8 + (u.bl.length : Int) from by rw [hNH.out], hps.out] at h; exact h
  obtain ⟨A7, k7, rfl, y7⟩ := o7.by_
  have o7L := o6.below hb7
  have y6 := own_byN o7L
  have big6 := Nat.le_trans hWs bel6.size
  have bel7 := bel6.trans (hb7.mono big6)
  have hpr := y7.rng
  clear o7 hA6 hB6 o6 bel6 hA1 hB1
  go_wp2_with fail
  refine (of_new [(A7, k7, ps), (A6, c6, L6)] 2 (by simp only [List.map_cons, List.map_nil, n6.out]; exact Has.newAt (by simp)) rfl
    (all2 ((y7.alloc (Nat.le_refl _) _).more (by simp)) (((n6.out ▸ y6 : By w7.heap.size w7 A6 L6.length c6 L6).alloc (Nat.le_refl _) _).more (by simp))) (by simp)).mono ?_
  rintro e w8 ⟨q, rfl, hq, hq2, hb8⟩
  have hb8' : Below w7.heap.size w7 w8 := ((Below.refl _ _).alloc (Nat.le_refl _) _).trans (hb8.mono (by simp))
  have o8 := o7L.below hb8'
  have big7 := Nat.le_trans big6 hb7.size
  have bel8 := bel7.trans (hb8'.mono big7)
  have big8 := Nat.le_trans big7 hb8'.size
  have hqs : nz q = u.sum ps := by rw [hq.out, DU.sum, hL6.out]; simp [flat]
  have hqsH := Lib.hid hqs
  clear hq hb8 hb8' hqs y7 y6 o7L bel7 hb7
  by_cases hq0 : q = 0
  · subst hq0
    go_wp2_with fail
    refine (set_own _ _ (8 + N) c6 L6 w8 o8 n6.out.symm 6 (by omega) (by omega) 65535 (by decide)).mono ?_
    rintro e w9 ⟨rfl, o9, gr9⟩
    have bel9 := bel8.trans (below_own o8.own gr9 big8)
    go_wp2
    go_ret2
    refine ⟨_, rfl, ?_, hBW.trans (bel9.mono (Nat.le_succ _))⟩
    have e9 : set2 L6 6 65535 = u.bytes ps := by rw [DU.bytes, ← hqsH.out, ← hL6.out]; rfl
    rw [← e9]
    exact o9.more (Nat.le_succ _)
  · have hqn : nz q = q := if_neg hq0
    have hqb : (q == 0) = false := by simpa using hq0
    go_wp2_with fail
    refine (set_own _ _ (8 + N) c6 L6 w8 o8 n6.out.symm 6 (by omega) (by omega) q hq2).mono ?_
    rintro e w9 ⟨rfl, o9, gr9⟩
    have bel9 := bel8.trans (below_own o8.own gr9 big8)
    clear hqb
    go_wp2
    go_ret2
    refine ⟨_, rfl, ?_, hBW.trans (bel9.mono (Nat.le_succ _))⟩
    have e9 : set2 L6 6 q = u.bytes ps := by rw [DU.bytes, ← hqsH.out, hqn, ← hL6.out]; rfl
    rw [← e9]
    exact o9.more (Nat.le_succ _)
end Go.Proofs.Ytaobnbjkhgcmlaa
