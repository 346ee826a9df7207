/-
  Lemmas and walks for the row of TosixMessages (part 37 of 43).
-/
import Derived.Test.YtijnifbpbgckgaaTmAD
import Derived.Test.YtijnifbpbgckgaaTmAI
import Derived.Test.YtijnifbpbgckgaaTmAY
import Derived.Test.YtijnifbpbgckgaaTmAZ
import Derived.Test.YtijnifbpbgckgaaTmBH
import Derived.Test.YtijnifbpbgckgaaTmBI
import Derived.Test.YtijnifbpbgckgaaTmBJ
import Derived.Lib.AppendZeros
set_option linter.unusedVariables false
set_option linter.unusedSimpArgs false
namespace Go.Proofs.Ytijnifbpbgckgaa
open Go.RowKit Go.Shelf

theorem zeroCells_u8 (k : Nat) : Builtin.zeroCells #[.int .u8 0] k = (u8s (List.replicate k 0)).toArray := by
  apply Array.ext'
  simp [Builtin.zeroCells, u8s, Nat.mod_one, List.map_const']
theorem run_zeros {w : World} {base g c : Nat} {l : List Int} (hO : OwnB w base (.slice (some ⟨g, 0, none⟩) l.length c) l) {P : Program} (t tn ty : TypeId) (ht : P.underlying t = some (.slice 5)) (htn : P.underlying tn = some (.int .i64))
    (hinfo : (P.info? 5).map (fun i => (i.zero, i.size, i.bytes)) = some (some (.int .u8 0), 1, 1)) (k : Nat) (h0 : 0 < k) (hk : l.length + k ≤ 70368744177664) (hbase : base ≤ w.heap.size) :
    ∃ v' w', (Builtin.append_ #[t, tn] ty #[.slice (some ⟨g, 0, none⟩) l.length c, .int .i64 (k : Int)]).run P w = .ok v' w' ∧ OwnB w' base v' (l ++ List.replicate k 0) ∧ Below base w w' := by
  obtain ⟨i, hi, hz, hsz, hby⟩ := info_parts hinfo
  obtain ⟨hl, hr⟩ := hO.own
  rcases hr with ⟨hv, _⟩ | ⟨g', cap, cur, hv, hbg, hg, hnc, hcm, hcs, htk⟩
  · cases hv
  injection hv with e1 e2 e3
  injection e1 with e1
  injection e1 with e1
  subst e1 e3
  rw [Nat.mul_one] at hl hcs htk
  have hw : IntKind.i64.wrap (k : Int) = k := by rw [IntKind.wrap_i64]; omega
  have hneg : ¬ ((k : Int) < 0) := by omega
  have hk0 : k ≠ 0 := by omega
  have h48 : ¬ (281474976710656 < (k : Int)) := by omega
  have hrng : InB (l ++ List.replicate k 0) := hO.rng.app (fun x hx => by rw [List.mem_replicate] at hx; omega)
  have hlen : (l ++ List.replicate k (0 : Int)).length = l.length + k := by rw [List.length_append, List.length_replicate]
  by_cases hroom : l.length + k ≤ c
  · have hst := run_storeCells_at P g l.length 5 (u8s (List.replicate k 0)) 0 cur w hg (by simp [u8s_length]; omega) (fun v hv => by obtain ⟨x, _, rfl⟩ := List.mem_map.1 hv; rfl)
    simp only [Nat.add_zero] at hst
    refine ⟨.slice (some ⟨g, 0, none⟩) (l.length + k) c, w.setRow g (cur.toList.take l.length ++ u8s (List.replicate k 0) ++ cur.toList.drop (l.length + (u8s (List.replicate k 0)).length)).toArray, ?_, ?_, below_setRow (Below.refl _ _) hbg _⟩
    · simp [Builtin.append_, run_underlying ht, run_underlying htn, sizeOf, typeInfo, zeroValue, hi, hz, hsz, hby, asInt, asIntOf, hw, hneg, hk0, h48, hroom, zeroCells_u8, Value.cells, Addr.add_lit, hst]
    · refine ⟨⟨by rw [u8s_length, hlen, Nat.mul_one], .inr ⟨g, c, _, by rw [hlen], hbg, setRow_heap w g cur _ 5 _ hg, by rw [hlen]; exact hroom, hcm, ?_, ?_⟩⟩, hrng⟩
      · simp only [List.size_toArray, List.length_append, List.length_take, List.length_drop, Array.length_toList, u8s_length, List.length_replicate]
        omega
      · rw [hlen, Nat.mul_one, htk, u8s_append]
        have : l.length + k = (u8s l ++ u8s (List.replicate k 0)).length := by rw [List.length_append, u8s_length, u8s_length, List.length_replicate]
        rw [this]
        exact List.take_left
  · have h63' : ¬ (9223372036854775807 < ((l.length : Int) + (k : Int))) := by omega
    have hfit := growslice_fits (need := l.length + k) (old := c) (bytes := 1) (by omega) (by omega)
    have h48' : ¬ (281474976710656 < Builtin.nextslicecap (l.length + k) c) := by omega
    have hfo := run_firstCells_some (P := P) w.drew 1 l.length ⟨g, 0, none⟩ l.length c (u8s l) (by rw [u8s_length, Nat.mul_one]) (by
      intro j u hu
      have := World.ownsRow.cells hO.own (g := g) rfl j u hu
      simpa using this)
    refine ⟨.slice (some ⟨w.heap.size, 0, none⟩) (l.length + k) (grownCap w (l.length + k) c 5), w.drew.alloc (.cells ((u8s l).toArray ++ (u8s (List.replicate k 0)).toArray ++ Builtin.zeroCells #[.int .u8 0] (grownCap w (l.length + k) c 5 - (l.length + k))) 5), ?_, ?_, (Below.drew (Below.refl base w)).alloc hbase (.cells ((u8s l).toArray ++ (u8s (List.replicate k 0)).toArray ++ Builtin.zeroCells #[.int .u8 0] (grownCap w (l.length + k) c 5 - (l.length + k))) 5)⟩
    · simp [Builtin.append_, run_underlying ht, run_underlying htn, sizeOf, typeInfo, zeroValue, hi, hz, hsz, hby, asInt, asIntOf, hw, hneg, hk0, h48, hroom, h63', h48', Question.forced, hfo, newRow, grownCap, zeroCells_u8, Value.cells]
    · have hge := grownCap_ge w (l.length + k) c 5
      have hcm2 : grownCap w (l.length + k) c 5 ≤ maxLen := grownCap_le_maxLen w (l.length + k) c 5 (by simp only [maxLen]; omega)
      refine ⟨⟨by rw [u8s_length, hlen, Nat.mul_one], .inr ⟨w.heap.size, _, _, by rw [hlen], hbase, World.alloc_heap_new w.drew _, by rw [hlen]; exact hge, hcm2, ?_, ?_⟩⟩, hrng⟩
      · simp only [Array.size_append, List.size_toArray, size_zeroCells, u8s_length, List.length_replicate]
        show l.length + k + (grownCap w (l.length + k) c 5 - (l.length + k)) * 1 = grownCap w (l.length + k) c 5 * 1
        omega
      · rw [hlen, Nat.mul_one, u8s_append]
        simp only [Array.toList_append]
        have : l.length + k = (u8s l ++ u8s (List.replicate k 0)).length := by rw [List.length_append, u8s_length, u8s_length, List.length_replicate]
        rw [this]
        exact List.take_left
theorem ow_zeros {P : Program} {o : Oper} {a : Act} {w : World} {K : Act → World → Prop} {Q : Exit → Act → World → Prop} (s x : Operand) (t tn : TypeId) (ho : o.op = .call { callee := .builtin .append, args := #[s, x], argTypes := #[t, tn] })
    (ht : P.underlying t = some (.slice 5)) (htn : P.underlying tn = some (.int .i64)) (hinfo : (P.info? 5).map (fun i => (i.zero, i.size, i.bytes)) = some (some (.int .u8 0), 1, 1))
    (base g n c k : Nat) (l : List Int) (hs : a.eval s = .slice (some ⟨g, 0, none⟩) n c) (hO : OwnB w base (.slice (some ⟨g, 0, none⟩) n c) l) (hx : a.eval x = .int .i64 (k : Int)) (h0 : 0 < k) (hk : n + k ≤ 70368744177664) (hbase : base ≤ w.heap.size)
    (h : ∀ v' w', OwnB w' base v' (l ++ List.replicate k 0) → Below base w w' → K (a.put o.dst v') w') : o.wp P a w K Q := by
  have hn := own_len hO
  subst hn
  obtain ⟨v', w', hr, h1, h2⟩ := run_zeros hO t tn o.type ht htn hinfo k h0 hk hbase
  exact Lib.wp_append_run w s x t tn ho _ _ hs hx v' w' hr (h v' w' h1 h2)
section
variable {P : Program}
theorem w_mul16 (t : TypeId) (x : Int) (h : 0 ≤ x ∧ x ≤ 255) (w : World) : (binOp .mul t (.int .u16 x) (.int .u16 256)).run P w = .ok (.int .u16 (x * 256)) w := by
  have h1 := h.1
  have h2 := h.2
  clear h
  go_simp
  exact IntWalk.u16_in _ ⟨by omega, by omega⟩
theorem w_add16 (t : TypeId) (x y : Int) (h : 0 ≤ x ∧ x ≤ 255) (h' : 0 ≤ y ∧ y ≤ 255) (w : World) : (binOp .add t (.int .u16 (x * 256)) (.int .u16 y)).run P w = .ok (.int .u16 (x * 256 + y)) w := by
  have h1 := h.1
  have h2 := h.2
  have h3 := h'.1
  have h4 := h'.2
  clear h h'
  go_simp
  exact IntWalk.u16_in _ ⟨by omega, by omega⟩
end
theorem rupdate_one {was : Int} {A1 A2 : Option Addr} {n1 n2 c1 c2 : Nat} {l1 l2 : List Int} {w : World} (hn : 0 ≤ was ∧ was < 65536) (h1 : By w.heap.size w A1 n1 c1 l1) (h2 : By w.heap.size w A2 n2 c2 l2) (he : l1.length = l2.length ∧ l2.length % 2 = 0) (hb : n2 ≤ 65536) :
    Calls Try.prog 92 #[.int .u16 was, .slice A1 n1 c1, .slice A2 n2 c2] w fun e w' => ∃ v, e = .returned v ∧ (∃ q, v = .tuple #[.int .u16 q, .int .i64 0] ∧ q = (updateS was l1 l2).1 ∧ 0 ≤ q ∧ q < 65536) ∧ Below w.heap.size w w' := by
  obtain rfl := h1.len
  obtain rfl := h2.len
  refine (rupdate_any was hn A1 A2 c1 c2 l1 l2 w h1 h2 (by omega)).mono fun e w' h => ?_
  obtain ⟨⟨q, er, rfl, hq⟩, hb⟩ := h
  have hq := hq.out
  have h0 := updateS_rng was hn l1 l2 h1.rng h2.rng
  obtain rfl : er = 0 := by rw [hq.2, updateS, if_pos he]
  exact ⟨_, rfl, ⟨q, rfl, hq.1, by rw [hq.1]; exact h0.1, by rw [hq.1]; exact h0.2⟩, hb⟩
theorem rpart_x {A : Option Addr} {n c : Nat} {l : List Int} {w : World} (y : By w.heap.size w A n c l) :
    Calls Try.prog 56 #[.slice A n c] w fun e w' => ∃ v, e = .returned v ∧ (∃ p, v = .tuple #[.agg ((got4 true l).cells p), .int .i64 (pat4 (pe4 true l)), .int .i64 (pe4 true l)] ∧ Own4 w' w.heap.size (got4 true l) p) ∧ Below w.heap.size w w' := by
  obtain rfl := y.len
  refine (rpart4_any A c l w y).mono fun e w' h => ?_
  obtain ⟨⟨p, a', s', rfl, ha, hs, ho⟩, hb⟩ := h
  exact ⟨_, rfl, ⟨p, by rw [ha.out, hs.out], ho⟩, hb⟩
theorem rwrite6_x {d : D6} {p : W6} {w : World} (hR : Rd6 w.heap.size w d p) :
    Calls Try.prog 57 #[.agg (d.cells p)] w fun e w' => ∃ v, e = .returned v ∧ (∃ u, v = .tuple #[u, .int .i64 d.check] ∧ OwnB w' w.heap.size u d.write) ∧ Below w.heap.size w w' := by
  refine (rwrite6_any d p w hR).mono fun e w' h => ?_
  obtain ⟨u, s', rfl, hs, ho, hB⟩ := h
  exact ⟨_, rfl, ⟨u, by rw [hs.out], ho⟩, hB⟩
end Go.Proofs.Ytijnifbpbgckgaa
