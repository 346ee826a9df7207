/-
  Lemmas and walks for the row of TofourPackets,TofourMessages,TofourInside (part 21 of 42).
-/
import Derived.Test.YtjnphelfloiadaaFpAD
import Derived.Test.YtjnphelfloiadaaFpAF
import Derived.Test.YtjnphelfloiadaaFpAG
import Derived.Test.YtjnphelfloiadaaFpAH
import Derived.Test.YtjnphelfloiadaaFpAL
import Derived.Test.YtjnphelfloiadaaFpAS
import Derived.Test.YtjnphelfloiadaaFpAT
import Derived.Lib.AppendZeros
set_option linter.unusedVariables false
set_option linter.unusedSimpArgs false
namespace Go.Proofs.Ytjnphelfloiadaa
open Go.RowKit Go.Shelf

theorem zeroCells_u8 (k : Nat) : Builtin.zeroCells #[.int .u8 0] k = (u8s (List.replicate k 0)).toArray := by
 apply Array.ext'
 simp [Builtin.zeroCells, u8s, Nat.mod_one, List.map_const']
theorem run_zeros {w : World} {base g c : Nat} {l : List Int} (hO : OwnB w base (.slice (some ⟨g, 0, none⟩) l.length c) l) {P : Program} (t tn ty : TypeId) (ht : P.underlying t = some (.slice 5)) (htn : P.underlying tn = some (.int .i64))
  (hinfo : (P.info? 5).map (fun i => (i.zero, i.size, i.bytes)) = some (some (.int .u8 0), 1, 1)) (k : Nat) (h0 : 0 < k) (hk : l.length + k ≤ 70368744177664) (hbase : base ≤ w.heap.size) :
  ∃ v' w', (Builtin.append_ #[t, tn] ty #[.slice (some ⟨g, 0, none⟩) l.length c, .int .i64 (k : Int)]).run P w = .ok v' w' ∧ OwnB w' base v' (l ++ List.replicate k 0) ∧ Below base w w' := by
 obtain ⟨i, hi, hz, hsz, hby⟩ := info_parts hinfo
 obtain ⟨hl, hr⟩ := hO.own
 rcases hr with ⟨hv, _⟩ | ⟨g', cap, cur, hv, hbg, hg, hnc, hcm, hcs, htk⟩
 ·cases hv
 injection hv with e1 e2 e3
 injection e1 with e1
 injection e1 with e1
 subst e1 e3
 rw [Nat.mul_one] at hl hcs htk
 have hw : IntKind.i64.wrap (k : Int) = k := by rw [IntKind.wrap_i64]; omega
 have hneg : ¬ ((k : Int) < 0) := by omega
 have hk0 : k ≠ 0 := by omega
 have h48 : ¬ (281474976710656 < (k : Int)) := by omega
 have hrng : InB (l ++ List.replicate k 0) := hO.rng.app (fun x hx => by rw [List.mem_replicate] at hx; omega)
 have hlen : (l ++ List.replicate k (0 : Int)).length = l.length + k := by rw [List.length_append, List.length_replicate]
 by_cases hroom : l.length + k ≤ c
 ·have hst := run_storeCells_at P g l.length 5 (u8s (List.replicate k 0)) 0 cur w hg (by simp [u8s_length]; omega) (fun v hv => by obtain ⟨x, _, rfl⟩ := List.mem_map.1 hv; rfl)
  simp only [Nat.add_zero] at hst
  refine ⟨.slice (some ⟨g, 0, none⟩) (l.length + k) c, w.setRow g (cur.toList.take l.length ++ u8s (List.replicate k 0) ++ cur.toList.drop (l.length + (u8s (List.replicate k 0)).length)).toArray, ?_, ?_, below_setRow (Below.refl _ _) hbg _⟩
  ·simp [Builtin.append_, run_underlying ht, run_underlying htn, sizeOf, typeInfo, zeroValue, hi, hz, hsz, hby, asInt, asIntOf, hw, hneg, hk0, h48, hroom, zeroCells_u8, Value.cells, Addr.add_lit, hst]
  ·refine ⟨⟨by rw [u8s_length, hlen, Nat.mul_one], .inr ⟨g, c, _, by rw [hlen], hbg, setRow_heap w g cur _ 5 _ hg, by rw [hlen]; exact hroom, hcm, ?_, ?_⟩⟩, hrng⟩
   ·simp only [List.size_toArray, List.length_append, List.length_take, List.length_drop, Array.length_toList, u8s_length, List.length_replicate]
    omega
   ·rw [hlen, Nat.mul_one, htk, u8s_append]
    have : l.length + k = (u8s l ++ u8s (List.replicate k 0)).length := by rw [List.length_append, u8s_length, u8s_length, List.length_replicate]
    rw [this]
    exact List.take_left
 ·have h63' : ¬ (9223372036854775807 < ((l.length : Int) + (k : Int))) := by omega
  have hfit := growslice_fits (need := l.length + k) (old := c) (bytes := 1) (by omega) (by omega)
  have h48' : ¬ (281474976710656 < Builtin.nextslicecap (l.length + k) c) := by omega
  have hfo := run_firstCells_some (P := P) w.drew 1 l.length ⟨g, 0, none⟩ l.length c (u8s l) (by rw [u8s_length, Nat.mul_one]) (by
   intro j u hu
   have := World.ownsRow.cells hO.own (g := g) rfl j u hu
   simpa using this)
  refine ⟨.slice (some ⟨w.heap.size, 0, none⟩) (l.length + k) (grownCap w (l.length + k) c 5), w.drew.alloc (.cells ((u8s l).toArray ++ (u8s (List.replicate k 0)).toArray ++ Builtin.zeroCells #[.int .u8 0] (grownCap w (l.length + k) c 5 - (l.length + k))) 5), ?_, ?_, (Below.drew (Below.refl base w)).alloc hbase (.cells ((u8s l).toArray ++ (u8s (List.replicate k 0)).toArray ++ Builtin.zeroCells #[.int .u8 0] (grownCap w (l.length + k) c 5 - (l.length + k))) 5)⟩
  ·simp [Builtin.append_, run_underlying ht, run_underlying htn, sizeOf, typeInfo, zeroValue, hi, hz, hsz, hby, asInt, asIntOf, hw, hneg, hk0, h48, hroom, h63', h48', Question.forced, hfo, newRow, grownCap, zeroCells_u8, Value.cells]
  ·have hge := grownCap_ge w (l.length + k) c 5
   have hcm2 : grownCap w (l.length + k) c 5 ≤ maxLen := grownCap_le_maxLen w (l.length + k) c 5 (by simp only [maxLen]; omega)
   refine ⟨⟨by rw [u8s_length, hlen, Nat.mul_one], .inr ⟨w.heap.size, _, _, by rw [hlen], hbase, World.alloc_heap_new w.drew _, by rw [hlen]; exact hge, hcm2, ?_, ?_⟩⟩, hrng⟩
   ·simp only [Array.size_append, List.size_toArray, size_zeroCells, u8s_length, List.length_replicate]
    show l.length + k + (grownCap w (l.length + k) c 5 - (l.length + k)) * 1 = grownCap w (l.length + k) c 5 * 1
    omega
   ·rw [hlen, Nat.mul_one, u8s_append]
    simp only [Array.toList_append]
    have : l.length + k = (u8s l ++ u8s (List.replicate k 0)).length := by rw [List.length_append, u8s_length, u8s_length, List.length_replicate]
    rw [this]
    exact List.take_left
theorem ow_zeros {P : Program} {o : Oper} {a : Act} {w : World} {K : Act → World → Prop} {Q : Exit → Act → World → Prop} (s x : Operand) (t tn : TypeId) (ho : o.op = .call { callee := .builtin .append, args := #[s, x], argTypes := #[t, tn] })
  (ht : P.underlying t = some (.slice 5)) (htn : P.underlying tn = some (.int .i64)) (hinfo : (P.info? 5).map (fun i => (i.zero, i.size, i.bytes)) = some (some (.int .u8 0), 1, 1))
  (base g n c k : Nat) (l : List Int) (hs : a.eval s = .slice (some ⟨g, 0, none⟩) n c) (hO : OwnB w base (.slice (some ⟨g, 0, none⟩) n c) l) (hx : a.eval x = .int .i64 (k : Int)) (h0 : 0 < k) (hk : n + k ≤ 70368744177664) (hbase : base ≤ w.heap.size)
  (h : ∀ v' w', OwnB w' base v' (l ++ List.replicate k 0) → Below base w w' → K (a.put o.dst v') w') : o.wp P a w K Q := by
 have hn := own_len hO
 subst hn
 obtain ⟨v', w', hr, h1, h2⟩ := run_zeros hO t tn o.type ht htn hinfo k h0 hk hbase
 exact Lib.wp_append_run w s x t tn ho _ _ hs hx v' w' hr (h v' w' h1 h2)
section
variable {P : Program}
theorem w_shl32 (t : TypeId) (n : Nat) (x z : Int) (hz : x * 2 ^ n = z) (hn : n ≤ 32) (h : 0 ≤ z ∧ z < 4294967296) (w : World) : (binOp .shl t (.int .u32 x) (.int .u64 (n : Int))).run P w = .ok (.int .u32 z) w := by
 have hh := shift_shl .u32 .u64 x (n : Int) (Int.natCast_nonneg n) (by exact_mod_cast hn)
 rw [binOp_shl, hh, Int.toNat_natCast, hz, IntKind.wrap_u32]
 rw [Int.emod_eq_of_lt h.1 h.2]
 rfl
end
theorem rupdate_one {was : Int} {A1 A2 : Option Addr} {n1 n2 c1 c2 : Nat} {l1 l2 : List Int} {w : World} (hn : 0 ≤ was ∧ was < 65536) (h1 : By w.heap.size w A1 n1 c1 l1) (h2 : By w.heap.size w A2 n2 c2 l2) (he : l1.length = l2.length ∧ l2.length % 2 = 0) (hb : n2 ≤ 65536) :
  Calls Try.prog 87 #[.int .u16 was, .slice A1 n1 c1, .slice A2 n2 c2] w fun e w' => ∃ v, e = .returned v ∧ (∃ q, v = .tuple #[.int .u16 q, .int .i64 0] ∧ q = (updateS was l1 l2).1 ∧ 0 ≤ q ∧ q < 65536) ∧ Below w.heap.size w w' := by
 obtain rfl := h1.len
 obtain rfl := h2.len
 refine (rupdate_any was hn A1 A2 c1 c2 l1 l2 w h1 h2 (by omega)).mono fun e w' h => ?_
 obtain ⟨⟨q, er, rfl, hq⟩, hb⟩ := h
 have hq := hq.out
 have h0 := updateS_rng was hn l1 l2 h1.rng h2.rng
 obtain rfl : er = 0 := by rw [hq.2, updateS, if_pos he]
 exact ⟨_, rfl, ⟨q, rfl, hq.1, by rw [hq.1]; exact h0.1, by rw [hq.1]; exact h0.2⟩, hb⟩
theorem rof2 {g n1 n2 c1 c2 : Nat} {A1 A2 : Option Addr} {l1 l2 : List Int} {w : World} (h : Has w g (.cells #[.slice A1 n1 c1, .slice A2 n2 c2] 26 (0, 0))) (y1 : By w.heap.size w A1 n1 c1 l1) (y2 : By w.heap.size w A2 n2 c2 l2) (hb : n1 + n2 ≤ 8796093022208) :
  Calls Try.prog 57 #[.slice (some ⟨g, 0, none⟩) 2 2] w fun e w' => ∃ v, e = .returned v ∧ (∃ q, v = .int .u16 q ∧ q = 65535 - sumw (l1 ++ l2) ∧ 0 ≤ q ∧ q < 65536) ∧ Below w.heap.size w w' := by
 obtain rfl := y1.len
 obtain rfl := y2.len
 have hs := sumw_rng _ (y1.rng.app y2.rng)
 refine (rof_any (some ⟨g, 0, none⟩) 2 [(A1, c1, l1), (A2, c2, l2)] w (Parts.blk h (Nat.le_refl _) rfl (all2 y1 y2) (by simp)) (by rw [flat2, List.length_append]; exact hb)).mono fun e w' h => ?_
 rw [flat2] at h
 exact ⟨_, h.1, ⟨_, rfl, rfl, by omega, by omega⟩, h.2⟩
theorem rfold2 {g n1 n2 c1 c2 : Nat} {A1 A2 : Option Addr} {l1 l2 : List Int} {w : World} (h : Has w g (.cells #[.slice A1 n1 c1, .slice A2 n2 c2] 26 (0, 0))) (y1 : By w.heap.size w A1 n1 c1 l1) (y2 : By w.heap.size w A2 n2 c2 l2) (hb : n1 + n2 ≤ 8796093022208) :
  Calls Try.prog 59 #[.slice (some ⟨g, 0, none⟩) 2 2] w fun e w' => ∃ v, e = .returned v ∧ v = .int .u16 (sumw (l1 ++ l2)) ∧ Below w.heap.size w w' := by
 obtain rfl := y1.len
 obtain rfl := y2.len
 refine (rfold_any (some ⟨g, 0, none⟩) 2 [(A1, c1, l1), (A2, c2, l2)] w (Parts.blk h (Nat.le_refl _) rfl (all2 y1 y2) (by simp)) (by rw [flat2, List.length_append]; exact hb)).mono fun e w' h => ?_
 rw [flat2] at h
 exact ⟨_, h.1, rfl, h.2⟩
theorem rpseudo6_l {a b : List Int} (ha : a.length = 16) (hb : b.length = 16) (ra : InB a) (rb : InB b) {p n : Int} (hp : 0 ≤ p ∧ p ≤ 255) (hn : 0 ≤ n ∧ n ≤ 65535) (w : World) :
  Calls Try.prog 61 #[.agg (u8s (l16 a)).toArray, .agg (u8s (l16 b)).toArray, .int .u8 p, .int .i64 n] w fun e w' => ∃ v, e = .returned v ∧ (∃ u, v = .tuple #[u, .int .i64 0] ∧ OwnB w' w.heap.size u (pse6 a b n p)) ∧ Below w.heap.size w w' := by
 rw [u8s_16 ha, u8s_16 hb]
 refine (rpseudo6_ok a b ha hb ra rb p n hp.1 hp.2 hn.1 hn.2 w).mono fun e w' h => ?_
 obtain ⟨u, rfl, hO, hB⟩ := h
 exact ⟨_, rfl, ⟨u, rfl, hO⟩, hB⟩
theorem rcheck_x {d : D4} {p : W4} {w : World} (hR : Rd4 w.heap.size w d p) : Calls Try.prog 42 #[.agg (d.cells p)] w fun e w' => ∃ v, e = .returned v ∧ v = .int .i64 d.check ∧ Below w.heap.size w w' := by
 refine (rcheck_any d p w (Nat.le_trans hR.opt.cap hR.opt.big) (Nat.le_trans hR.body.cap hR.body.big)).mono fun e w' h => ?_
 obtain ⟨⟨q, rfl, hq⟩, hb⟩ := h
 exact ⟨_, rfl, by rw [hq.out], hb⟩
theorem rcheck6_x {d : D6} {p : W6} {w : World} (hR : Rd6 w.heap.size w d p) : Calls Try.prog 36 #[.agg (d.cells p)] w fun e w' => ∃ v, e = .returned v ∧ v = .int .i64 d.check ∧ Below w.heap.size w w' := by
 refine (rcheck6_any d p w hR).mono fun e w' h => ?_
 obtain ⟨⟨q, rfl, hq⟩, hb⟩ := h
 exact ⟨_, rfl, by rw [hq.out], hb⟩
end Go.Proofs.Ytjnphelfloiadaa
namespace Go.Proofs.Ytjnphelfloiadaa
open Go.RowKit Go.Shelf
attribute [local irreducible] wpList Code.wp Oper.wp wpOp wpAnyH

theorem res_tt {P : Program} {fn : Func} {tmps : Array Value} {a b : Nat} {v u : Value} {w : World} (hr : fn.results = #[.tmp a, .tmp b]) (hx : tmps.getD a undef = v) (hb : tmps.getD b undef = u) : (results fn tmps).run P w = .ok (.tuple #[v, u]) w := by
 rw [Array.getD_eq_getD_getElem?] at hx hb
 simp [results, hr, hx, hb]
def TwoR (r : List Int × Int) (base : Nat) (w' : World) (e : Ending) : Prop := ∃ v, e = .returned (.tuple #[v, .int .i64 r.2]) ∧ OwnB w' base v r.1
theorem TwoR.ok {r : List Int × Int} {base : Nat} {w' : World} {v : Value} {l : List Int} {k : Int} (h : r = (l, k)) (hO : OwnB w' base v l) : TwoR r base w' (.returned (.tuple #[v, .int .i64 k])) := by
 subst h
 exact ⟨v, rfl, hO⟩
end Go.Proofs.Ytjnphelfloiadaa
