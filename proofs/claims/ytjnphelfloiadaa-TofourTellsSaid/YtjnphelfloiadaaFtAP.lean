/-
  Lemmas and walks for the row of TofourTells (part 16 of 37).
-/
import Derived.Test.YtjnphelfloiadaaFtAB
import Derived.Test.YtjnphelfloiadaaFtAC
import Derived.Test.YtjnphelfloiadaaFtAD
import Derived.Test.YtjnphelfloiadaaFtAE
import Derived.Test.YtjnphelfloiadaaFtAF
import Derived.Test.YtjnphelfloiadaaFtAH
import Derived.Test.YtjnphelfloiadaaFtAJ
import Derived.Test.YtjnphelfloiadaaFtAK
import Derived.Test.YtjnphelfloiadaaFtAN
import Derived.Test.YtjnphelfloiadaaFtAO
import Derived.StillTailTactics
import Derived.Deep.RegionWith
import Derived.Lib.SliceRun
set_option linter.unusedVariables false
set_option linter.unusedSimpArgs false
namespace Go.Proofs.Ytjnphelfloiadaa
open Go.RowKit Go.Shelf

theorem Own6.setRow {w : World} {base g : Nat} {cs : Array Value} {D : D6} {p : W6} (h : Own6 w base D p) (hg : g < base) : Own6 (w.setRow g cs) base D p :=
 ⟨h.ok, h.own.but6 (But6.setRow g w cs) hg, h.hl, h.body.but6 (But6.setRow g w cs) hg⟩
theorem Own6.more {w : World} {base base' : Nat} {D : D6} {p : W6} (h : Own6 w base D p) (hb : base' ≤ base) : Own6 w base' D p := ⟨h.ok, h.own.more hb, h.hl, h.body.more hb⟩
theorem Own6.below {w w' : World} {base : Nat} {D : D6} {p : W6} (h : Own6 w base D p) (hb : Below w.heap.size w w') : Own6 w' base D p := ⟨h.ok, h.own.below hb, h.hl, h.body.below hb⟩
set_option maxRecDepth 100000 in
theorem ppart6_any (A : Option Addr) (c : Nat) (l : List Int) (w : World) (hy : By w.heap.size w A l.length c l) :
  Calls Try.prog 48 #[.slice A l.length c] w fun e w' => Told6 w.heap.size w' (got6 false l) ((g6 false l).pat : Int) (g6 false l).err e ∧ Below w.heap.size w w' := by
 have hV : Has (w.alloc (.cells z6cells 28)) w.heap.size (.cells z6cells 28 (0, 0)) := Has.newAt rfl
 have hB : Below w.heap.size w (w.alloc (.cells z6cells 28)) := (Below.refl _ _).alloc (Nat.le_refl _) _
 have hc := Lib.hid (read6_false A c l (w.alloc (.cells z6cells 28)) ((hy.below hB (Nat.le_refl _)).more hB.size))
 go_enter Try.func48, Try.ntmps48
 go_wp2_with fail
 refine hc.out.mono ?_
 rintro e w1 ⟨⟨p, a, s, rfl, h1, h2, h3⟩, hb⟩
 have hV := hV.below hb hV.lt
 have hlt : w.heap.size < (w.alloc (.cells z6cells 28)).heap.size := by simp
 clear hc
 go_wp2_with (refine wpList_store_row rfl 28 (.tmp 2) (.tmp 7) rfl w.heap.size _ rfl rfl 28 _ hV v6_info rfl (D6.cells_one _ _) ?_)
 exact bodyPost_ret (res_cell3 Try.results48 rfl (hV.setRow_same.load (P := Try.prog) 28 Try.underlying28 rfl v6_info) rfl rfl) rfl
  ⟨⟨p, a, s, rfl, h1, h2, (h3.setRow hlt).more hB.size⟩, hB.trans ((hb.mono hB.size).trans below_setRow')⟩
end Go.Proofs.Ytjnphelfloiadaa
namespace Go.Proofs.Ytjnphelfloiadaa
open Go.RowKit Go.Shelf

/-- the cells of an api.Ends6 -/
def ends6 (s t : List Int) : Array Value :=
 #[.int .u8 (s.getD 0 0), .int .u8 (s.getD 1 0), .int .u8 (s.getD 2 0), .int .u8 (s.getD 3 0), .int .u8 (s.getD 4 0), .int .u8 (s.getD 5 0), .int .u8 (s.getD 6 0), .int .u8 (s.getD 7 0), .int .u8 (s.getD 8 0), .int .u8 (s.getD 9 0), .int .u8 (s.getD 10 0), .int .u8 (s.getD 11 0), .int .u8 (s.getD 12 0), .int .u8 (s.getD 13 0), .int .u8 (s.getD 14 0), .int .u8 (s.getD 15 0),
  .int .u8 (t.getD 0 0), .int .u8 (t.getD 1 0), .int .u8 (t.getD 2 0), .int .u8 (t.getD 3 0), .int .u8 (t.getD 4 0), .int .u8 (t.getD 5 0), .int .u8 (t.getD 6 0), .int .u8 (t.getD 7 0), .int .u8 (t.getD 8 0), .int .u8 (t.getD 9 0), .int .u8 (t.getD 10 0), .int .u8 (t.getD 11 0), .int .u8 (t.getD 12 0), .int .u8 (t.getD 13 0), .int .u8 (t.getD 14 0), .int .u8 (t.getD 15 0)]
structure E6ok (s t : List Int) : Prop where
 sL : s.length = 16
 s : InB s
 tL : t.length = 16
 t : InB t
theorem Rd4.to {w w' : World} {d : D4} {p : W4} (h : Rd4 w.heap.size w d p) (b : Below w.heap.size w w') : Rd4 w'.heap.size w' d p := (h.below b (Nat.le_refl _)).more b.size
theorem Rd7.to {w w' : World} {d : D7} {A : Option Addr} {c : Nat} (h : Rd7 w.heap.size w d A c) (b : Below w.heap.size w w') : Rd7 w'.heap.size w' d A c := (h.below b (Nat.le_refl _)).more b.size
end Go.Proofs.Ytjnphelfloiadaa
namespace Go.Proofs.Ytjnphelfloiadaa
open Go.RowKit Go.Shelf

theorem pseudo6_ok (a b : List Int) (ha : a.length = 16) (hb : b.length = 16) (ra : InB a) (rb : InB b) (p n : Int) (hp0 : 0 ≤ p) (hp1 : p ≤ 255) (h0 : 0 ≤ n) (h1 : n ≤ 65535) (w : World) :
    Calls Try.prog 67 #[.agg (u8s a).toArray, .agg (u8s b).toArray, .int .u8 p, .int .i64 n] w fun e w' => ∃ v, e = .returned (.tuple #[v, .int .i64 0]) ∧ OwnB w' w.heap.size v (a ++ b ++ [0, 0, n / 256, n % 256, 0, 0, 0, p]) ∧ Below w.heap.size w w' := by
    go_enter Try.func67, Try.ntmps67
    go_wp2
    have hr4 : InB [0, 0, IntKind.u8.wrap (n / 256), IntKind.u8.wrap n, 0, 0, 0, p] := fun x hx => by
      simp only [IntKind.wrap_u8, List.mem_cons, List.not_mem_nil, or_false] at hx
      omega
    have hb1 : Below w.heap.size w ((((w.alloc (.cells (u8s a).toArray 24)).alloc (.cells (u8s b).toArray 24)).alloc (.cells (u8s [0, 0, IntKind.u8.wrap (n / 256), IntKind.u8.wrap n, 0, 0, 0, p]).toArray 5)).alloc (.cells #[Value.slice (some ⟨w.heap.size, 0, none⟩) 16 16, Value.slice (some ⟨w.heap.size + 1, 0, none⟩) 16 16, Value.slice (some ⟨w.heap.size + 1 + 1, 0, none⟩) 8 8] 26)).drew :=
      (((((Below.refl _ w).alloc (Nat.le_refl _) _).alloc (by simp) _).alloc (by simp; omega) _).alloc (by simp; omega) _).drew
    go_region_with (go_at_call 81; (refine (concat_any _ _ [(some ⟨w.heap.size, 0, none⟩, 16, a), (some ⟨w.heap.size + 1, 0, none⟩, 16, b), (some ⟨w.heap.size + 1 + 1, 0, none⟩, 8, [0, 0, IntKind.u8.wrap (n / 256), IntKind.u8.wrap n, 0, 0, 0, p])] _
      (Parts.blk (t := 26) (fz := (0, 0)) (by simp only [List.map_cons, List.map_nil, ha, hb]; repeat (first | exact Has.newAt (by simp) | refine Has.drew ?_ | refine Has.alloc ?_)) (Nat.le_refl _) rfl
        (all3 (By.blk (t := 24) (fz := (0, 0)) (by repeat (first | exact Has.newAt (by simp) | refine Has.drew ?_ | refine Has.alloc ?_)) (Nat.le_refl _) ra (show a.length ≤ _ by omega) rfl (by simp [ha]))
         (By.blk (t := 24) (fz := (0, 0)) (by repeat (first | exact Has.newAt (by simp) | refine Has.drew ?_ | refine Has.alloc ?_)) (Nat.le_refl _) rb (show b.length ≤ _ by omega) rfl (by simp [hb]))
         (By.blk (t := 5) (fz := (0, 0)) (by repeat (first | exact Has.newAt (by simp) | refine Has.drew ?_ | refine Has.alloc ?_)) (Nat.le_refl _) hr4 (by simp) rfl rfl)) (by simp)) (by simp [flat]; omega)).mono ?_); rintro e w' ⟨v, rfl, hown, hb2⟩; obtain ⟨A', c', rfl, _⟩ := own_shape hown.own)
    go_wp2
    go_ret2
    refine ⟨_, rfl, ?_, hb1.trans (hb2.mono hb1.size)⟩
    have he : flat [(some ⟨w.heap.size, 0, none⟩, 16, a), (some ⟨w.heap.size + 1, 0, none⟩, 16, b), (some ⟨w.heap.size + 1 + 1, 0, none⟩, 8, [0, 0, IntKind.u8.wrap (n / 256), IntKind.u8.wrap n, 0, 0, 0, p])] = a ++ b ++ [0, 0, n / 256, n % 256, 0, 0, 0, p] := by
      simp only [flat, List.map_cons, List.map_nil, List.flatten_cons, List.flatten_nil, IntKind.wrap_u8, List.append_nil, List.append_assoc]
      rw [show n / 256 % 256 = n / 256 from by omega]
    rw [← he]
    exact hown.more hb1.size
end Go.Proofs.Ytjnphelfloiadaa
namespace Go.Proofs.Ytjnphelfloiadaa
open Go.RowKit Go.Shelf

theorem icmp_info : (Try.prog.info? 43).map (·.size) = some 4 := by kernel_rfl

theorem long7_any (d : D7) (A : Option Addr) (c : Nat) (w : World) (hb : d.bl.length ≤ 9223372036854775807) :
  Calls Try.prog 69 #[.agg (d.cells A c)] w fun e w' => ∃ q : Bool, e = .returned (.bool q) ∧ Hid (q = decide (65527 < d.bl.length)) ∧ Below w.heap.size w w' := by
 unfold D7.cells
 go_enter Try.func69, Try.ntmps69
 go_wp2
 go_ret
 exact ⟨_, rfl, Lib.hid (decide_eq_decide.2 (by omega)), (Below.refl _ _).alloc (Nat.le_refl _) _⟩

set_option maxRecDepth 100000 in
theorem write7_any (d : D7) (A : Option Addr) (c : Nat) (Ap : Option Addr) (cp : Nat) (ps : List Int) (w : World) (hR : Rd7 w.heap.size w d A c) (hp : By w.heap.size w Ap ps.length cp ps) (h0 : d.bl.length ≤ 65527) :
  Calls Try.prog 70 #[.agg (d.cells A c), .slice Ap ps.length cp] w fun e w' => ∃ v, e = .returned v ∧ OwnB w' w.heap.size v (d.bytes ps) ∧ Below w.heap.size w w' := by
 have r1 := hR.ok.ty
 have r2 := hR.ok.code
 have r3 := hR.ok.rest
 have hB : Below w.heap.size w (w.alloc (.cells (d.cells A c) 43)) := (Below.refl _ _).alloc (Nat.le_refl _) _
 have hH : Has (w.alloc (.cells (d.cells A c) 43)) w.heap.size (.cells (d.cells A c) 43 (0, 0)) := Has.newAt rfl
 unfold D7.cells
 go_enter Try.func70, Try.ntmps70
 go_wp2_with fail
 refine (of_new [(Ap, cp, ps), (some ⟨w.heap.size + 1, 0, none⟩, 8, d.first 0), (A, c, d.bl)] 3 (by simp only [List.map_cons, List.map_nil]; exact Has.newAt (by simp)) rfl
  (all3 (By.more (B := w.heap.size) (by repeat (first | exact hp | refine By.alloc ?_ (by simp; try omega) _)) (by simp; try omega))
   (By.blk (t := 5) (fz := (0, 0)) (by repeat (first | exact Has.newAt (by simp) | refine Has.alloc ?_)) (Nat.le_refl _) (d.first_rng hR.ok (by decide)) (by simp [D7.first]) rfl rfl)
   (By.more (B := w.heap.size) (by repeat (first | exact hR.body | refine By.alloc ?_ (by simp; try omega) _)) (by simp; try omega))) (by simp)).mono ?_
 rintro e w5 ⟨q, rfl, hq, hq2, hb5⟩
 have hA : Has w5 (w.heap.size + 1) (.cells (u8s (d.first 0)).toArray 5 (0, 0)) := Has.below (by repeat (first | exact Has.newAt (by simp) | refine Has.alloc ?_)) hb5 (by simp; try omega)
 have hH5 := (hH.alloc.alloc).below hb5 (by simp; try omega)
 have hBD : Below w.heap.size w w5 := Below.trans (by repeat (first | exact Below.refl _ _ | refine Below.alloc ?_ (by simp; try omega) _)) (hb5.mono (by simp; try omega))
 have hqs : q = d.sum ps := by rw [hq.out]; simp [flat, D7.sum]
 have hA9 := (hA.setCell 2 (.int .u8 (q / 256))).setCell 3 (.int .u8 (q % 256))
 have hBE := Lib.hid (below_setCell (below_setCell hBD (Nat.le_succ _) 2 (.int .u8 (q / 256))) (Nat.le_succ _) 3 (.int .u8 (q % 256)))
 have e9 : ((u8s (d.first 0)).toArray.setIfInBounds 2 (.int .u8 (q / 256))).setIfInBounds 3 (.int .u8 (q % 256)) = (u8s (d.first q)).toArray := rfl
 rw [e9] at hA9
 have own := Lib.hid (OwnB.blk (n := 8) hA9 (Nat.le_succ w.heap.size) rfl (d.first_rng hR.ok hq2) (by simp [D7.first]))
 have yB := Lib.hid (hR.body.below hBE.out (Nat.le_refl _))
 have d2 := hA.cell 2 (v := .int .u8 0) rfl
 have d3 := hA.cell 3 (v := .int .u8 0) rfl
 have f2 := hA.free 2
 have f3 := hA.free 3
 have c3 := hH5.cell 3 (v := .slice A d.bl.length c) rfl
 have hs := Lib.hid hBE.out.size
 have hqsH := Lib.hid hqs
 clear hq hqs hA hA9 e9 hb5 hB hH hH5 hBD
 go_wp2_with (at_builtin; refine wpList_appB _ rfl _ _ _ rfl Try.underlying26 info8 w.heap.size _ (d.first q) rfl own.out _ A d.bl.length c d.bl rfl yB.out (by simp [D7.first]; omega) hs.out ?_; intro v' w7 own7 hg hat; have hbel := below_app own.out hg hs.out; obtain ⟨A', c', rfl, _⟩ := own_shape own7.own; clear d2 d3 f2 f3 c3)
 go_ret
 refine ⟨_, rfl, ?_, hBE.out.trans hbel⟩
 rw [D7.bytes, ← hqsH.out]
 rw [List.length_append] at own7
 exact own7

/-- what Write4 answers -/
theorem iwrite4_any (d : D7) (A : Option Addr) (c : Nat) (w : World) (hR : Rd7 w.heap.size w d A c) :
  Calls Try.prog 33 #[.agg (d.cells A c)] w fun e w' => ∃ v s, e = .returned (.tuple #[v, .int .i64 s]) ∧ Hid (s = d.err) ∧ OwnB w' w.heap.size v (d.write []) ∧ Below w.heap.size w w' := by
 have hb := Nat.le_trans hR.body.cap hR.body.big
 have hB : Below w.heap.size w (w.alloc (.cells (d.cells A c) 43)) := (Below.refl _ _).alloc (Nat.le_refl _) _
 have hH : Has (w.alloc (.cells (d.cells A c) 43)) w.heap.size (.cells (d.cells A c) 43 (0, 0)) := Has.newAt rfl
 by_cases h0 : 65527 < d.bl.length
 ·have e1 : d.err = 2 := if_pos h0
  have e2 : d.write [] = [] := if_pos h0
  rw [e1, e2]
  have h0H := Lib.hid h0
  clear e1 e2 h0
  go_enter Try.func33, Try.ntmps33
  go_wp2_with (refine wpList_load_row rfl 43 (.tmp 1) rfl w.heap.size rfl 43 (d.cells A c) (0, 0) _ (World.alloc_heap_new _ _) Try.underlying43 rfl icmp_info ?_)
  refine (long7_any d A c _ hb).mono ?_
  rintro e w1 ⟨q, rfl, hq, hb1⟩
  obtain rfl : q = true := hq.out.trans (decide_eq_true h0H.out)
  go_wp2
  go_ret2
  exact ⟨_, _, rfl, Lib.hid rfl, OwnB.nil _ _, hB.trans (hb1.mono hB.size)⟩
 ·have e1 : d.err = 0 := if_neg h0
  have e2 : d.write [] = d.bytes [] := if_neg h0
  rw [e1, e2]
  have h0H := Lib.hid h0
  clear e1 e2 h0
  go_enter Try.func33, Try.ntmps33
  go_wp2_with (refine wpList_load_row rfl 43 (.tmp 1) rfl w.heap.size rfl 43 (d.cells A c) (0, 0) _ (World.alloc_heap_new _ _) Try.underlying43 rfl icmp_info ?_)
  refine (long7_any d A c _ hb).mono ?_
  rintro e w1 ⟨q, rfl, hq, hb1⟩
  obtain rfl : q = false := hq.out.trans (decide_eq_false h0H.out)
  have hH1 := hH.below hb1 hH.lt
  have hB1 := hB.trans (hb1.mono hB.size)
  clear hq hb1 hB hH
  have hR1 := (hR.below hB1 (Nat.le_refl _)).more (B' := w1.heap.size) hB1.size
  go_wp2_with (refine wpList_load_row rfl 43 (.tmp 1) rfl w.heap.size rfl 43 (d.cells A c) (0, 0) _ hH1 Try.underlying43 rfl icmp_info ?_)
  refine (write7_any d A c none 0 [] w1 hR1 (By.nil _ _ _ (by decide)) (by have := h0H.out; omega)).mono ?_
  rintro e w2 ⟨v, rfl, ho, hb2⟩
  obtain ⟨A', c', rfl, _⟩ := own_shape ho.own
  have ho2 := ho.more (base' := w.heap.size) hB1.size
  clear ho
  go_wp2
  go_ret2
  exact ⟨_, _, rfl, Lib.hid rfl, ho2, hB1.trans (hb2.mono hB1.size)⟩
end Go.Proofs.Ytjnphelfloiadaa
namespace Go.Proofs.Ytjnphelfloiadaa
open Go.RowKit Go.Shelf

theorem bit_any (b : Bool) (n : Int) (w : World) : Calls Try.prog 80 #[.bool b, .int .i64 n] w fun e w' => e = .returned (.int .i64 (if b then n else 0)) ∧ w' = w := by
 cases b
 ·go_enter Try.func80, Try.ntmps80
  go_wp2
  go_ret
  exact ⟨rfl, rfl⟩
 ·go_enter Try.func80, Try.ntmps80
  go_wp2
  go_ret
  exact ⟨rfl, rfl⟩

theorem arr20_info : (Try.prog.info? 122).map (·.size) = some 20 := by kernel_rfl
theorem or_i64_nat (a b : Nat) (ha : a < 2 ^ 63) (hb : b < 2 ^ 63) : bits .or .i64 (a : Int) (b : Int) = ((a ||| b : Nat) : Int) :=
 (bits_nat .i64 63 (by decide) (fun n h0 h1 => IntWalk.i64_in n (by omega)) a b ha hb).2
theorem or_off (off : Int) (h0 : 0 ≤ off) (h1 : off ≤ 8191) (df mf : Bool) :
  bits .or .i64 (bits .or .i64 off (if df then 16384 else 0)) (if mf then 8192 else 0) = off + (if df then 16384 else 0) + (if mf then 8192 else 0) := by
 obtain ⟨n, rfl⟩ := Int.eq_ofNat_of_zero_le h0
 have hn : n < 8192 := by omega
 have key : ∀ a b : Nat, a < 65536 → b < 65536 → (a ||| b) % 2 ^ 13 = 0 → (a ||| b) < 65536 → bits .or .i64 (bits .or .i64 (n : Int) (a : Int)) (b : Int) = ((n + (a ||| b) : Nat) : Int) := fun a b ha hb hm hlt => by
  have hna : n ||| a < 65536 := Nat.or_lt_two_pow (n := 16) (by omega) ha
  rw [or_i64_nat n a (by omega) (by omega), or_i64_nat (n ||| a) b (by omega) (by omega), Nat.or_assoc, Nat.or_comm n, nat_join 13 _ _ hm (by omega), Nat.add_comm]
 cases df <;> cases mf
 ·exact (key 0 0 (by decide) (by decide) (by decide) (by decide)).trans (by simp)
 ·exact (key 0 8192 (by decide) (by decide) (by decide) (by decide)).trans (by simp)
 ·exact (key 16384 0 (by decide) (by decide) (by decide) (by decide)).trans (by simp)
 ·exact (key 16384 8192 (by decide) (by decide) (by decide) (by decide)).trans (by simp; omega)

theorem D4.src_cells (d : D4) {p : W4} {w : World} {g : Nat} {t : TypeId} {fz : Nat × Nat} (h : Has w g (.cells (d.cells p) t fz)) (j : Nat) (v : Value) (hj : (u8s d.src)[j]? = some v) : w.cell? ((⟨g, 7, none⟩ : Addr).add j) = some v := by
 have hc : (d.cells p)[7 + j]? = some v := by
  match j, hj with
  | 0, hj => exact hj
  | 1, hj => exact hj
  | 2, hj => exact hj
  | 3, hj => exact hj
  | k + 4, hj => simp [u8s, D4.src] at hj
 have hr := h.cell (7 + j) hc
 unfold Addr.add
 cases j
 ·exact hr
 ·exact hr
theorem D4.dst_cells (d : D4) {p : W4} {w : World} {g : Nat} {t : TypeId} {fz : Nat × Nat} (h : Has w g (.cells (d.cells p) t fz)) (j : Nat) (v : Value) (hj : (u8s d.dst)[j]? = some v) : w.cell? ((⟨g, 11, none⟩ : Addr).add j) = some v := by
 have hc : (d.cells p)[11 + j]? = some v := by
  match j, hj with
  | 0, hj => exact hj
  | 1, hj => exact hj
  | 2, hj => exact hj
  | 3, hj => exact hj
  | k + 4, hj => simp [u8s, D4.dst] at hj
 have hr := h.cell (11 + j) hc
 unfold Addr.add
 cases j
 ·exact hr
 ·exact hr
theorem u8s_one (l : List Int) : ∀ v ∈ u8s l, v.oneCell' = true := by intro v hv; simp only [u8s, List.mem_map] at hv; obtain ⟨_, _, rfl⟩ := hv; rfl

theorem D4.first_set (d : D4) (q : Int) : ((u8s (d.first 0)).toArray.setIfInBounds 10 (.int .u8 (q / 256))).setIfInBounds 11 (.int .u8 (q % 256)) = (u8s (d.first q)).toArray := rfl

set_option maxRecDepth 100000 in
set_option maxHeartbeats 1000000 in
theorem write_ok (d : D4) (p : W4) (w : World) (hR : Rd4 w.heap.size w d p) (h0 : d.check = 0) :
  Calls Try.prog 51 #[.agg (d.cells p)] w fun e w' => ∃ v, e = .returned (.tuple #[v, .int .i64 0]) ∧ OwnB w' w.heap.size v d.bytes ∧ Below w.heap.size w w' := by
 obtain ⟨h1, h2, h3, h4⟩ := d.ok_of_check h0
 have hB : Below w.heap.size w (w.alloc (.cells (d.cells p) 35)) := (Below.refl _ _).alloc (Nat.le_refl _) _
 have hH : Has (w.alloc (.cells (d.cells p) 35)) w.heap.size (.cells (d.cells p) 35 (0, 0)) := Has.newAt rfl
 have hcH := Lib.hid (size_any d p (w.alloc (.cells (d.cells p) 35)) (by omega) (by omega))
 have e1 : d.all = (20 + d.ol.length : Int) + d.bl.length := by unfold D4.all D4.hl; rw [if_pos h0]; omega
 have e2 : d.head = 20 + d.ol.length := by unfold D4.head D4.hl; rw [if_pos h0]; omega
 have e1H := Lib.hid e1
 have e2H := Lib.hid e2
 have h0H := Lib.hid h0
 have h3H := Lib.hid h3
 clear e1 e2 h0 h3
 go_enter Try.func51, Try.ntmps51
 go_wp2_with (refine wpList_load_row rfl 35 (.tmp 1) rfl w.heap.size rfl 35 (d.cells p) (0, 0) _ (World.alloc_heap_new _ _) Try.underlying35 rfl v4_info ?_)
 refine hcH.out.mono ?_
 rintro e w1 ⟨⟨q, r, s, rfl, hq⟩, hb1⟩
 obtain rfl : s = 0 := hq.out.2.2.trans h0H.out
 obtain ⟨O, hO⟩ : ∃ O : Nat, d.ol.length = O := ⟨_, rfl⟩
 obtain ⟨M, hM⟩ : ∃ M : Nat, d.bl.length = M := ⟨_, rfl⟩
 have hr : r = ((20 + O : Nat) : Int) := by rw [hq.out.2.1, e2H.out, hO]; omega
 have hq' : q = ((20 + O + M : Nat) : Int) := by rw [hq.out.1, e1H.out, hO, hM]; omega
 subst hr hq'
 have hB1 : Below w.heap.size w w1 := hB.trans (hb1.mono hB.size)
 have hH1 := hH.below hb1 hH.lt
 have c0 := hH1.cell 0 (v := .int .u8 d.tos) rfl
 have c1 := hH1.cell 1 (v := .int .u16 d.id) rfl
 have c2 := hH1.cell 2 (v := .bool d.df) rfl
 have c3 := hH1.cell 3 (v := .bool d.mf) rfl
 have c4 := hH1.cell 4 (v := .int .i64 d.off) rfl
 have c5 := hH1.cell 5 (v := .int .u8 d.ttl) rfl
 have c6 := hH1.cell 6 (v := .int .u8 d.proto) rfl
 clear hq hcH hH hB hb1
 go_wp2
 go_quiet ((go_at_call 80; exact Calls.quiet_of_same (bit_any _ _ _)))
 have hof := or_off d.off h1.1 h1.2 d.df d.mf
 have hF2 : 0 ≤ d.offw ∧ d.offw < 65536 := by unfold D4.offw; split <;> split <;> omega
 have hF : d.off + (if d.df = true then 16384 else 0) + (if d.mf = true then 8192 else 0) = d.offw := rfl
 rw [hF] at hof
 generalize (if d.df = true then (16384 : Int) else 0) = E1 at hof ⊢
 generalize (if d.mf = true then (8192 : Int) else 0) = E2 at hof ⊢
 rw [hof]
 clear hF hof
 obtain ⟨F, hF⟩ : ∃ F, d.offw = F := ⟨_, rfl⟩
 rw [hF] at hF2 ⊢
 have hFH := Lib.hid hF
 have hOH := Lib.hid hO
 have hMH := Lib.hid hM
 have rid := hR.ok.id
 have rtos := hR.ok.tos
 have hO2 : O ≤ 40 := hO ▸ h2
 have hM2 : M ≤ 65515 := by omega
 obtain ⟨T, hT⟩ : ∃ T : Int, (20 + (O : Int)).tdiv 4 = T := ⟨_, rfl⟩
 have hT2 : T = (20 + (O : Int)) / 4 := by rw [← hT, Int.tdiv_eq_ediv_of_nonneg (by omega)]
 have hT3 : 5 ≤ T ∧ T ≤ 15 := by omega
 have hOM := Lib.hid (show O + M ≤ 65515 by omega)
 have hT2H := Lib.hid hT2
 have hor : bits .or .u8 64 T = 64 + T := or_u8 6 (by omega) (by omega) (by omega) (by omega) (by omega) (by omega)
 clear hF hO hM hT2 h2 h4
 go_wp2_with (refine wpList_store_has rfl 122 (.tmp 8) (.tmp 56) rfl ?g ?c ?hx ?hy ?t ?old ?hg ?hi ?ho ?h1 ?hk)
 case hx => exact rfl
 case hy => exact rfl
 case hg => exact Has.newAt rfl
 case hi => exact arr20_info
 case ho => rfl
 case h1 => simp [Value.oneCell']
 case hk =>
 intro w2 hA2 hb2
 have hA3 := Lib.hid (show Has w2 w1.heap.size (.cells (u8s [64 + T, d.tos, (20 + (O : Int) + M) / 256 % 256, (20 + (O : Int) + M) % 256, d.id / 256, d.id % 256, F / 256, F % 256, d.ttl, d.proto, 0, 0, 0, 0, 0, 0, 0, 0, 0, 0]).toArray 122 (0, 0)) from hA2)
 have hB2 : Below w.heap.size w w2 := hB1.trans ((((below_drewN _ _ _).alloc (Nat.le_refl _) _).trans hb2).mono hB1.size)
 have hH2 := hH1.below (((below_drewN _ _ _).alloc (Nat.le_refl _) _).trans hb2) hH1.lt
 clear hA2 hb2
 obtain ⟨L0, hL0⟩ : ∃ L0 : List Int, L0 = [64 + T, d.tos, (20 + (O : Int) + M) / 256 % 256, (20 + (O : Int) + M) % 256, d.id / 256, d.id % 256, F / 256, F % 256, d.ttl, d.proto, 0, 0, 0, 0, 0, 0, 0, 0, 0, 0] := ⟨_, rfl⟩
 have hLn : L0.length = 20 := by rw [hL0]; rfl
 rw [← hL0] at hA3
 have hL0H := Lib.hid hL0
 clear hL0 hT hor
 obtain ⟨Z0, hZ0⟩ : ∃ Z0 : List Value, Z0 = u8s L0 := ⟨_, rfl⟩
 rw [← hZ0] at hA3
 have hZn : Z0.length = 20 := by rw [hZ0, u8s_length, hLn]
 have hZ0H := Lib.hid hZ0
 clear hZ0 hLn
 have hA4 := hA3.out
 go_wp2
 have hsrc : ∀ (j : Nat) (v : Value), (u8s d.src)[j]? = some v → w2.cell? ((⟨w.heap.size, 7, none⟩ : Addr).add j) = some v := d.src_cells hH2
 go_region_law (refine step_copy_splice rfl (.tmp 57) (.tmp 59) 26 26 rfl 5 rfl rfl _ _ _ _ _ _ rfl rfl w1.heap.size 12 Z0 122 hA4 (u8s d.src) rfl (fun _ => ⟨rfl, _, rfl, hsrc⟩) (by rw [hZn]; exact (by decide : 12 + 4 ≤ 20)) (u8s_one _) w1.heap.size w2 (below_drew _ _) (Nat.le_refl _) ?_; intro w3 hA5 hB3)
 obtain ⟨Z1, hZ1⟩ : ∃ Z1 : List Value, Z1 = splice Z0 12 (u8s d.src) := ⟨_, rfl⟩
 rw [← hZ1] at hA5
 have hZ1n : Z1.length = 20 := by rw [hZ1, length_splice _ _ _ (by rw [hZn]; exact (by decide : 12 + 4 ≤ 20)), hZn]
 have hZ1H := Lib.hid hZ1
 have hA6 := hA5.out
 have hH3 := hH2.below hB3 (Nat.lt_of_lt_of_le hH1.lt (Nat.le_refl _))
 have hBB := hB2.trans (hB3.mono hB1.size)
 clear hZ1 hA4 hA5 hsrc hH2 hB2 hB3
 go_wp2
 have hsrc : ∀ (j : Nat) (v : Value), (u8s d.dst)[j]? = some v → w3.cell? ((⟨w.heap.size, 11, none⟩ : Addr).add j) = some v := d.dst_cells hH3
 go_region_law (refine step_copy_splice rfl (.tmp 61) (.tmp 63) 26 26 rfl 5 rfl rfl _ _ _ _ _ _ rfl rfl w1.heap.size 16 Z1 122 hA6 (u8s d.dst) rfl (fun _ => ⟨rfl, _, rfl, hsrc⟩) (by rw [hZ1n]; exact (by decide : 16 + 4 ≤ 20)) (u8s_one _) w1.heap.size w3 (below_drew _ _) (Nat.le_refl _) ?_; intro w4 hA7 hB4)
 have hA8 : Has w4 w1.heap.size (.cells (u8s (d.first 0)).toArray 122 (0, 0)) := by
  have e : splice Z1 16 (u8s d.dst) = u8s (d.first 0) := by
   rw [hZ1H.out, hZ0H.out, hL0H.out]
   simp [splice, u8s, D4.first, D4.src, D4.dst, D4.hl, hT2H.out, hFH.out, hOH.out, hMH.out]
   have := hOM.out
   omega
  exact e ▸ hA7.out
 have hH4 := hH3.below hB4 hH1.lt
 have hBC := hBB.trans (hB4.mono hB1.size)
 have c15 := hH4.cell 15 (v := .slice p.oA d.ol.length p.oc) rfl
 have yO := hR.opt.below hBC (Nat.le_refl _)
 have hrF : InB (d.first 0) := d.first_rng hR.ok h0H.out (by decide)
 obtain ⟨F0, hF0⟩ : ∃ F0, d.first 0 = F0 := ⟨_, rfl⟩
 have hF0n : F0.length = 20 := by rw [← hF0]; rfl
 rw [hF0] at hA8 hrF
 have yF : By w4.heap.size w4 (some ⟨w1.heap.size, 0, none⟩) 20 20 F0 := By.blk' hA8 hA8.lt hrF (by omega) hF0n.symm hF0n.symm
 have hF0H := Lib.hid hF0
 have hF0nH := Lib.hid hF0n
 have hs4 := Lib.hid hBC.size
 clear hF0 hF0n hA6 hA7 hB4 hBB hH3 hsrc hZ1n hZn c0 c1 c2 c3 c4 c5 c6
 go_wp2
 go_region_with (go_at_call 53; (refine (of_new [(some ⟨w1.heap.size, 0, none⟩, 20, F0), (p.oA, p.oc, d.ol)] 2 (by simp only [List.map_cons, List.map_nil, hF0nH.out]; repeat (first | exact Has.newAt (by simp) | refine Has.drew ?_ | refine Has.alloc ?_)) rfl
  (all2 (By.more (B := w4.heap.size) (by simp only [hF0nH.out]; repeat (first | exact yF | refine By.drew ?_ | refine By.alloc ?_ (by simp) _)) (by simp)) (By.more (B := w.heap.size) (by repeat (first | exact yO | refine By.drew ?_ | refine By.alloc ?_ (by have := hs4.out; simp; omega) _)) (by have := hs4.out; simp; omega))) (by simp)).mono ?_); rintro e w5 ⟨q, rfl, hq, hq2, hb5⟩)
 have hb6 : Below w4.heap.size w4 w5 := Below.trans (by repeat (first | exact Below.refl _ _ | refine Below.drew ?_ | refine Below.alloc ?_ (by simp) _)) (hb5.mono (by simp))
 have hA8 := hA8.below hb6 hA8.lt
 have hH5 := hH4.below hb6 hH4.lt
 have hBD := hBC.trans (hb6.mono hBC.size)
 have hs5 := Lib.hid hBD.size
 have d10 := hA8.cell 10 (v := .int .u8 0) (by rw [← hF0H.out]; rfl)
 have d11 := hA8.cell 11 (v := .int .u8 0) (by rw [← hF0H.out]; rfl)
 have f10 := hA8.free 10
 have f11 := hA8.free 11
 clear hb6 hb5 yF c15 hH4 hs4
 go_wp2
 have hA9 := (hA8.setCell 10 (.int .u8 (q / 256))).setCell 11 (.int .u8 (q % 256))
 have hH6 := (hH5.setCell_other (Nat.ne_of_lt hH1.lt) 10 (.int .u8 (q / 256))).setCell_other (Nat.ne_of_lt hH1.lt) 11 (.int .u8 (q % 256))
 have hBE := below_setCell (below_setCell hBD hB1.size 10 (.int .u8 (q / 256))) hB1.size 11 (.int .u8 (q % 256))
 generalize (w5.setCell ⟨w1.heap.size, 10, none⟩ (.int .u8 (q / 256))).setCell ⟨w1.heap.size, 11, none⟩ (.int .u8 (q % 256)) = w6 at hA9 hH6 hBE ⊢
 have hqs : q = d.sum := by rw [hq.out, D4.sum, ← hF0H.out]; simp [flat]
 rw [← hF0H.out, d.first_set q] at hA9
 have hrF2 : InB (d.first q) := d.first_rng hR.ok h0H.out hq2
 obtain ⟨F1, hF1⟩ : ∃ F1, d.first q = F1 := ⟨_, rfl⟩
 have hF1n : F1.length = 20 := by rw [← hF1]; rfl
 rw [hF1] at hA9 hrF2
 rw [hqs] at hF1
 have hF1H := Lib.hid hF1
 have hF1nH := Lib.hid hF1n
 have yF : By w6.heap.size w6 (some ⟨w1.heap.size, 0, none⟩) 20 20 F1 := By.blk' hA9 hA9.lt hrF2 (by omega) hF1n.symm hF1n.symm
 have yO := hR.opt.below hBE (Nat.le_refl _)
 have yB := hR.body.below hBE (Nat.le_refl _)
 have c15 := hH6.cell 15 (v := .slice p.oA d.ol.length p.oc) rfl
 have c16 := hH6.cell 16 (v := .slice p.bA d.bl.length p.bc) rfl
 have hs6 := Lib.hid hBE.size
 clear hF1 hF1n hqs hq d10 d11 f10 f11 hA9 hA8 hH5 hH6 hBD hs5
 have he : flat [(some ⟨w1.heap.size, 0, none⟩, 20, F1), (p.oA, p.oc, d.ol), (p.bA, p.bc, d.bl)] = d.bytes := by
  rw [D4.bytes, hF1H.out]; simp [flat]
 go_region_with (go_at_call 81; (refine (concat_any _ _ [(some ⟨w1.heap.size, 0, none⟩, 20, F1), (p.oA, p.oc, d.ol), (p.bA, p.bc, d.bl)] _
   (Parts.blk (t := 26) (fz := (0, 0)) (by simp only [List.map_cons, List.map_nil, hF1nH.out]; repeat (first | exact Has.newAt (by simp) | refine Has.drew ?_ | refine Has.alloc ?_)) (Nat.le_refl _) rfl
    (all3 (By.more (B := w6.heap.size) (by simp only [hF1nH.out]; repeat (first | exact yF | refine By.drew ?_ | refine By.alloc ?_ (by simp) _)) (by simp))
     (By.more (B := w.heap.size) (by repeat (first | exact yO | refine By.drew ?_ | refine By.alloc ?_ (by have := hs6.out; simp; omega) _)) (by have := hs6.out; simp; omega))
     (By.more (B := w.heap.size) (by repeat (first | exact yB | refine By.drew ?_ | refine By.alloc ?_ (by have := hs6.out; simp; omega) _)) (by have := hs6.out; simp; omega))) (by simp))
   (by have := hF1nH.out; have := hOM.out; have := hOH.out; have := hMH.out; simp [flat]; omega)).mono ?_); rintro e w7 ⟨v, rfl, hown, hb7⟩; rw [he] at hown; obtain ⟨A', c', rfl, _⟩ := own_shape hown.own)
 all_goals
  have hb8 : Below w6.heap.size w6 w7 := Below.trans (by repeat (first | exact Below.refl _ _ | refine Below.drew ?_ | refine Below.alloc ?_ (by simp) _)) (hb7.mono (by simp))
  have ho := hown.more (base' := w.heap.size) (by have := hs6.out; simp; omega)
  clear he hown hb7 c15 c16 yF yO yB
  go_wp2
  go_ret2
  exact ⟨_, rfl, ho, hBE.trans (hb8.mono hBE.size)⟩
end Go.Proofs.Ytjnphelfloiadaa
namespace Go.Proofs.Ytjnphelfloiadaa
open Go.RowKit Go.Shelf

/-- a reader in block g that is at the k-th of bytes l, which lie below B -/
structure RD (B g : Nat) (t : TypeId) (W0 w : World) (l : List Int) (k : Nat) : Prop where
 st : ∃ A c, Has w g (.cells #[.slice A (l.length - k) c] t (0, 0)) ∧ By B W0 A (l.length - k) c (l.drop k)
 hg : B ≤ g
 bel : Below B W0 w
theorem RD.move {B g : Nat} {t : TypeId} {W0 w w' : World} {l : List Int} {k : Nat} (h : RD B g t W0 w l k) (hh : ∀ o, Has w g o → Has w' g o) (hb : Below B w w') : RD B g t W0 w' l k := by
 obtain ⟨A, c, h1, h2⟩ := h.st
 exact ⟨⟨A, c, hh _ h1, h2⟩, h.hg, h.bel.trans hb⟩

end Go.Proofs.Ytjnphelfloiadaa
namespace Go.Proofs.Ytjnphelfloiadaa
open Go.RowKit Go.Shelf

theorem Has.byIn {w : World} {g : Nat} {cs : Array Value} {t : TypeId} {fz : Nat × Nat} (h : Has w g (.cells cs t fz)) (off n : Nat) (l : List Int) (hn : l.length = n) (hl : (cs.toList.drop off).take n = u8s l) (hr : InB l) (hb : n ≤ 9223372036854775807) : By w.heap.size w (some ⟨g, off, none⟩) n n l := by
 subst hn
 refine ⟨⟨u8s_length l, Nat.le_refl _, fun _ => ⟨g, off, rfl, h.lt, fun j hj => ?_⟩⟩, hr, hb⟩
 have hv : (u8s l)[j]? = some (.int .u8 (l[j]'hj)) := by simp [u8s, hj]
 rw [hv]
 refine h.cell (off + j) ?_
 rw [← hl, List.getElem?_take, if_pos hj, List.getElem?_drop] at hv
 simpa using hv
theorem u8s_16 {s : List Int} (h : s.length = 16) : u8s (l16 s) = u8s s := by rw [l16_eq h]
theorem own_byS {w : World} {base n : Nat} {A : Option Addr} {c : Nat} {l : List Int} (h : OwnB w base (.slice A n c) l) : By w.heap.size w A n c l := by
 obtain ⟨A', c', e, y⟩ := h.by_
 injection e with e1 e2 e3
 subst e1 e2 e3
 exact y
theorem own_len {w : World} {base n : Nat} {A : Option Addr} {c : Nat} {l : List Int} (h : OwnB w base (.slice A n c) l) : n = l.length := (own_byS h).len.symm
theorem own_form {w : World} {base n : Nat} {A : Option Addr} {c : Nat} {l : List Int} (h : OwnB w base (.slice A n c) l) (hn : 0 < n) : ∃ g, A = some ⟨g, 0, none⟩ ∧ base ≤ g ∧ g < w.heap.size := by
 obtain ⟨g, hA, h1, h2, _⟩ := h.byte (own_len h) hn
 exact ⟨g, hA, h1, h2⟩
theorem flat2 {A1 A2 : Option Addr} {c1 c2 : Nat} (l1 l2 : List Int) : flat [(A1, c1, l1), (A2, c2, l2)] = l1 ++ l2 := by simp [flat]
theorem flat3 {A1 A2 A3 : Option Addr} {c1 c2 c3 : Nat} (l1 l2 l3 : List Int) : flat [(A1, c1, l1), (A2, c2, l2), (A3, c3, l3)] = l1 ++ l2 ++ l3 := by simp [flat]
theorem flat4 {A1 A2 A3 A4 : Option Addr} {c1 c2 c3 c4 : Nat} (l1 l2 l3 l4 : List Int) : flat [(A1, c1, l1), (A2, c2, l2), (A3, c3, l3), (A4, c4, l4)] = l1 ++ l2 ++ l3 ++ l4 := by simp [flat]
theorem concat2 {g n1 n2 c1 c2 : Nat} {A1 A2 : Option Addr} {l1 l2 : List Int} {w : World} (h : Has w g (.cells #[.slice A1 n1 c1, .slice A2 n2 c2] 26 (0, 0))) (y1 : By w.heap.size w A1 n1 c1 l1) (y2 : By w.heap.size w A2 n2 c2 l2) (hb : n1 + n2 ≤ 140737488355328) :
  Calls Try.prog 81 #[.slice (some ⟨g, 0, none⟩) 2 2] w fun e w' => ∃ v, e = .returned v ∧ OwnB w' w.heap.size v (l1 ++ l2) ∧ Below w.heap.size w w' := by
 obtain rfl := y1.len
 obtain rfl := y2.len
 have := concat_any (some ⟨g, 0, none⟩) 2 [(A1, c1, l1), (A2, c2, l2)] w (Parts.blk h (Nat.le_refl _) rfl (all2 y1 y2) (by simp)) (by rw [flat2, List.length_append]; exact hb)
 rw [flat2] at this
 exact this
theorem concat3 {g n1 n2 n3 c1 c2 c3 : Nat} {A1 A2 A3 : Option Addr} {l1 l2 l3 : List Int} {w : World} (h : Has w g (.cells #[.slice A1 n1 c1, .slice A2 n2 c2, .slice A3 n3 c3] 26 (0, 0))) (y1 : By w.heap.size w A1 n1 c1 l1) (y2 : By w.heap.size w A2 n2 c2 l2) (y3 : By w.heap.size w A3 n3 c3 l3) (hb : n1 + n2 + n3 ≤ 140737488355328) :
  Calls Try.prog 81 #[.slice (some ⟨g, 0, none⟩) 3 3] w fun e w' => ∃ v, e = .returned v ∧ OwnB w' w.heap.size v (l1 ++ l2 ++ l3) ∧ Below w.heap.size w w' := by
 obtain rfl := y1.len
 obtain rfl := y2.len
 obtain rfl := y3.len
 have := concat_any (some ⟨g, 0, none⟩) 3 [(A1, c1, l1), (A2, c2, l2), (A3, c3, l3)] w (Parts.blk h (Nat.le_refl _) rfl (all3 y1 y2 y3) (by simp)) (by rw [flat3, List.length_append, List.length_append]; exact hb)
 rw [flat3] at this
 exact this
theorem concat4 {g n1 n2 n3 n4 c1 c2 c3 c4 : Nat} {A1 A2 A3 A4 : Option Addr} {l1 l2 l3 l4 : List Int} {w : World} (h : Has w g (.cells #[.slice A1 n1 c1, .slice A2 n2 c2, .slice A3 n3 c3, .slice A4 n4 c4] 26 (0, 0))) (y1 : By w.heap.size w A1 n1 c1 l1) (y2 : By w.heap.size w A2 n2 c2 l2) (y3 : By w.heap.size w A3 n3 c3 l3) (y4 : By w.heap.size w A4 n4 c4 l4) (hb : n1 + n2 + n3 + n4 ≤ 140737488355328) :
  Calls Try.prog 81 #[.slice (some ⟨g, 0, none⟩) 4 4] w fun e w' => ∃ v, e = .returned v ∧ OwnB w' w.heap.size v (l1 ++ l2 ++ l3 ++ l4) ∧ Below w.heap.size w w' := by
 obtain rfl := y1.len
 obtain rfl := y2.len
 obtain rfl := y3.len
 obtain rfl := y4.len
 have := concat_any (some ⟨g, 0, none⟩) 4 [(A1, c1, l1), (A2, c2, l2), (A3, c3, l3), (A4, c4, l4)] w (Parts.blk h (Nat.le_refl _) rfl (all4 y1 y2 y3 y4) (by simp)) (by rw [flat4, List.length_append, List.length_append, List.length_append]; exact hb)
 rw [flat4] at this
 exact this
section
variable {P : Program}
theorem w_or16 (t : TypeId) (a b : Int) (ha : 0 ≤ a ∧ a ≤ 255) (hb : 0 ≤ b ∧ b ≤ 255) (w : World) : (binOp .or t (.int .u16 (a * 256)) (.int .u16 b)).run P w = .ok (.int .u16 (a * 256 + b)) w :=
 b_or_u16 t _ _ _ (or_u16 8 (by omega) (by omega) (by omega) (by omega) (by omega) (by omega)) w
theorem w_shr16 (t : TypeId) (x : Int) (w : World) : (binOp .shr t (.int .u16 x) (.int .u64 8)).run P w = .ok (.int .u16 (x / 256)) w := b_shr .u16 t 8 (x / 256) rfl (by decide) w
end
end Go.Proofs.Ytjnphelfloiadaa
namespace Go.Proofs.Ytjnphelfloiadaa
open Go.RowKit Go.Shelf
attribute [local irreducible] wpList Code.wp Oper.wp wpOp wpAnyH

theorem update_one {was : Int} {A1 A2 : Option Addr} {n1 n2 c1 c2 : Nat} {l1 l2 : List Int} {w : World} (hn : 0 ≤ was ∧ was < 65536) (h1 : By w.heap.size w A1 n1 c1 l1) (h2 : By w.heap.size w A2 n2 c2 l2) (he : l1.length = l2.length ∧ l2.length % 2 = 0) :
  Calls Try.prog 83 #[.int .u16 was, .slice A1 n1 c1, .slice A2 n2 c2] w fun e w' => ∃ v, e = .returned v ∧ (∃ q, v = .tuple #[.int .u16 q, .int .i64 0] ∧ q = (updateS was l1 l2).1 ∧ 0 ≤ q ∧ q < 65536) ∧ Below w.heap.size w w' := by
 obtain rfl := h1.len
 obtain rfl := h2.len
 refine (update_any was hn A1 A2 c1 c2 l1 l2 w h1 h2).mono fun e w' h => ?_
 obtain ⟨⟨q, er, rfl, hq⟩, hb⟩ := h
 have hq := hq.out
 have h0 := updateS_rng was hn l1 l2 h1.rng h2.rng
 obtain rfl : er = 0 := by rw [hq.2, updateS, if_pos he]
 exact ⟨_, rfl, ⟨q, rfl, hq.1, by rw [hq.1]; exact h0.1, by rw [hq.1]; exact h0.2⟩, hb⟩

end Go.Proofs.Ytjnphelfloiadaa
