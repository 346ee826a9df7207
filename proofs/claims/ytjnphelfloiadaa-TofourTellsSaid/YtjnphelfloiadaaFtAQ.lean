/-
  Lemmas and walks for the row of TofourTells (part 17 of 37).
-/
import Derived.Test.YtjnphelfloiadaaFtAC
import Derived.Test.YtjnphelfloiadaaFtAD
import Derived.Test.YtjnphelfloiadaaFtAH
import Derived.Test.YtjnphelfloiadaaFtAI
import Derived.Test.YtjnphelfloiadaaFtAP
import Derived.Recover
set_option linter.unusedVariables false
set_option linter.unusedSimpArgs false
namespace Go.Proofs.Ytjnphelfloiadaa
open Go.RowKit Go.Shelf

section
variable {fn : Func} {T : Array Value} {R : Ending → World → Prop} {g : Nat} {w : World}
end
theorem ow_defer {P : Program} {o : Oper} {a : Act} {w : World} {K : Act → World → Prop} {Q : Exit → Act → World → Prop} {k : Nat} {x : Operand} {v : Value} {ts : Array TypeId} (ho : o.op = .defer { callee := .value (.func k), args := #[x], argTypes := ts }) (hx : a.eval x = v)
  (h : K ({ a with defers := { target := .fn (.func k) #[], args := #[v] } :: a.defers }.put o.dst undef) w) : o.wp P a w K Q := by
 subst hx
 have hr : (execOp a.eval o).run P w = .ok (.defer { target := .fn (.func k) #[], args := #[a.eval x] }) w := by
  have he : a.eval (.func k) = .func (.func k) #[] #[] := rfl
  generalize a.eval = ρ at he ⊢
  unfold execOp
  simp [ho, resolve, he, Deferred.ofValue]
 unfold Oper.wp
 rw [hr]
 exact h
theorem res_tc {P : Program} {fn : Func} {tmps : Array Value} {a b : Nat} {t : TypeId} {g : Nat} {v u : Value} {w : World} (hr : fn.results = #[.tmp b, .cell a t]) (hx : tmps.getD a undef = .pointer (some ⟨g, 0, none⟩)) (hl : (loadVar t ⟨g, 0, none⟩).run P w = .ok v w) (hb : tmps.getD b undef = u) :
  (results fn tmps).run P w = .ok (.tuple #[u, v]) w := by
 rw [Array.getD_eq_getD_getElem?] at hx hb
 simp [results, hr, hx, hb, hl, asAddr]
theorem res_cc {P : Program} {fn : Func} {tmps : Array Value} {a b : Nat} {t t' : TypeId} {g g' : Nat} {v u : Value} {w : World} (hr : fn.results = #[.cell a t, .cell b t']) (hx : tmps.getD a undef = .pointer (some ⟨g, 0, none⟩)) (hl : (loadVar t ⟨g, 0, none⟩).run P w = .ok v w) (hy : tmps.getD b undef = .pointer (some ⟨g', 0, none⟩)) (hl' : (loadVar t' ⟨g', 0, none⟩).run P w = .ok u w) :
  (results fn tmps).run P w = .ok (.tuple #[v, u]) w := by
 rw [Array.getD_eq_getD_getElem?] at hx hy
 simp [results, hr, hx, hy, hl, hl', asAddr]
theorem load_errno {w : World} {g : Nat} {s : Int} (h : Has w g (.cells #[.int .i64 s] 36 (0, 0))) : (loadVar 36 ⟨g, 0, none⟩).run Try.prog w = .ok (.int .i64 s) w := by
 have := h.cell 0 rfl
 go_simp
end Go.Proofs.Ytjnphelfloiadaa
namespace Go.Proofs.Ytjnphelfloiadaa
open Go.RowKit Go.Shelf
attribute [local irreducible] wpList Code.wp Oper.wp wpOp wpAnyH

theorem getD_set_ne {l : List Int} {i j : Nat} (h : i ≠ j) (x : Int) : (l.set i x).getD j 0 = l.getD j 0 := by simp [List.getD_eq_getElem?_getD, List.getElem?_set, h]
theorem take2_set {l : List Int} (h : 2 ≤ l.length) (x : Int) : (l.set 0 x).take 2 = [x, l.getD 1 0] := by
 match l, h with
 | a :: b :: r, _ => rfl
end Go.Proofs.Ytjnphelfloiadaa
namespace Go.Proofs.Ytjnphelfloiadaa
open Go.RowKit Go.Shelf

theorem addr6_info (a : List Int) (ha : a.length = 16) : (Try.prog.info? 24).map (·.size) = some (u8s a).toArray.size := by
 rw [show (u8s a).toArray.size = 16 from by simp [u8s_length, ha]]
 kernel_rfl

/-- has a message as many bytes as may be -/
def szerr (n : Nat) : Int := if n < 8 then 70 else if 65535 < n then 2 else 0
theorem sized_any (A : Option Addr) (n c : Nat) (w : World) (hn : n ≤ 9223372036854775807) :
  Calls Try.prog 66 #[.slice A n c] w fun e w' => ∃ q : Int, e = .returned (.int .i64 q) ∧ Hid (q = szerr n) ∧ w = w' := by
 by_cases h1 : n < 8
 ·have e : szerr n = 70 := if_pos h1
  rw [e]
  clear e
  go_enter Try.func66, Try.ntmps66
  go_wp2
  go_ret
  exact ⟨_, rfl, Lib.hid rfl, rfl⟩
 ·by_cases h2 : 65535 < n
  ·have e : szerr n = 2 := by unfold szerr; rw [if_neg h1, if_pos h2]
   rw [e]
   clear e
   go_enter Try.func66, Try.ntmps66
   go_wp2
   go_ret
   exact ⟨_, rfl, Lib.hid rfl, rfl⟩
  ·have e : szerr n = 0 := by unfold szerr; rw [if_neg h1, if_neg h2]
   rw [e]
   clear e
   go_enter Try.func66, Try.ntmps66
   go_wp2
   go_ret
   exact ⟨_, rfl, Lib.hid rfl, rfl⟩

/-- a message that is told, with an error's number -/
def Told7 (base : Nat) (w' : World) (d : D7) (s : Int) (e : Ending) : Prop := ∃ A c s', e = .returned (.tuple #[.agg (d.cells A c), .int .i64 s']) ∧ Hid (s' = s) ∧ d.ok ∧ OwnB w' base (.slice A d.bl.length c) d.bl

set_option maxRecDepth 100000 in
theorem parse_bad (A : Option Addr) (c : Nat) (l : List Int) (Ap : Option Addr) (cp : Nat) (ps : List Int) (w : World) (hl : By w.heap.size w A l.length c l) (hp : By w.heap.size w Ap ps.length cp ps) (h0 : sumw (ps ++ l) ≠ 65535) :
  Calls Try.prog 68 #[.slice A l.length c, .slice Ap ps.length cp] w fun e w' => Told7 w.heap.size w' zero7 71 e ∧ Below w.heap.size w w' := by
 have h0H := Lib.hid h0
 have hrl := hl.rng
 clear h0
 go_enter Try.func68, Try.ntmps68
 go_wp2_with fail
 refine (good_new [(Ap, cp, ps), (A, c, l)] 2 (by simp only [List.map_cons, List.map_nil]; exact Has.newAt (by simp)) rfl
  (all2 (By.more (B := w.heap.size) (by repeat (first | exact hp | refine By.alloc ?_ (by simp; try omega) _)) (by simp; try omega))
   (By.more (B := w.heap.size) (by repeat (first | exact hl | refine By.alloc ?_ (by simp; try omega) _)) (by simp; try omega))) (by simp)).mono ?_
 rintro e w1 ⟨q, rfl, hq, hb1⟩
 obtain rfl : q = false := hq.out.trans (decide_eq_false (by simpa [flat] using h0H.out))
 have hH : Has w1 w.heap.size (.cells #[.int .u8 0, .int .u8 0, .int .u32 0, .slice none 0 0] 43 (0, 0)) := Has.below (by repeat (first | exact Has.newAt (by simp) | refine Has.alloc ?_)) hb1 (by simp; try omega)
 have hB1 : Below w.heap.size w w1 := Below.trans (by repeat (first | exact Below.refl _ _ | refine Below.alloc ?_ (by simp; try omega) _)) (hb1.mono (by simp; try omega))
 clear hq hb1
 go_wp2_with (refine wpList_store_has rfl 43 (.tmp 4) (.tmp 12) rfl w.heap.size _ rfl rfl 43 _ hH icmp_info rfl (by simp [Value.oneCell']) ?_; intro w2 hH2 hb2)
 exact bodyPost_ret (res_cell2 Try.results68 rfl (hH2.load (P := Try.prog) 43 Try.underlying43 rfl icmp_info) rfl) rfl ⟨⟨none, 0, 71, rfl, Lib.hid rfl, zero7_ok, OwnB.nil _ _⟩, hB1.trans (hb2.mono (Nat.le_refl _))⟩

theorem By.at {B : Nat} {w : World} {b off n c k : Nat} {l : List Int} (h : By B w (some ⟨b, off, none⟩) n c l) (hk : k < n) : w.cell? ⟨b, off + k, none⟩ = some (.int .u8 (l.getD k 0)) := by
 obtain ⟨b', off', x, e, _, hx, hc, _⟩ := h.get hk
 injection e with e
 injection e with e1 e2 e3
 subst e1 e2
 rw [hc, List.getD_eq_getElem?_getD, hx]
 rfl

/-- what the last region of parse leans on -/
structure SP (g b off : Nat) (x0 x1 : Int) (w0 w' : World) : Prop where
 d0 : w'.cell? ⟨b, off + 0, none⟩ = some (.int .u8 x0)
 d1 : w'.cell? ⟨b, off + 1, none⟩ = some (.int .u8 x1)
 has : ∃ old, Has w' g (.cells old 43 (0, 0)) ∧ old.size = 4
 bel : Below w0.heap.size w0 w'
 lt : b < g ∧ g < w'.heap.size ∧ w0.heap.size ≤ g
theorem SP.keep {g b off : Nat} {x0 x1 : Int} {w0 w' w'' : World} (h : SP g b off x0 x1 w0 w') (hb : Below w'.heap.size w' w'') : SP g b off x0 x1 w0 w'' := by
 obtain ⟨h1, h2, h3⟩ := h.lt
 obtain ⟨old, ho, hs⟩ := h.has
 exact ⟨(hb.cell (p := ⟨b, off + 0, none⟩) (by show b < _; omega)).trans h.d0, (hb.cell (p := ⟨b, off + 1, none⟩) (by show b < _; omega)).trans h.d1, ⟨old, ho.below hb h2, hs⟩, h.bel.trans (hb.mono h.bel.size), h1, Nat.lt_of_lt_of_le h2 hb.size, h3⟩
theorem SP.store {g b off : Nat} {x0 x1 : Int} {w0 w' w'' : World} {cs : Array Value} (h : SP g b off x0 x1 w0 w') (hc : Has w'' g (.cells cs 43 (0, 0))) (hb : Below g w' w'') (hn : cs.size = 4) : SP g b off x0 x1 w0 w'' := by
 obtain ⟨h1, h2, h3⟩ := h.lt
 exact ⟨(hb.cell (p := ⟨b, off + 0, none⟩) h1).trans h.d0, (hb.cell (p := ⟨b, off + 1, none⟩) h1).trans h.d1, ⟨cs, hc, hn⟩, h.bel.trans (hb.mono h3), h1, hc.lt, h3⟩

set_option maxRecDepth 100000 in
theorem parse_ok (A : Option Addr) (c : Nat) (l : List Int) (Ap : Option Addr) (cp : Nat) (ps : List Int) (w : World) (hl : By w.heap.size w A l.length c l) (hp : By w.heap.size w Ap ps.length cp ps) (h0 : sumw (ps ++ l) = 65535) (h8 : 8 ≤ l.length) (hm : l.length ≤ 65535) :
  Calls Try.prog 68 #[.slice A l.length c, .slice Ap ps.length cp] w fun e w' => Told7 w.heap.size w' (of7 l) 0 e ∧ Below w.heap.size w w' := by
 have h0H := Lib.hid h0
 have hrl := hl.rng
 clear h0
 go_enter Try.func68, Try.ntmps68
 go_wp2_with fail
 refine (good_new [(Ap, cp, ps), (A, c, l)] 2 (by simp only [List.map_cons, List.map_nil]; exact Has.newAt (by simp)) rfl
  (all2 (By.more (B := w.heap.size) (by repeat (first | exact hp | refine By.alloc ?_ (by simp; try omega) _)) (by simp; try omega))
   (By.more (B := w.heap.size) (by repeat (first | exact hl | refine By.alloc ?_ (by simp; try omega) _)) (by simp; try omega))) (by simp)).mono ?_
 rintro e w1 ⟨q, rfl, hq, hb1⟩
 obtain rfl : q = true := hq.out.trans (decide_eq_true (by simpa [flat] using h0H.out))
 have hH : Has w1 w.heap.size (.cells #[.int .u8 0, .int .u8 0, .int .u32 0, .slice none 0 0] 43 (0, 0)) := Has.below (by repeat (first | exact Has.newAt (by simp) | refine Has.alloc ?_)) hb1 (by simp; try omega)
 have hB1 : Below w.heap.size w w1 := Below.trans (by repeat (first | exact Below.refl _ _ | refine Below.alloc ?_ (by simp; try omega) _)) (hb1.mono (by simp; try omega))
 have yl := hl.below hB1 (Nat.le_refl _)
 obtain ⟨b, off, rfl, hbl, _⟩ := yl.row.at_ (by omega)
 have d4 := yl.at (k := 4) (by omega)
 have d5 := yl.at (k := 5) (by omega)
 have d6 := yl.at (k := 6) (by omega)
 have d7 := yl.at (k := 7) (by omega)
 have r4 := getD_rng hl.rng 4
 have r5 := getD_rng hl.rng 5
 have r6 := getD_rng hl.rng 6
 have r7 := getD_rng hl.rng 7
 obtain ⟨x4, hx4⟩ : ∃ x, l.getD 4 0 = x := ⟨_, rfl⟩
 obtain ⟨x5, hx5⟩ : ∃ x, l.getD 5 0 = x := ⟨_, rfl⟩
 obtain ⟨x6, hx6⟩ : ∃ x, l.getD 6 0 = x := ⟨_, rfl⟩
 obtain ⟨x7, hx7⟩ : ∃ x, l.getD 7 0 = x := ⟨_, rfl⟩
 rw [hx4] at d4 r4
 rw [hx5] at d5 r5
 rw [hx6] at d6 r6
 rw [hx7] at d7 r7
 have o1 : bits .or .u32 (x4 * 16777216) (x5 * 65536) = x4 * 16777216 + x5 * 65536 := or_u32 24 (by omega) (by omega) (by omega) (by omega) (by omega) (by omega)
 have o2 : bits .or .u32 (x4 * 16777216 + x5 * 65536) (x6 * 256) = x4 * 16777216 + x5 * 65536 + x6 * 256 := or_u32 16 (by omega) (by omega) (by omega) (by omega) (by omega) (by omega)
 have o3 : bits .or .u32 (x4 * 16777216 + x5 * 65536 + x6 * 256) x7 = x4 * 16777216 + x5 * 65536 + x6 * 256 + x7 := or_u32 8 (by omega) (by omega) (by omega) (by omega) (by omega) (by omega)
 have z4 : (4 : Int) < (l.length : Int) := by omega
 have z5 : (5 : Int) < (l.length : Int) := by omega
 have z6 : (6 : Int) < (l.length : Int) := by omega
 have z7 : (7 : Int) < (l.length : Int) := by omega
 have hx4 := Lib.hid hx4
 have hx5 := Lib.hid hx5
 have hx6 := Lib.hid hx6
 have hx7 := Lib.hid hx7
 clear hq hb1
 go_wp2
 go_quiet (fail)
 go_wp2
 clear o1 o2 o3 d4 d5 d6 d7
 have hd0 := yl.at (k := 0) (by omega)
 have hd1 := yl.at (k := 1) (by omega)
 obtain ⟨A8, c8, hsl, y8⟩ := yl.from_ (P := Try.prog) 26 Try.underlying26 (by kernel_rfl) (k := 8) (by omega)
 have hH2 := hH.drewN (n := nq)
 have hB2 := hB1.trans (below_drewN w.heap.size w1 nq)
 have y8 := y8.below (below_drewN w.heap.size w1 nq) (Nat.le_refl _)
 have hd0 : (w1.drewN nq).cell? ⟨b, off + 0, none⟩ = _ := hd0
 have hd1 : (w1.drewN nq).cell? ⟨b, off + 1, none⟩ = _ := hd1
 obtain ⟨x0, hx0⟩ : ∃ x, l.getD 0 0 = x := ⟨_, rfl⟩
 obtain ⟨x1, hx1⟩ : ∃ x, l.getD 1 0 = x := ⟨_, rfl⟩
 rw [hx0] at hd0
 rw [hx1] at hd1
 obtain ⟨R, hR⟩ : ∃ R, x4 * 16777216 + x5 * 65536 + x6 * 256 + x7 = R := ⟨_, rfl⟩
 simp only [hR]
 clear hH hB1 yl
 generalize w1.drewN nq = w2 at *
 have hS0 : SP w.heap.size b off x0 x1 w w2.drew := ⟨hd0, hd1, ⟨_, hH2.drew, rfl⟩, hB2.trans (below_drew _ _), hbl, hH2.drew.lt, Nat.le_refl _⟩
 have hcl := Lib.hid ((clone_n A8 c8 (l.length - 8) (l.drop 8) w2.drew (y8.drew.more hS0.bel.size) (by rw [List.length_drop]; omega)).mono fun e w' (g : ∃ v, e = .returned v ∧ OwnB w' w2.drew.heap.size v (l.drop 8) ∧ Below w2.drew.heap.size w2.drew w') => (by obtain ⟨v, h1, h2, h3⟩ := g; exact ⟨v, h1, ⟨h2, h3⟩, hS0.keep h3⟩ : ∃ v, e = .returned v ∧ (OwnB w' w2.drew.heap.size v (l.drop 8) ∧ Below w2.drew.heap.size w2.drew w') ∧ SP w.heap.size b off x0 x1 w w'))
 have hsz := Lib.hid hS0.bel.size
 refine wp_region_held_drew (S := SP w.heap.size b off x0 x1 w) (by kernel_rfl) hS0 (fun hS => ?_)
 refine te 0 (.slice (some ⟨b, off, none⟩) l.length c) hS rfl (by intro _ _; exact rfl) ?_
 simp only [lay]
 refine te 1 (.pointer (some ⟨b, off + 0, none⟩)) hS rfl (by intro _ _; exact ex_index (by exact rfl) Try.underlying26 (by kernel_rfl) (by exact rfl) (by exact rfl) (by omega)) ?_
 simp only [lay]
 refine te 2 (.int .u8 x0) hS rfl (by intro _ h; exact ex_cell (by exact rfl) Try.underlying5 rfl (by exact rfl) (h.d0)) ?_
 simp only [lay]
 refine te 3 (.slice (some ⟨b, off, none⟩) l.length c) hS rfl (by intro _ _; exact rfl) ?_
 simp only [lay]
 refine te 4 (.pointer (some ⟨b, off + 1, none⟩)) hS rfl (by intro _ _; exact ex_index (by exact rfl) Try.underlying26 (by kernel_rfl) (by exact rfl) (by exact rfl) (by omega)) ?_
 simp only [lay]
 refine te 5 (.int .u8 x1) hS rfl (by intro _ h; exact ex_cell (by exact rfl) Try.underlying5 rfl (by exact rfl) (h.d1)) ?_
 simp only [lay]
 refine te 6 (.int .u32 R) hS rfl (by intro _ _; exact rfl) ?_
 simp only [lay]
 refine te 7 (.slice (some ⟨b, off, none⟩) l.length c) hS rfl (by intro _ _; exact rfl) ?_
 simp only [lay]
 refine te 8 (.slice A8 (l.length - 8) c8) hS rfl (by intro w' _; exact ex_slice (by exact rfl) (by exact rfl) (hsl w')) ?_
 simp only [lay]
 refine tk_callx (i := 9) (fun v w' => OwnB w' w2.drew.heap.size v (l.drop 8) ∧ Below w2.drew.heap.size w2.drew w') (by kernel_rfl) rfl (by kernel_rfl) (by exact ex_call (by exact rfl) Try.func46 (by kernel_rfl) (by kernel_rfl) (by simp only [List.map_toArray, List.map_cons, List.map_nil] <;> rfl)) (hcl.out) ?_
 rintro v3 W3 ⟨ho3, hb3⟩ hS3
 obtain ⟨A3, k3, rfl, _⟩ := own_shape ho3.own
 simp only [lay]
 refine te 10 (.agg #[.int .u8 x0, .int .u8 x1, .int .u32 R, .slice A3 (l.drop 8).length k3]) hS3 rfl (by intro _ _; go_simp) ?_
 simp only [lay]
 obtain ⟨old, hold, hold2⟩ := hS3.has
 refine tk_store (i := 11) (by kernel_rfl) rfl (by kernel_rfl) rfl rfl rfl hold icmp_info hold2 (by simp [Value.oneCell']) (hS3.store hold.setRow_same below_setRow' rfl) ?_
 have hS4 := hS3.store hold.setRow_same (cs := #[.int .u8 x0, .int .u8 x1, .int .u32 R, .slice A3 (l.drop 8).length k3]) below_setRow' rfl
 simp only [lay]
 refine te 12 (.int .i64 0) hS4 rfl (by intro _ _; exact rfl) ?_
 simp only [lay]
 refine wpAnyH_done (by kernel_rfl) ?_ _
 have hfin : (of7 l).cells A3 k3 = #[.int .u8 x0, .int .u8 x1, .int .u32 R, .slice A3 (l.drop 8).length k3] := by
  simp only [D7.cells, of7, hx0, hx1, hx4.out, hx5.out, hx6.out, hx7.out, hR]
 have hH4 := hold.setRow_same (cs' := #[.int .u8 x0, .int .u8 x1, .int .u32 R, .slice A3 (l.drop 8).length k3])
 have ho4 := (ho3.setRow (g := w.heap.size) (cs := #[.int .u8 x0, .int .u8 x1, .int .u32 R, .slice A3 (l.drop 8).length k3]) hH2.lt).more hsz.out
 have hb4 := hS4.bel
 rw [← hfin] at hH4 ho4 hb4 ⊢
 go_wp2
 exact bodyPost_ret (res_cell2 Try.results68 rfl (hH4.load (P := Try.prog) 43 Try.underlying43 rfl icmp_info) rfl) rfl ⟨⟨A3, k3, 0, rfl, Lib.hid rfl, of7_ok hrl, ho4⟩, hb4⟩
end Go.Proofs.Ytjnphelfloiadaa
namespace Go.Proofs.Ytjnphelfloiadaa
open Go.RowKit Go.Shelf

theorem parse7_eq {l ps : List Int} (h8 : 8 ≤ l.length) (hm : l.length ≤ 65535) : parse7 l ps = if sumw (ps ++ l) ≠ 65535 then zero7 else of7 l := by
 unfold parse7
 by_cases h : sumw (ps ++ l) ≠ 65535
 ·rw [if_pos (Or.inr (Or.inr h)), if_pos h]
 ·rw [if_neg (by omega), if_neg h]
theorem perr7_eq {l ps : List Int} (h8 : 8 ≤ l.length) (hm : l.length ≤ 65535) : perr7 l ps = if sumw (ps ++ l) ≠ 65535 then 71 else 0 := by
 unfold perr7
 rw [if_neg (by omega), if_neg (by omega)]
theorem parse_any (A : Option Addr) (c : Nat) (l : List Int) (Ap : Option Addr) (cp : Nat) (ps : List Int) (w : World) (hl : By w.heap.size w A l.length c l) (hp : By w.heap.size w Ap ps.length cp ps) (h8 : 8 ≤ l.length) (hm : l.length ≤ 65535) :
  Calls Try.prog 68 #[.slice A l.length c, .slice Ap ps.length cp] w fun e w' => Told7 w.heap.size w' (parse7 l ps) (perr7 l ps) e ∧ Below w.heap.size w w' := by
 rw [parse7_eq h8 hm, perr7_eq h8 hm]
 by_cases h : sumw (ps ++ l) ≠ 65535
 ·rw [if_pos h, if_pos h]
  exact parse_bad A c l Ap cp ps w hl hp h
 ·rw [if_neg h, if_neg h]
  exact parse_ok A c l Ap cp ps w hl hp (by simpa using h) h8 hm

theorem iparse6_any (a b : List Int) (ha : a.length = 16) (hb : b.length = 16) (ra : InB a) (rb : InB b) (A : Option Addr) (c : Nat) (l : List Int) (w : World) (hl : By w.heap.size w A l.length c l) :
  Calls Try.prog 32 #[.agg (u8s a).toArray, .agg (u8s b).toArray, .slice A l.length c] w fun e w' => Told7 w.heap.size w' (parse7 l (pse6 a b l.length 58)) (perr7 l (pse6 a b l.length 58)) e ∧ Below w.heap.size w w' := by
 have hbig := Nat.le_trans hl.cap hl.big
 have hB : Below w.heap.size w (((w.alloc (.cells (u8s a).toArray 24)).alloc (.cells (u8s b).toArray 24)).alloc (.cells #[.int .u8 0, .int .u8 0, .int .u32 0, .slice none 0 0] 43)) := (((Below.refl _ _).alloc (Nat.le_refl _) _).alloc (by simp) _).alloc (by simp; omega) _
 have hHa : Has (((w.alloc (.cells (u8s a).toArray 24)).alloc (.cells (u8s b).toArray 24)).alloc (.cells #[.int .u8 0, .int .u8 0, .int .u32 0, .slice none 0 0] 43)) w.heap.size (.cells (u8s a).toArray 24 (0, 0)) := ((Has.newAt rfl).alloc).alloc
 have hHb : Has (((w.alloc (.cells (u8s a).toArray 24)).alloc (.cells (u8s b).toArray 24)).alloc (.cells #[.int .u8 0, .int .u8 0, .int .u32 0, .slice none 0 0] 43)) (w.heap.size + 1) (.cells (u8s b).toArray 24 (0, 0)) := (Has.newAt (by simp)).alloc
 have hHn : Has (((w.alloc (.cells (u8s a).toArray 24)).alloc (.cells (u8s b).toArray 24)).alloc (.cells #[.int .u8 0, .int .u8 0, .int .u32 0, .slice none 0 0] 43)) (w.heap.size + 1 + 1) (.cells #[.int .u8 0, .int .u8 0, .int .u32 0, .slice none 0 0] 43 (0, 0)) := Has.newAt (by simp)
 have hia := addr6_info a ha
 have hib := addr6_info b hb
 by_cases h1 : l.length < 8 ∨ 65535 < l.length
 ·have e1 : parse7 l (pse6 a b l.length 58) = zero7 := if_pos (by omega)
  have e3 : perr7 l (pse6 a b l.length 58) = szerr l.length := by unfold perr7 szerr; split <;> (try split) <;> first | rfl | (exfalso; omega)
  have hs : szerr l.length = 70 ∨ szerr l.length = 2 := by unfold szerr; split <;> (try split) <;> first | (simp; done) | (exfalso; omega)
  rw [e1, e3]
  have hsH := Lib.hid hs
  clear e1 e3 hs h1
  go_enter Try.func32, Try.ntmps32
  go_wp2_with fail
  refine (sized_any A l.length c _ hbig).mono ?_
  rintro e w1 ⟨q, rfl, hq, rfl⟩
  have hq2 : q = 70 ∨ q = 2 := by rw [hq.out]; exact hsH.out
  rcases hq2 with rfl | rfl
  ·go_wp2_with (refine wpList_store_row rfl 43 (.tmp 6) (.tmp 15) rfl (w.heap.size + 1 + 1) _ rfl rfl 43 _ hHn icmp_info rfl (by simp [Value.oneCell']) ?_)
   exact bodyPost_ret (res_cell2 Try.results32 rfl (hHn.setRow_same.load (P := Try.prog) 43 Try.underlying43 rfl icmp_info) rfl) rfl ⟨⟨none, 0, 70, rfl, hq, zero7_ok, OwnB.nil _ _⟩, hB.trans (below_setRow'.mono (by omega))⟩
  ·go_wp2_with (refine wpList_store_row rfl 43 (.tmp 6) (.tmp 15) rfl (w.heap.size + 1 + 1) _ rfl rfl 43 _ hHn icmp_info rfl (by simp [Value.oneCell']) ?_)
   exact bodyPost_ret (res_cell2 Try.results32 rfl (hHn.setRow_same.load (P := Try.prog) 43 Try.underlying43 rfl icmp_info) rfl) rfl ⟨⟨none, 0, 2, rfl, hq, zero7_ok, OwnB.nil _ _⟩, hB.trans (below_setRow'.mono (by omega))⟩
 ·have h8 : 8 ≤ l.length := by omega
  have hm : l.length ≤ 65535 := by omega
  have hs : szerr l.length = 0 := by unfold szerr; rw [if_neg (by omega), if_neg (by omega)]
  have hsH := Lib.hid hs
  obtain ⟨ps, hps⟩ : ∃ ps, pse6 a b (l.length : Int) 58 = ps := ⟨_, rfl⟩
  rw [hps]
  obtain ⟨D, hD⟩ : ∃ D, parse7 l ps = D := ⟨_, rfl⟩
  obtain ⟨s, hse⟩ : ∃ s, perr7 l ps = s := ⟨_, rfl⟩
  rw [hD, hse]
  have hDH := Lib.hid hD
  have hseH := Lib.hid hse
  have hpsH := Lib.hid hps
  clear hs h1 hD hse hps
  go_enter Try.func32, Try.ntmps32
  go_wp2_with fail
  refine (sized_any A l.length c _ hbig).mono ?_
  rintro e w1 ⟨q, rfl, hq, rfl⟩
  obtain rfl : q = 0 := hq.out.trans hsH.out
  go_wp2_with (first | (refine wpList_load_row rfl 24 (.tmp 3) rfl w.heap.size rfl 24 (u8s a).toArray (0, 0) _ hHa Try.underlying24 rfl hia ?_) | (refine wpList_load_row rfl 24 (.tmp 4) rfl (w.heap.size + 1) rfl 24 (u8s b).toArray (0, 0) _ hHb Try.underlying24 rfl hib ?_))
  refine (pseudo6_ok a b ha hb ra rb 58 (l.length : Int) (by decide) (by decide) (by omega) (by omega) _).mono ?_
  rintro e w1 ⟨v1, rfl, ho1, hb1⟩
  have ho1 : OwnB w1 _ v1 (pse6 a b (l.length : Int) 58) := ho1
  rw [hpsH.out] at ho1
  obtain ⟨A1, k1, rfl, y1⟩ := ho1.by_
  have hHn := hHn.below hb1 hHn.lt
  have hB1 := hB.trans (hb1.mono hB.size)
  clear ho1 hb1 hB hHa hHb
  have hl1 := (hl.below hB1 (Nat.le_refl _)).more (B' := w1.heap.size) hB1.size
  go_wp2_with fail
  refine (parse_any A c l A1 k1 ps w1 hl1 y1 h8 hm).mono ?_
  rw [hDH.out, hseH.out]
  rintro e w2 ⟨⟨A', c', s', rfl, hs', hok, ho⟩, hb2⟩
  have hH2 := hHn.below hb2 hHn.lt
  have ho2 := (ho.setRow (g := w.heap.size + 1 + 1) (cs := D.cells A' c') hHn.lt).more hB1.size
  have hB2 := (hB1.trans (hb2.mono hB1.size)).trans ((below_setRow' (w := w2) (g := w.heap.size + 1 + 1) (cs := D.cells A' c')).mono (by omega))
  clear ho hb2 hHn
  go_wp2_with (refine wpList_store_row rfl 43 (.tmp 6) (.tmp 32) rfl (w.heap.size + 1 + 1) _ rfl rfl 43 _ hH2 icmp_info rfl (by simp [D7.cells, Value.oneCell']) ?_)
  exact bodyPost_ret (res_cell2 Try.results32 rfl (hH2.setRow_same.load (P := Try.prog) 43 Try.underlying43 rfl icmp_info) rfl) rfl ⟨⟨A', c', s', rfl, hs', hok, ho2⟩, hB2⟩
end Go.Proofs.Ytjnphelfloiadaa
namespace Go.Proofs.Ytjnphelfloiadaa
open Go.RowKit Go.Shelf

def One7 (x : Int) (e : Ending) : Prop := ∃ q : Int, e = .returned (.int .i64 q) ∧ Hid (q = x)
theorem One7.mk {x q : Int} (h : q = x) : One7 x (.returned (.int .i64 q)) := ⟨q, rfl, Lib.hid h⟩
end Go.Proofs.Ytjnphelfloiadaa
namespace Go.Proofs.Ytjnphelfloiadaa
open Go.RowKit Go.Shelf

/-- a datagram whose bytes lie in memory of the call's own -/
structure Own4 (w : World) (base : Nat) (D : D4) (p : W4) : Prop where
 ok : D.ok
 opt : OwnB w base (.slice p.oA D.ol.length p.oc) D.ol
 body : OwnB w base (.slice p.bA D.bl.length p.bc) D.bl
theorem own_by4 {w : World} {base n : Nat} {A : Option Addr} {c : Nat} {l : List Int} (h : OwnB w base (.slice A n c) l) : By w.heap.size w A n c l := by
 obtain ⟨A', c', e, y⟩ := h.by_
 injection e with e1 e2 e3
 subst e1 e2 e3
 exact y
theorem Own4.rd {w : World} {base : Nat} {D : D4} {p : W4} (h : Own4 w base D p) : Rd4 w.heap.size w D p := ⟨h.ok, own_by4 h.opt, own_by4 h.body⟩

end Go.Proofs.Ytjnphelfloiadaa
namespace Go.Proofs.Ytjnphelfloiadaa
open Go.RowKit Go.Shelf

theorem check_x {d : D4} {p : W4} {w : World} (hR : Rd4 w.heap.size w d p) : Calls Try.prog 35 #[.agg (d.cells p)] w fun e w' => ∃ v, e = .returned v ∧ v = .int .i64 d.check ∧ Below w.heap.size w w' := by
 refine (check_any d p w (Nat.le_trans hR.opt.cap hR.opt.big) (Nat.le_trans hR.body.cap hR.body.big)).mono fun e w' h => ?_
 obtain ⟨⟨q, rfl, hq⟩, hb⟩ := h
 exact ⟨_, rfl, by rw [hq.out], hb⟩
theorem check6_x {d : D6} {p : W6} {w : World} (hR : Rd6 w.heap.size w d p) : Calls Try.prog 29 #[.agg (d.cells p)] w fun e w' => ∃ v, e = .returned v ∧ v = .int .i64 d.check ∧ Below w.heap.size w w' := by
 refine (check6_any d p w hR).mono fun e w' h => ?_
 obtain ⟨⟨q, rfl, hq⟩, hb⟩ := h
 exact ⟨_, rfl, by rw [hq.out], hb⟩
end Go.Proofs.Ytjnphelfloiadaa
namespace Go.Proofs.Ytjnphelfloiadaa
open Go.RowKit Go.Shelf
attribute [local irreducible] wpList Code.wp Oper.wp wpOp wpAnyH

theorem conv_u16m {P : Program} (src dst : TypeId) (k : IntKind) (n : Int) (hs : (P.underlying src).isSome = true) (hd : P.underlying dst = some (.int .u16)) (w : World) : (convert src dst (.int k n)).run P w = .ok (.int .u16 (n % 65536)) w := by
 have hk : P.intKind dst = .u16 := by simp [Program.intKind, hd]
 have := run_convert_int (P := P) w src dst k n hs (by rw [hk]; exact hd)
 rw [hk, IntKind.wrap_u16] at this
 exact this
end Go.Proofs.Ytjnphelfloiadaa
namespace Go.Proofs.Ytjnphelfloiadaa
open Go.RowKit Go.Shelf

theorem OwnB.take {w : World} {base n c : Nat} {A : Option Addr} {l : List Int} (h : OwnB w base (.slice A n c) l) {k : Nat} (hk : k ≤ n) : OwnB w base (.slice A k c) (l.take k) := by
 have hn := own_len h
 have hl : (l.take k).length = k := by rw [List.length_take]; omega
 refine ⟨?_, h.rng.take k⟩
 obtain ⟨h0, h1⟩ := h.own
 refine ⟨by rw [u8s_length, hl, Nat.mul_one], ?_⟩
 rw [hl]
 rcases h1 with ⟨hv, hz⟩ | ⟨g, cap, cur, hv, hb, hh, h2, h3, h4, h5⟩
 ·injection hv with e1 e2 e3
  subst e1 e2 e3
  obtain rfl : k = 0 := by omega
  exact .inl ⟨rfl, rfl⟩
 ·injection hv with e1 e2 e3
  subst e1 e2 e3
  refine .inr ⟨g, c, cur, rfl, hb, hh, by omega, h3, h4, ?_⟩
  rw [u8s, List.map_take, ← u8s, ← h5, List.take_take, Nat.mul_one, Nat.mul_one, Nat.min_eq_left (by omega)]
theorem own_norm {w : World} {base n c : Nat} {A : Option Addr} {l : List Int} (h : OwnB w base (.slice A n c) l) : OwnB w base (.slice A l.length c) l := by
 have hn := own_len h
 subst hn
 exact h
end Go.Proofs.Ytjnphelfloiadaa
namespace Go.Proofs.Ytjnphelfloiadaa
open Go.RowKit Go.Shelf
attribute [local irreducible] wpList Code.wp Oper.wp wpOp wpAnyH

/-- a message and its error, in memory of the call's own -/
def ToldM17 (r : D7 × Int) (base : Nat) (w' : World) (e : Ending) : Prop := ∃ A c, e = .returned (.tuple #[.agg (r.1.cells A c), .int .i64 r.2]) ∧ r.1.ok ∧ OwnB w' base (.slice A r.1.bl.length c) r.1.bl

end Go.Proofs.Ytjnphelfloiadaa
