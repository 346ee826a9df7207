/-
  Lemmas and walks for the row of TofourTells (part 12 of 37).
-/
import Derived.Test.YtjnphelfloiadaaFtAI
import Derived.Test.YtjnphelfloiadaaFtAJ
set_option linter.unusedVariables false
set_option linter.unusedSimpArgs false
namespace Go.Proofs.Ytjnphelfloiadaa
open Go.RowKit Go.Shelf

section
variable {P : Program}
theorem b_shl32 (t : TypeId) {x : Int} (n : Nat) (z : Int) (h : x * 2 ^ n = z) (h0 : 0 ≤ z ∧ z < 4294967296) (hn : n ≤ 32) (w : World) : (binOp .shl t (.int .u32 x) (.int .u64 (n : Int))).run P w = .ok (.int .u32 z) w := by
 subst h
 have h := shift_shl .u32 .u64 x (n : Int) (Int.natCast_nonneg n) (by show (n : Int) ≤ 32; omega)
 rw [binOp_shl, h]
 show Result.ok (Value.int .u32 (IntKind.u32.wrap (x * 2 ^ (n : Int).toNat))) w = _
 rw [Int.toNat_natCast, IntWalk.u32_in _ (by omega)]
theorem b_or32 (t : TypeId) {x y : Int} (z : Int) (h : bits .or .u32 x y = z) (w : World) : (binOp .or t (.int .u32 x) (.int .u32 y)).run P w = .ok (.int .u32 z) w := by subst h; rfl
/-- number i alone is ready: a cell of a block of the call's own is stored -/
theorem tk_cell {md : Region.Mode} {ops : Array Oper} {Q : Exit → Act → World → Prop} {S : World → Prop} {i : Nat} {o : Oper} {ty : TypeId} {x y : Operand} {g k : Nat} {v : Value} {cs : Array Value} {t : TypeId} {fuel : Nat} {listed : Array Bool} {a : Act} {w : World} (hr : Region.ready md ops listed = [i]) (hi : ops.toList[i]? = some o) (hw : Region.wanted o (yielded ops a.tmps) = true)
  (ho : o.op = .store ty x y) (hx : a.eval x = .pointer (some ⟨g, k, none⟩)) (hy : a.eval y = v) (h1 : v.cells = #[v]) (hti : (P.info? ty).map (·.size) = some 1) (hg : Has w g (.cells cs t (0, 0))) (hk : k < cs.size) (h2 : v.oneCell' = true)
  (hS : S (w.setCell ⟨g, k, none⟩ v)) (h : wpAnyH P md ops Q S fuel (listed.setIfInBounds i true) (a.put o.dst undef) (w.setCell ⟨g, k, none⟩ v)) : wpAnyH P md ops Q S (fuel + 1) listed a w :=
 wpAnyH_all hr (by simp) fun j hj => by
  obtain rfl : j = i := by simpa using hj
  have hi : ops[j]? = some o := by simpa using hi
  unfold wpOp
  rw [hi]
  simp only [hw, if_true]
  left
  have hc := hg.cell k (Array.getElem?_eq_getElem hk)
  have hf := hg.free k
  have hsz : (sizeOf ty).run P w = .ok 1 w := by
   cases hq : P.info? ty with
   | none => simp [hq] at hti
   | some i => simp [hq] at hti; simp [sizeOf, typeInfo, hq, hti]
  have hst : (store ⟨g, k, none⟩ v).run P w = .ok () (w.setCell ⟨g, k, none⟩ v) := by rw [run_store P w _ v _ h2, hc]; simp [hf]
  have had : (⟨g, k, none⟩ : Addr).add 0 = ⟨g, k, none⟩ := by simp [Addr.add]
  unfold Oper.wp execOp
  simp only [ho, hx, hy, Instr.storeAt, Instr.sureAddr, Sem.run_bind, Sem.run_pure, Result.andThen_ok]
  have hsv : (storeVar ty ⟨g, k, none⟩ v).run P w = .ok () (w.setCell ⟨g, k, none⟩ v) := by simp [storeVar, hsz, h1, storeCells, had, hst]
  simp only [hsv, Result.andThen_ok, Oper.upon_skip]
  exact ⟨hS, h⟩
end
/-- the cells of a reader -/
def rcells (A : Option Addr) (N c : Nat) (k : Int) (D : D6) (p : W6) : Array Value := #[.slice A N c, .int .i64 k, .int .u8 D.cls, .int .u32 D.lab, .int .u8 D.hop, .int .u8 (D.src.getD 0 0), .int .u8 (D.src.getD 1 0), .int .u8 (D.src.getD 2 0), .int .u8 (D.src.getD 3 0), .int .u8 (D.src.getD 4 0), .int .u8 (D.src.getD 5 0), .int .u8 (D.src.getD 6 0), .int .u8 (D.src.getD 7 0), .int .u8 (D.src.getD 8 0), .int .u8 (D.src.getD 9 0), .int .u8 (D.src.getD 10 0), .int .u8 (D.src.getD 11 0), .int .u8 (D.src.getD 12 0), .int .u8 (D.src.getD 13 0), .int .u8 (D.src.getD 14 0), .int .u8 (D.src.getD 15 0), .int .u8 (D.dst.getD 0 0), .int .u8 (D.dst.getD 1 0), .int .u8 (D.dst.getD 2 0), .int .u8 (D.dst.getD 3 0), .int .u8 (D.dst.getD 4 0), .int .u8 (D.dst.getD 5 0), .int .u8 (D.dst.getD 6 0), .int .u8 (D.dst.getD 7 0), .int .u8 (D.dst.getD 8 0), .int .u8 (D.dst.getD 9 0), .int .u8 (D.dst.getD 10 0), .int .u8 (D.dst.getD 11 0), .int .u8 (D.dst.getD 12 0), .int .u8 (D.dst.getD 13 0), .int .u8 (D.dst.getD 14 0), .int .u8 (D.dst.getD 15 0), .slice p.hA D.hs.length p.hc, .bool D.frag, .int .u32 D.id, .int .i64 D.off, .bool D.more, .int .u8 D.pro, .slice p.bA D.bl.length p.bc]
/-- a reader in block g, at the k-th of bytes l that lie below B -/
structure RS (B g : Nat) (W0 w : World) (A : Option Addr) (N c k : Nat) (D : D6) (p : W6) : Prop where
 has : Has w g (.cells (rcells A N c (k : Int) D p) 147 (0, 0))
 own : OwnK w (g + 1) 108 (.slice p.hA D.hs.length p.hc) p.ps
 hl : kdL p.ps = D.hs
 bel : Below B W0 w
theorem take_rs {B g : Nat} {W0 w : World} {A : Option Addr} {N c k : Nat} {D : D6} {p : W6} {q z : Int} {l : List Int} (n : Nat) (hz : z = (n : Int)) (h : RS B g W0 w A N c k D p) (hy : By B W0 A N c l) (hB : B ≤ g) (hn : k + n ≤ N) :
  Calls Try.prog 101 #[.pointer (some ⟨g, 0, none⟩), .int .i64 z, .int .i64 q] w fun e w' => ∃ A1 c1, e = .returned (.slice A1 n c1) ∧ By B W0 A1 n c1 ((l.drop k).take n) ∧ RS B g W0 w' A N c (k + n) D p := by
 subst hz
 refine (take6_ok (B := B) (W0 := W0) (l := l) h.has rfl rfl hy hB hn).mono ?_
 rintro e w' ⟨A1, c1, rfl, y1, h1, h2, h3⟩
 exact ⟨A1, c1, rfl, y1, h1, h.own.but6 h2 (Nat.lt_succ_self g), h.hl, h.bel.trans h3⟩
theorem take_rs_bad {B g : Nat} {W0 w : World} {A : Option Addr} {N c k : Nat} {D : D6} {p : W6} {q z : Int} (n : Nat) (hz : z = (n : Int)) (h : RS B g W0 w A N c k D p) (hN : N ≤ 9223372036854775807) (hk : k ≤ N) (hn : N < k + n) (hnn : n ≤ 9223372036854775807) :
  Calls Try.prog 101 #[.pointer (some ⟨g, 0, none⟩), .int .i64 z, .int .i64 q] w fun e w' => e = Fault6 q 50 ∧ Below B W0 w' := by
 subst hz
 refine (take6_bad (B := B) h.has rfl rfl hN hk hn hnn).mono ?_
 rintro e w' ⟨rfl, h1⟩
 exact ⟨rfl, h.bel.trans h1⟩

set_option maxRecDepth 100000 in
theorem head_short {B g : Nat} {W0 w : World} {A : Option Addr} {N c k : Nat} {D : D6} {p : W6} (kind : Int) (h : RS B g W0 w A N c k D p) (hN : N ≤ 9223372036854775807) (hk : k ≤ N) (hn : N < k + 8) :
  Calls Try.prog 102 #[.pointer (some ⟨g, 0, none⟩), .int .u8 kind] w fun e w' => e = Fault6 (k : Int) 50 ∧ Below B W0 w' := by
 have c1 := h.has.cell 1 (v := .int .i64 (k : Int)) rfl
 have hc := Lib.hid (take_rs_bad (q := (k : Int)) 8 (z := 8) rfl h hN hk hn (by decide))
 clear h
 go_enter Try.func102, Try.ntmps102
 go_wp2_with fail
 refine hc.out.mono ?_
 rintro e w1 ⟨rfl, hb⟩
 exact ⟨rfl, rfl, hb⟩

set_option maxRecDepth 100000 in
set_option maxHeartbeats 4000000 in
theorem head_frag {B g : Nat} {W0 w : World} {A : Option Addr} {N c k : Nat} {D : D6} {p : W6} {l : List Int} (h : RS B g W0 w A N c k D p) (hy : By B W0 A N c l) (hB : B ≤ g) (hn : k + 8 ≤ N) :
  Calls Try.prog 102 #[.pointer (some ⟨g, 0, none⟩), .int .u8 44] w fun e w' => Byt (l.getD k 0) e ∧
   RS B g W0 w' A N c (k + 8) { D with frag := true, id := l.getD (k + 4) 0 * 16777216 + l.getD (k + 5) 0 * 65536 + l.getD (k + 6) 0 * 256 + l.getD (k + 7) 0, off := l.getD (k + 2) 0 * 32 + l.getD (k + 3) 0 / 8, more := decide (l.getD (k + 3) 0 % 2 = 1) } p := by
 have hc1 := h.has.cell 1 (v := .int .i64 (k : Int)) rfl
 have hc := Lib.hid (take_rs (q := (k : Int)) 8 (z := 8) rfl h hy hB hn)
 have hlr := hy.rng
 have hll := hy.len
 have hget : ∀ i, i < 8 → ((l.drop k).take 8).getD i 0 = l.getD (k + i) 0 := fun i hi => by simp [List.getD, hi]
 have gr := fun i => getD_byte hlr (k + i)
 go_enter Try.func102, Try.ntmps102
 go_wp2_with fail
 refine hc.out.mono ?_
 rintro e w1 ⟨A1, c1, rfl, y1, h1⟩
 obtain ⟨b, o, rfl, hb, -⟩ := y1.row.at_ (by decide)
 have e0 : W0.cell? ⟨b, o, none⟩ = _ := y1.atO (k := 0) (by decide)
 have e2 := y1.atO (k := 2) (by decide)
 have e3 := y1.atO (k := 3) (by decide)
 have e4 := y1.atO (k := 4) (by decide)
 have e5 := y1.atO (k := 5) (by decide)
 have e6 := y1.atO (k := 6) (by decide)
 have e7 := y1.atO (k := 7) (by decide)
 rw [hget _ (by decide)] at e0 e2 e3 e4 e5 e6 e7
 have g2 := gr 2
 have g3 := gr 3
 have g4 := gr 4
 have g5 := gr 5
 have g6 := gr 6
 have g7 := gr 7
 obtain ⟨x0, hx0⟩ : ∃ x, l.getD k 0 = x := ⟨_, rfl⟩
 obtain ⟨x2, hx2⟩ : ∃ x, l.getD (k + 2) 0 = x := ⟨_, rfl⟩
 obtain ⟨x3, hx3⟩ : ∃ x, l.getD (k + 3) 0 = x := ⟨_, rfl⟩
 obtain ⟨x4, hx4⟩ : ∃ x, l.getD (k + 4) 0 = x := ⟨_, rfl⟩
 obtain ⟨x5, hx5⟩ : ∃ x, l.getD (k + 5) 0 = x := ⟨_, rfl⟩
 obtain ⟨x6, hx6⟩ : ∃ x, l.getD (k + 6) 0 = x := ⟨_, rfl⟩
 obtain ⟨x7, hx7⟩ : ∃ x, l.getD (k + 7) 0 = x := ⟨_, rfl⟩
 have e0 : W0.cell? ⟨b, o, none⟩ = some (.int .u8 x0) := by rw [e0, Nat.add_zero, hx0]
 rw [hx2] at e2 g2
 rw [hx3] at e3 g3
 rw [hx4] at e4 g4
 rw [hx5] at e5 g5
 rw [hx6] at e6 g6
 rw [hx7] at e7 g7
 obtain ⟨O, hO⟩ : ∃ O, x2 * 256 + x3 = O := ⟨_, rfl⟩
 have hor1 : bits .or .u16 (x2 * 256) x3 = O := (or_u16 8 (by omega) (by omega) (by omega) (by omega) (by omega) (by omega)).trans hO
 obtain ⟨I, hI⟩ : ∃ I, x4 * 16777216 + x5 * 65536 + x6 * 256 + x7 = I := ⟨_, rfl⟩
 have hor2 : bits .or .u32 (x4 * 16777216) (x5 * 65536) = x4 * 16777216 + x5 * 65536 := or_u32 24 (by omega) (by omega) (by omega) (by omega) (by omega) (by omega)
 have hor3 : bits .or .u32 (x4 * 16777216 + x5 * 65536) (x6 * 256) = x4 * 16777216 + x5 * 65536 + x6 * 256 := or_u32 16 (by omega) (by omega) (by omega) (by omega) (by omega) (by omega)
 have hor4 : bits .or .u32 (x4 * 16777216 + x5 * 65536 + x6 * 256) x7 = I := (or_u32 8 (by omega) (by omega) (by omega) (by omega) (by omega) (by omega)).trans hI
 obtain ⟨M, hM⟩ : ∃ M : Bool, decide (x3 % 2 = 1) = M := ⟨_, rfl⟩
 have hand : bits .and .u16 O 1 = O % 2 := and_u16 1 1 rfl (by decide) (by omega) (by omega)
 have hM2 : (O % 2 == 1) = M := by rw [← hM, ← hO, Bool.eq_iff_iff, beq_iff_eq, decide_eq_true_eq]; omega
 have hOr : 0 ≤ O ∧ O < 65536 := by omega
 have hO8 : O / 8 = x2 * 32 + x3 / 8 := by omega
 have hxs := Lib.hid (show l.getD k 0 = x0 ∧ l.getD (k + 4) 0 * 16777216 + l.getD (k + 5) 0 * 65536 + l.getD (k + 6) 0 * 256 + l.getD (k + 7) 0 = I ∧ l.getD (k + 2) 0 * 32 + l.getD (k + 3) 0 / 8 = O / 8 ∧ decide (l.getD (k + 3) 0 % 2 = 1) = M from ⟨hx0, by rw [hx4, hx5, hx6, hx7, hI], by rw [hx2, hx3, hO8], by rw [hx3, hM]⟩)
 have hb1 := h1.bel
 clear hx0 hx2 hx3 hx4 hx5 hx6 hx7 hM hO8 hget gr hc h y1 hc1
 go_wp2
 refine wp_region_held_drew (S := fun W => Below B W0 W) (by kernel_rfl) (hb1.trans (below_drew _ _)) (fun hS => ?_)
 refine te 0 (.slice (some ⟨b, o, none⟩) 8 c1) hS rfl (by intro _ _; exact rfl) ?_
 simp only [lay]
 refine te 1 (.pointer (some ⟨b, o + 2, none⟩)) hS rfl (by intro _ _; exact ex_index (by exact rfl) Try.underlying26 (by kernel_rfl) (by exact rfl) (by exact rfl) ((by decide))) ?_
 simp only [lay]
 refine te 2 (.int .u8 x2) hS rfl (by intro _ h; exact ex_cell (by exact rfl) Try.underlying5 rfl (by exact rfl) ((h.cell (p := ⟨b, o + 2, none⟩) hb).trans e2)) ?_
 simp only [lay]
 refine te 3 (.int .u16 x2) hS rfl (by intro _ h; exact ex_conv (by exact rfl) (by exact rfl) (conv_u16 _ _ _ _ rfl rfl (by omega) (by omega) _)) ?_
 simp only [lay]
 refine te 4 (.int .u16 (x2 * 256)) hS rfl (by intro _ _; exact ex_bin (by exact rfl) (by exact rfl) (by exact rfl) (by decide) (b_shl8_u16 _ _ g2 _)) ?_
 simp only [lay]
 refine te 5 (.slice (some ⟨b, o, none⟩) 8 c1) hS rfl (by intro _ _; exact rfl) ?_
 simp only [lay]
 refine te 6 (.pointer (some ⟨b, o + 3, none⟩)) hS rfl (by intro _ _; exact ex_index (by exact rfl) Try.underlying26 (by kernel_rfl) (by exact rfl) (by exact rfl) ((by decide))) ?_
 simp only [lay]
 refine te 7 (.int .u8 x3) hS rfl (by intro _ h; exact ex_cell (by exact rfl) Try.underlying5 rfl (by exact rfl) ((h.cell (p := ⟨b, o + 3, none⟩) hb).trans e3)) ?_
 simp only [lay]
 refine te 8 (.int .u16 x3) hS rfl (by intro _ h; exact ex_conv (by exact rfl) (by exact rfl) (conv_u16 _ _ _ _ rfl rfl (by omega) (by omega) _)) ?_
 simp only [lay]
 refine te 9 (.int .u16 O) hS rfl (by intro _ _; exact ex_bin (by exact rfl) (by exact rfl) (by exact rfl) (by decide) (b_or_u16 _ _ _ _ hor1 _)) ?_
 simp only [lay]
 refine te 10 (.int .u16 O) hS rfl (by intro _ _; exact rfl) ?_
 simp only [lay]
 refine wpAnyH_done (by kernel_rfl) ?_ _
 have hZ : Has w1.drew g (.cells (rcells A N c ((k + 8 : Nat) : Int) D p) 147 (0, 0)) := h1.has.drew
 have hK := h1.own.below (below_drew _ _)
 have hkl := h1.hl
 clear h1 hb1
 generalize w1.drew = W2 at hS hZ hK ⊢
 have k38 := hZ.cell 38 (v := .bool D.frag) rfl
 have k40 := hZ.cell 40 (v := .int .i64 D.off) rfl
 have k41 := hZ.cell 41 (v := .bool D.more) rfl
 have f38 := hZ.free 38
 have f40 := hZ.free 40
 have f41 := hZ.free 41
 have hZ2 : Has (((W2.setCell ⟨g, 38, none⟩ (.bool true)).setCell ⟨g, 40, none⟩ (.int .i64 (O / 8))).setCell ⟨g, 41, none⟩ (.bool M)) g (.cells (rcells A N c ((k + 8 : Nat) : Int) { D with frag := true, off := O / 8, more := M } p) 147 (0, 0)) := ((hZ.setCell 38 (.bool true)).setCell 40 (.int .i64 (O / 8))).setCell 41 (.bool M)
 have hbu : But6 g W2 (((W2.setCell ⟨g, 38, none⟩ (.bool true)).setCell ⟨g, 40, none⟩ (.int .i64 (O / 8))).setCell ⟨g, 41, none⟩ (.bool M)) := ((But6.setCell g 38 _ _).trans (But6.setCell g 40 _ _)).trans (But6.setCell g 41 _ _)
 have hB2 : Below B W0 (((W2.setCell ⟨g, 38, none⟩ (.bool true)).setCell ⟨g, 40, none⟩ (.int .i64 (O / 8))).setCell ⟨g, 41, none⟩ (.bool M)) := below_setCell (below_setCell (below_setCell hS hB 38 _) hB 40 _) hB 41 _
 clear hO hI
 go_wp2
 clear k38 k40 k41 f38 f40 f41 hZ hS
 have hK2 := (hK.but6 hbu (Nat.lt_succ_self g)).below (below_drew _ _)
 generalize ((W2.setCell ⟨g, 38, none⟩ (.bool true)).setCell ⟨g, 40, none⟩ (.int .i64 (O / 8))).setCell ⟨g, 41, none⟩ (.bool M) = W3 at hZ2 hB2 hK2 ⊢
 have hZ := hZ2.drew
 refine wp_region_held_drew (S := fun W => Below B W0 W) (by kernel_rfl) (hB2.trans (below_drew _ _)) (fun hS => ?_)
 generalize W3.drew = W5 at hS hZ hK2 ⊢
 refine te 0 (.pointer (some ⟨g, 0, none⟩)) hS rfl (by intro _ _; exact rfl) ?_
 simp only [lay]
 refine te 1 (.slice (some ⟨b, o, none⟩) 8 c1) hS rfl (by intro _ _; exact rfl) ?_
 simp only [lay]
 refine te 2 (.pointer (some ⟨b, o + 4, none⟩)) hS rfl (by intro _ _; exact ex_index (by exact rfl) Try.underlying26 (by kernel_rfl) (by exact rfl) (by exact rfl) ((by decide))) ?_
 simp only [lay]
 refine te 3 (.int .u8 x4) hS rfl (by intro _ h; exact ex_cell (by exact rfl) Try.underlying5 rfl (by exact rfl) ((h.cell (p := ⟨b, o + 4, none⟩) hb).trans e4)) ?_
 simp only [lay]
 refine te 4 (.int .u32 x4) hS rfl (by intro _ h; exact ex_conv (by exact rfl) (by exact rfl) (conv_u32 _ _ _ _ rfl rfl (by omega) (by omega) _)) ?_
 simp only [lay]
 refine te 5 (.int .u32 (x4 * 16777216)) hS rfl (by intro _ _; exact ex_bin (by exact rfl) (by exact rfl) (by exact rfl) (by decide) (b_shl32 _ 24 _ (by exact rfl) (by omega) (by decide) _)) ?_
 simp only [lay]
 refine te 6 (.slice (some ⟨b, o, none⟩) 8 c1) hS rfl (by intro _ _; exact rfl) ?_
 simp only [lay]
 refine te 7 (.pointer (some ⟨b, o + 5, none⟩)) hS rfl (by intro _ _; exact ex_index (by exact rfl) Try.underlying26 (by kernel_rfl) (by exact rfl) (by exact rfl) ((by decide))) ?_
 simp only [lay]
 refine te 8 (.int .u8 x5) hS rfl (by intro _ h; exact ex_cell (by exact rfl) Try.underlying5 rfl (by exact rfl) ((h.cell (p := ⟨b, o + 5, none⟩) hb).trans e5)) ?_
 simp only [lay]
 refine te 9 (.int .u32 x5) hS rfl (by intro _ h; exact ex_conv (by exact rfl) (by exact rfl) (conv_u32 _ _ _ _ rfl rfl (by omega) (by omega) _)) ?_
 simp only [lay]
 refine te 10 (.int .u32 (x5 * 65536)) hS rfl (by intro _ _; exact ex_bin (by exact rfl) (by exact rfl) (by exact rfl) (by decide) (b_shl32 _ 16 _ (by exact rfl) (by omega) (by decide) _)) ?_
 simp only [lay]
 refine te 11 (.int .u32 (x4 * 16777216 + x5 * 65536)) hS rfl (by intro _ _; exact ex_bin (by exact rfl) (by exact rfl) (by exact rfl) (by decide) (b_or32 _ _ hor2 _)) ?_
 simp only [lay]
 refine te 12 (.slice (some ⟨b, o, none⟩) 8 c1) hS rfl (by intro _ _; exact rfl) ?_
 simp only [lay]
 refine te 13 (.pointer (some ⟨b, o + 6, none⟩)) hS rfl (by intro _ _; exact ex_index (by exact rfl) Try.underlying26 (by kernel_rfl) (by exact rfl) (by exact rfl) ((by decide))) ?_
 simp only [lay]
 refine te 14 (.int .u8 x6) hS rfl (by intro _ h; exact ex_cell (by exact rfl) Try.underlying5 rfl (by exact rfl) ((h.cell (p := ⟨b, o + 6, none⟩) hb).trans e6)) ?_
 simp only [lay]
 refine te 15 (.int .u32 x6) hS rfl (by intro _ h; exact ex_conv (by exact rfl) (by exact rfl) (conv_u32 _ _ _ _ rfl rfl (by omega) (by omega) _)) ?_
 simp only [lay]
 refine te 16 (.int .u32 (x6 * 256)) hS rfl (by intro _ _; exact ex_bin (by exact rfl) (by exact rfl) (by exact rfl) (by decide) (b_shl32 _ 8 _ (by exact rfl) (by omega) (by decide) _)) ?_
 simp only [lay]
 refine te 17 (.int .u32 (x4 * 16777216 + x5 * 65536 + x6 * 256)) hS rfl (by intro _ _; exact ex_bin (by exact rfl) (by exact rfl) (by exact rfl) (by decide) (b_or32 _ _ hor3 _)) ?_
 simp only [lay]
 refine te 18 (.slice (some ⟨b, o, none⟩) 8 c1) hS rfl (by intro _ _; exact rfl) ?_
 simp only [lay]
 refine te 19 (.pointer (some ⟨b, o + 7, none⟩)) hS rfl (by intro _ _; exact ex_index (by exact rfl) Try.underlying26 (by kernel_rfl) (by exact rfl) (by exact rfl) ((by decide))) ?_
 simp only [lay]
 refine te 20 (.int .u8 x7) hS rfl (by intro _ h; exact ex_cell (by exact rfl) Try.underlying5 rfl (by exact rfl) ((h.cell (p := ⟨b, o + 7, none⟩) hb).trans e7)) ?_
 simp only [lay]
 refine te 21 (.int .u32 x7) hS rfl (by intro _ h; exact ex_conv (by exact rfl) (by exact rfl) (conv_u32 _ _ _ _ rfl rfl (by omega) (by omega) _)) ?_
 simp only [lay]
 refine te 22 (.int .u32 I) hS rfl (by intro _ _; exact ex_bin (by exact rfl) (by exact rfl) (by exact rfl) (by decide) (b_or32 _ _ hor4 _)) ?_
 simp only [lay]
 refine te 23 (.pointer (some ⟨g, 0, none⟩)) hS rfl (by intro _ _; exact ex_nilc (by exact rfl) (by exact rfl)) ?_
 simp only [lay]
 refine te 24 (.pointer (some ⟨g, 2, none⟩)) hS rfl (by intro _ _; exact ex_field 2 41 (by exact rfl) Try.underlying147 (by exact rfl) rfl (by kernel_rfl) (by exact rfl)) ?_
 simp only [lay]
 refine te 25 (.pointer (some ⟨g, 39, none⟩)) hS rfl (by intro _ _; exact ex_fieldO 37 0 (by exact rfl) Try.underlying28 (by exact rfl) rfl (by kernel_rfl) (by exact rfl)) ?_
 simp only [lay]
 refine tk_cell (i := 26) (v := .int .u32 I) (by kernel_rfl) rfl (by kernel_rfl) rfl rfl rfl rfl (by kernel_rfl) hZ (show 39 < 44 by decide) rfl (below_setCell hS hB 39 _) ?_
 simp only [lay]
 refine wpAnyH_done (by kernel_rfl) ?_ _
 have hZ6 := hZ.setCell 39 (.int .u32 I)
 have hK6 := hK2.but6 (But6.setCell g 39 W5 (.int .u32 I)) (Nat.lt_succ_self g)
 have hB6 := below_setCell hS hB 39 (.int .u32 I)
 generalize W5.setCell ⟨g, 39, none⟩ (.int .u32 I) = W6 at hZ6 hK6 hB6 ⊢
 have e0' := (hB6.cell (p := ⟨b, o, none⟩) hb).trans e0
 go_wp2
 go_ret
 obtain ⟨q1, q2, q3, q4⟩ := hxs.out
 rw [q1, q2, q3, q4]
 exact ⟨Byt.mk rfl, hZ6, hK6, hkl, hB6⟩
end Go.Proofs.Ytjnphelfloiadaa
