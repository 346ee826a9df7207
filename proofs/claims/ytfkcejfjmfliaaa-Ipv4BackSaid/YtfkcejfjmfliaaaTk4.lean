/-
  The walks of (*rest).take, (*rest).two: bytes taken off the front of a row.
-/
import Derived.Test.YtfkcejfjmfliaaaP4P
import Derived.Test.YtfkcejfjmfliaaaIp4C
import Derived.Test.YtfkcejfjmfliaaaRegA
namespace Go.Proofs.Ytfkcejfjmfliaaa
open Go.RowKit Go.Shelf

/-- a reader in block g that is at the k-th of bytes l, which lie below B -/
structure RD (B g : Nat) (t : TypeId) (W0 w : World) (l : List Int) (k : Nat) : Prop where
  st : ∃ A c, Has w g (.cells #[.slice A (l.length - k) c] t (0, 0)) ∧ By B W0 A (l.length - k) c (l.drop k)
  hg : B ≤ g
  bel : Below B W0 w
/-- all blocks but g lie as they lay -/
structure But (g : Nat) (w w' : World) : Prop where
  size : w'.heap.size = w.heap.size
  has : ∀ j o, j ≠ g → Has w j o → Has w' j o
theorem but_setCell (g k : Nat) (w : World) (v : Value) : But g w (w.setCell ⟨g, k, none⟩ v) := ⟨by simp [World.setCell], fun _ _ hj ho => ho.setCell_other hj k v⟩
theorem RD.move {B g : Nat} {t : TypeId} {W0 w w' : World} {l : List Int} {k : Nat} (h : RD B g t W0 w l k) (hh : ∀ o, Has w g o → Has w' g o) (hb : Below B w w') : RD B g t W0 w' l k := by
  obtain ⟨A, c, h1, h2⟩ := h.st
  exact ⟨⟨A, c, hh _ h1, h2⟩, h.hg, h.bel.trans hb⟩

theorem take_any {B g : Nat} {t : TypeId} {W0 w : World} {l : List Int} {k : Nat} (n : Nat) (h : RD B g t W0 w l k) (hk : k + n ≤ l.length) :
    Calls Try.prog 54 #[.pointer (some ⟨g, 0, none⟩), .int .i64 (n : Int)] w fun e w' => ∃ A1 c1, e = .returned (.slice A1 n c1) ∧ By B W0 A1 n c1 ((l.drop k).take n) ∧ RD B g t W0 w' l (k + n) ∧ But g w w' := by
  obtain ⟨A, c, hH, hy⟩ := h.st
  have hc := hH.cell 0 (v := .slice A (l.length - k) c) rfl
  have hf := hH.free 0
  obtain ⟨r1, y1⟩ := hy.to_ (P := Try.prog) 25 Try.underlying25 (by kernel_rfl) (k := n) (by omega)
  obtain ⟨A2, c2, r2, y2⟩ := hy.from_ (P := Try.prog) 25 Try.underlying25 (by kernel_rfl) (k := n) (by omega)
  have hk2 := Lib.hid hk
  clear hk
  go_enter Try.func54, Try.ntmps54
  go_wp2
  go_ret
  have hbs : Below B w (w.setCell ⟨g, 0, none⟩ (.slice A2 (l.length - k - n) c2)) := below_setCell (Below.refl _ _) h.hg 0 _
  refine ⟨A, c, rfl, y1, ⟨⟨A2, c2, ?_, ?_⟩, h.hg, h.bel.trans hbs⟩, but_setCell _ _ _ _⟩
  · have := hH.setCell 0 (.slice A2 (l.length - k - n) c2)
    rw [← Nat.sub_sub]
    exact this
  · rw [← Nat.sub_sub, ← List.drop_drop]
    exact y2
theorem getD_drop (l : List Int) (k i : Nat) : (l.drop k).getD i 0 = l.getD (k + i) 0 := by simp [List.getD]
theorem take1_any {B g : Nat} {t : TypeId} {W0 w : World} {l : List Int} {k : Nat} (h : RD B g t W0 w l k) (hk : k < l.length) :
    Calls Try.prog 54 #[.pointer (some ⟨g, 0, none⟩), .int .i64 1] w fun e w' => ∃ b off c1, e = .returned (.slice (some ⟨b, off, none⟩) 1 c1) ∧ b < B ∧ W0.cell? ⟨b, off, none⟩ = some (.int .u8 (l.getD k 0)) ∧ RD B g t W0 w' l (k + 1) ∧ But g w w' :=
  (take_any 1 h hk).mono fun e w' ⟨A1, c1, he, hy, hr, hb⟩ => by
    obtain ⟨b, off, x, rfl, hlt, hx, hcell, _⟩ := hy.get (k := 0) (by decide)
    refine ⟨b, off, c1, he, hlt, ?_, hr, hb⟩
    have : l.getD k 0 = x := by
      rw [List.getElem?_take, if_pos (by decide), List.getElem?_drop] at hx
      simpa [List.getD] using congrArg (·.getD 0) hx
    rw [this]
    exact hcell
theorem or8_i64 {a b : Int} (ha : 0 ≤ a ∧ a ≤ 255) (hb : 0 ≤ b ∧ b ≤ 255) : bits .or .i64 (a * 256) b = a * 256 + b := by
  have e1 : a * 256 = ((a * 256).toNat : Int) := by omega
  have e2 : b = (b.toNat : Int) := by omega
  rw [e1, e2, or_i64_nat _ _ (by omega) (by omega), nat_join 8 _ _ (by omega) (by omega)]
  omega
theorem ptwo_any {B g : Nat} {t : TypeId} {W0 w : World} {l : List Int} {k : Nat} (h : RD B g t W0 w l k) (hk : k + 2 ≤ l.length) (hl : InB l) :
    Calls Try.prog 55 #[.pointer (some ⟨g, 0, none⟩)] w fun e w' => ∃ q : Int, e = .returned (.int .i64 q) ∧ Hid (q = l.getD k 0 * 256 + l.getD (k + 1) 0) ∧ RD B g t W0 w' l (k + 2) ∧ But g w w' := by
  have hc := Lib.hid (take_any 2 h hk)
  have g0 := getD_rng4 hl k
  have g1 := getD_rng4 hl (k + 1)
  have hor := or8_i64 g0 g1
  have hkH := Lib.hid hk
  clear hk
  go_enter Try.func55, Try.ntmps55
  go_wp2_with fail
  refine hc.out.mono ?_
  rintro e w1 ⟨A1, c1, rfl, y1, hr, hb⟩
  clear hc
  obtain ⟨b, off, x0, hA, hb0, e0, k0, s0⟩ := y1.get (k := 0) (by omega)
  obtain ⟨b', off', x1, hA', hb1, e1, k1, s1⟩ := y1.get (k := 1) (by omega)
  subst hA
  injection hA' with hA'
  injection hA' with q1 q2
  subst q1 q2
  have z0 : l.getD k 0 = x0 := by
    rw [List.getElem?_take, if_pos (by decide), List.getElem?_drop] at e0
    simpa [List.getD] using congrArg (·.getD 0) e0
  have z1 : l.getD (k + 1) 0 = x1 := by
    rw [List.getElem?_take, if_pos (by decide), List.getElem?_drop] at e1
    simpa [List.getD] using congrArg (·.getD 0) e1
  simp only [z0, z1] at hor g0 g1
  have z0H := Lib.hid z0
  have z1H := Lib.hid z1
  have k0 : w1.cell? ⟨b, off, none⟩ = some (.int .u8 x0) := (hr.bel.cell (p := ⟨b, off + 0, none⟩) hb0).trans k0
  have k1 := (hr.bel.cell (p := ⟨b, off + 1, none⟩) hb0).trans k1
  clear e0 e1 z0 z1 y1 s0 s1 hb1
  go_wp2
  go_quiet (fail)
  go_wp2
  go_ret
  exact ⟨_, rfl, Lib.hid (by rw [z0H.out, z1H.out]), hr.move (fun _ h => h.drewN) (below_drewN _ _ _), ⟨hb.size, fun j o hj ho => (hb.has j o hj ho).drewN⟩⟩
end Go.Proofs.Ytfkcejfjmfliaaa
