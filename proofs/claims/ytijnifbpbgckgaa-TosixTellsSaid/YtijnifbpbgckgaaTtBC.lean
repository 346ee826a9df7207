/-
  Lemmas and walks for the row of TosixTells (part 29 of 39).
-/
import Derived.Test.YtijnifbpbgckgaaTtBB
set_option linter.unusedVariables false
set_option linter.unusedSimpArgs false
namespace Go.Proofs.Ytijnifbpbgckgaa
open Go.RowKit Go.Shelf

theorem OwnB.take {w : World} {base n c : Nat} {A : Option Addr} {l : List Int} (h : OwnB w base (.slice A n c) l) {k : Nat} (hk : k ≤ n) : OwnB w base (.slice A k c) (l.take k) := by
  have hn := own_len h
  have hl : (l.take k).length = k := by rw [List.length_take]; omega
  refine ⟨?_, h.rng.take k⟩
  obtain ⟨h0, h1⟩ := h.own
  refine ⟨by rw [u8s_length, hl, Nat.mul_one], ?_⟩
  rw [hl]
  rcases h1 with ⟨hv, hz⟩ | ⟨g, cap, cur, hv, hb, hh, h2, h3, h4, h5⟩
  · injection hv with e1 e2 e3
    subst e1 e2 e3
    obtain rfl : k = 0 := by omega
    exact .inl ⟨rfl, rfl⟩
  · injection hv with e1 e2 e3
    subst e1 e2 e3
    refine .inr ⟨g, c, cur, rfl, hb, hh, by omega, h3, h4, ?_⟩
    rw [u8s, List.map_take, ← u8s, ← h5, List.take_take, Nat.mul_one, Nat.mul_one, Nat.min_eq_left (by omega)]
theorem own_norm {w : World} {base n c : Nat} {A : Option Addr} {l : List Int} (h : OwnB w base (.slice A n c) l) : OwnB w base (.slice A l.length c) l := by
  have hn := own_len h
  subst hn
  exact h
theorem head17_ok {d : D4} (hd : d.ok) {s t bl : List Int} (hE : E6ok s t) : (head17 d s t bl).ok := by
  have h1 := hd.id
  have h2 := hd.off
  refine ⟨hd.tos, by simp [head17], hd.ttl, hE.sL, hE.s, hE.tL, hE.t, ?_, ?_, ?_⟩
  · simp only [head17]
    split <;> omega
  · simp only [head17]
    split <;> omega
  · have := hd.proto
    simp only [head17, pro17]
    split <;> omega
def pB6 (A : Option Addr) (c : Nat) : W6 := ⟨none, 0, [], A, c⟩
theorem head17_rd {B : Nat} {w : World} {d : D4} (hd : d.ok) {s t bl : List Int} (hE : E6ok s t) {A : Option Addr} {c : Nat} (y : By B w A bl.length c bl) : Rd6 B w (head17 d s t bl) (pB6 A c) :=
  ⟨head17_ok hd hE, rfl, Kds.nil _ _, y⟩
theorem head17_rd0 {w : World} {d : D4} (hd : d.ok) {s t : List Int} (hE : E6ok s t) : Rd6 w.heap.size w (head17 d s t []) pZ6 :=
  ⟨head17_ok hd hE, rfl, Kds.nil _ _, By.nil _ _ none (by decide)⟩
theorem head17_own {w : World} {base : Nat} {d : D4} (hd : d.ok) {s t bl : List Int} (hE : E6ok s t) {A : Option Addr} {c : Nat} (y : OwnB w base (.slice A bl.length c) bl) : Own6 w base (head17 d s t bl) (pB6 A c) :=
  ⟨head17_ok hd hE, OwnK.nil _ _ _, rfl, y⟩
theorem head17_ahead (d : D4) (s t bl : List Int) : (head17 d s t bl).ahead = 40 + (if d.part then 8 else 0) := by
  show 40 + hsz [] + (if d.part = true then 8 else 0) = _
  cases d.part <;> rfl
theorem part_false {d : D4} (h : d.part = false) : d.mf = false ∧ d.off ≤ 0 := by
  unfold D4.part at h
  simp only [Bool.or_eq_false_iff, decide_eq_false_iff_not] at h
  exact ⟨h.1, by omega⟩
theorem head17_right {d : D4} (ho : 0 ≤ d.off ∧ d.off ≤ 8191) (hw : wrong17 d.proto = false) (s t bl : List Int) : (head17 d s t bl).right = true := by
  have hp : extra6 (pro17 d.proto) = false ∧ pro17 d.proto ≠ 44 := by
    rw [wrong17, decide_eq_false_iff_not] at hw
    unfold extra6 pro17
    constructor
    · rw [decide_eq_false_iff_not]
      split <;> omega
    · split <;> omega
  simp only [D6.right, Bool.and_eq_true, decide_eq_true_eq]
  refine ⟨by simp [head17], by simp [head17], by simp [head17, okH], ?_⟩
  simp only [D6.tail, head17]
  by_cases hq : d.part = true
  · simp only [hq, if_true]
    simp [ho.1, ho.2]
  · have hq := eq_false_of_ne_true hq
    simp only [hq, Bool.false_eq_true, if_false]
    simp [hp.1, hp.2, (part_false hq).1]
theorem head17_check {d : D4} (ho : 0 ≤ d.off ∧ d.off ≤ 8191) (hw : wrong17 d.proto = false) (s t bl : List Int) : (head17 d s t bl).check = if 65535 < bl.length + (if d.part then 8 else 0) then 2 else 0 := by
  unfold D6.check
  rw [if_neg (by rw [head17_right ho hw]; decide), head17_ahead]
  have : (head17 d s t bl).bl = bl := rfl
  rw [this, show 40 + (if d.part = true then 8 else 0) - 40 = (if d.part = true then 8 else 0) from by omega]
theorem said17_rng {l : List Int} (hl : InB l) (h : pe4 true l = 0) : 0 ≤ said17 l ∧ said17 l < 65536 ∧ (of4 l).bl.length ≤ 65535 ∧ (0 ≤ (of4 l).off ∧ (of4 l).off ≤ 8191) ∧ (of4 l).ol.length ≤ 40 := by
  obtain ⟨h1, h2, h3, h4, _, h6, _⟩ := pe4_zero h
  have h6 := h6 rfl
  have t0 := getD_byte hl 0
  have t2 := getD_byte hl 2
  have t3 := getD_byte hl 3
  have t6 := getD_byte hl 6
  have t7 := getD_byte hl 7
  have ho : (of4 l).ol.length = (hl4 l).toNat - 20 := by simp only [of4, List.length_take, List.length_drop]; omega
  have hb : (of4 l).bl.length = l.length - (hl4 l).toNat := by simp only [of4, List.length_drop]
  unfold said17
  rw [ho]
  refine ⟨?_, ?_, ?_, ?_, ?_⟩
  · omega
  · unfold tot4; omega
  · rw [hb]; unfold tot4 at h6; omega
  · simp only [of4]; omega
  · unfold hl4 at *; omega
end Go.Proofs.Ytijnifbpbgckgaa
