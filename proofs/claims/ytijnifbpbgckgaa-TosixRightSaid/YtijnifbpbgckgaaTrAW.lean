/-
  Lemmas and walks for the row of TosixRight (part 23 of 33).
-/
import Derived.Test.YtijnifbpbgckgaaTrAN
set_option linter.unusedVariables false
set_option linter.unusedSimpArgs false
namespace Go.Proofs.Ytijnifbpbgckgaa
open Go.RowKit Go.Shelf

def Fault (p s : Int) : Ending := .panicked [{ v := .iface 155 (.agg #[.int .i64 p, .int .i64 s]), recovered := false }]
theorem cell_at4 {B : Nat} {W0 w : World} {b off n c : Nat} {l : List Int} (hy : By B W0 (some ⟨b, off, none⟩) n c l) (hbel : Below B W0 w) {i : Nat} (hi : i < n) : w.cell? ⟨b, off + i, none⟩ = some (.int .u8 (l.getD i 0)) := by
  obtain ⟨b', off', x, hA, hb, hx, hc, _⟩ := hy.get hi
  injection hA with hA
  injection hA with q1 q2
  subst q1 q2
  rw [hbel.cell (p := ⟨b, off + i, none⟩) hb, hc]
  have : l.getD i 0 = x := by simpa [List.getD] using congrArg (·.getD 0) hx
  rw [this]
def v4 (tos id : Int) (df mf : Bool) (off ttl pro s0 s1 s2 s3 d0 d1 d2 d3 : Int) (oA : Option Addr) (ol oc : Nat) (bA : Option Addr) (bl bc : Nat) : Array Value :=
  #[.int .u8 tos, .int .u16 id, .bool df, .bool mf, .int .i64 off, .int .u8 ttl, .int .u8 pro, .int .u8 s0, .int .u8 s1, .int .u8 s2, .int .u8 s3, .int .u8 d0, .int .u8 d1, .int .u8 d2, .int .u8 d3, .slice oA ol oc, .slice bA bl bc]
def z4cells : Array Value := #[.int .u8 0, .int .u16 0, .bool false, .bool false, .int .i64 0, .int .u8 0, .int .u8 0, .int .u8 0, .int .u8 0, .int .u8 0, .int .u8 0, .int .u8 0, .int .u8 0, .int .u8 0, .int .u8 0, .slice none 0 0, .slice none 0 0]

set_option maxRecDepth 100000 in
set_option maxHeartbeats 2000000 in
theorem read_bad {B g : Nat} {t : TypeId} {W0 w : World} {l : List Int} (A : Option Addr) (c : Nat) (part : Bool) (h : RD B g t W0 w l 0) (hy : By B W0 A l.length c l) (hl : InB l) (he : pe4 part l ≠ 0) :
    Calls Try.prog 106 #[.pointer (some ⟨g, 0, none⟩), .slice A l.length c, .bool part] w fun e w' => e = Fault (pat4 (pe4 part l)) (pe4 part l) ∧ Below B W0 w' := by
  have hBw : B ≤ w.heap.size := by have h1 := h.hg; obtain ⟨_, _, h2, _⟩ := h.st; have h3 := h2.lt; omega
  have hB1 : Below B W0 (w.alloc (.cells z4cells 27)) := h.bel.alloc hBw _
  by_cases h20 : l.length < 20
  · have e1 : pe4 part l = 40 := by unfold pe4; rw [if_pos h20]
    rw [e1]
    clear e1 he
    go_enter Try.func106, Try.ntmps106
    go_wp2
    exact ⟨rfl, rfl, hB1⟩
  obtain ⟨b, off, rfl, hbl, -⟩ := hy.row.at_ (by omega)
  have d0 : (w.alloc (.cells z4cells 27)).cell? ⟨b, off, none⟩ = _ := cell_at4 hy hB1 (i := 0) (by omega)
  have r0 := getD_rng4 hl 0
  have hH : hl4 l = l.getD 0 0 % 16 * 4 := rfl
  obtain ⟨x0, hx0⟩ : ∃ x, l.getD 0 0 = x := ⟨_, rfl⟩
  rw [hx0] at d0 r0 hH
  unfold z4cells at d0
  have z0 : (0 : Int) < (l.length : Int) := by omega
  have h20' : (20 : Int) ≤ (l.length : Int) := by omega
  by_cases h41 : x0 / 16 = 4
  case neg =>
    have e1 : pe4 part l = 41 := by unfold pe4; rw [if_neg h20, hx0, if_pos h41]
    rw [e1]
    clear e1 he hH hx0
    have h41 : (x0 / 16 != 4) = true := by simpa using h41
    go_enter Try.func106, Try.ntmps106
    go_wp2
    exact ⟨rfl, rfl, hB1⟩
  have ha : bits .and .u8 x0 15 = x0 % 16 := and_u8 4 15 rfl (by decide) (by omega) (by omega)
  obtain ⟨k, hk⟩ : ∃ k : Nat, x0 % 16 * 4 = (k : Int) := ⟨(x0 % 16 * 4).toNat, by omega⟩
  rw [hk] at hH
  have hkb : k ≤ 60 := by omega
  by_cases h42 : k < 20 ∨ l.length < k
  · have e1 : pe4 part l = 42 := by unfold pe4; rw [if_neg h20, hx0, if_neg (by simp [h41]), hH, if_pos (by omega)]
    rw [e1]
    clear e1 he hH hx0
    rcases Nat.lt_or_ge k 20 with h1 | h1
    · have h1 : (k : Int) < 20 := by omega
      clear h42
      go_enter Try.func106, Try.ntmps106
      go_wp2
      exact ⟨rfl, rfl, hB1⟩
    · have h2 : (l.length : Int) < (k : Int) := by omega
      have h1 : (20 : Int) ≤ (k : Int) := by omega
      clear h42
      go_enter Try.func106, Try.ntmps106
      go_wp2
      exact ⟨rfl, rfl, hB1⟩
  have h1 : (20 : Int) ≤ (k : Int) := by omega
  have h2 : (k : Int) ≤ (l.length : Int) := by omega
  have hR1 := h.move (fun _ h => h.alloc) ((Below.refl B w).alloc hBw (.cells z4cells 27))
  have hg6 : w.heap.size ≠ g := by obtain ⟨_, _, h2, _⟩ := h.st; have h3 := h2.lt; omega
  have hr6 : Has (w.alloc (.cells z4cells 27)) w.heap.size (.cells z4cells 27 (0, 0)) := Has.newAt rfl
  have hA4 : tot4 l = l.getD 2 0 * 256 + l.getD 3 0 := rfl
  have r2 := getD_rng4 hl 2
  have r3 := getD_rng4 hl 3
  obtain ⟨x1, hx1⟩ : ∃ x, l.getD 1 0 = x := ⟨_, rfl⟩
  by_cases h43 : (part = false ∧ tot4 l ≠ l.length) ∨ (part = true ∧ (tot4 l < l.length ∨ tot4 l < hl4 l))
  · have e1 : pe4 part l = 43 := by unfold pe4; rw [if_neg h20, hx0, if_neg (by simp [h41]), if_neg (by omega), if_pos h43]
    rw [e1]
    clear e1 he hx0
    go_enter Try.func106, Try.ntmps106
    go_wp2_with fail
    refine (take1_any hR1 (by omega)).mono ?_
    rintro e w1 ⟨b1, o1, c1, rfl, hb1, q1, hR1, hn1⟩
    have hr6 := hn1.has _ _ hg6 hr6
    clear hn1 q1 hb1 d0
    go_wp2_with fail
    refine (take1_any hR1 (by omega)).mono ?_
    rintro e w2 ⟨b2, o2, c2, rfl, hb2, q2, hR2, hn2⟩
    have hr6 := hn2.has _ _ hg6 hr6
    have q2 : w2.cell? ⟨b2, o2, none⟩ = some (.int .u8 x1) := ((hR2.bel.cell (p := ⟨b2, o2, none⟩) hb2).trans q2).trans (by rw [← hx1])
    clear hn2 hR1
    have hV : Has (w2.alloc (.cells (v4 x1 0 false false 0 0 0 0 0 0 0 0 0 0 0 none 0 0 none 0 0) 27)) w2.heap.size (.cells (v4 x1 0 false false 0 0 0 0 0 0 0 0 0 0 0 none 0 0 none 0 0) 27 (0, 0)) := Has.newAt rfl
    have hR3 := hR2.move (fun _ h => h.alloc) ((Below.refl B w2).alloc (Nat.le_trans hR2.hg (by obtain ⟨_, _, h2, _⟩ := hR2.st; exact Nat.le_of_lt h2.lt)) (.cells (v4 x1 0 false false 0 0 0 0 0 0 0 0 0 0 0 none 0 0 none 0 0) 27))
    have hr6 := hr6.alloc (o' := .cells (v4 x1 0 false false 0 0 0 0 0 0 0 0 0 0 0 none 0 0 none 0 0) 27)
    have hgv : w2.heap.size ≠ g := by obtain ⟨_, _, h2, _⟩ := hR2.st; have h3 := h2.lt; omega
    clear hR2
    go_wp2_with fail
    refine (ptwo_any hR3 (by omega) hl).mono ?_
    rintro e w3 ⟨q, rfl, hq, hR4, hn3⟩
    have hr6 := hn3.has _ _ hg6 hr6
    have hV := hn3.has _ _ hgv hV
    clear hn3 hR3
    obtain rfl : q = tot4 l := hq.out
    clear hq
    have hlast := hR4.bel
    rcases h43 with ⟨rfl, hn⟩ | ⟨rfl, hn⟩
    · have hn : (tot4 l != (l.length : Int)) = true := by simpa using hn
      clear hA4 r2 r3 hH
      generalize tot4 l = T at hn ⊢
      go_wp2
      exact ⟨rfl, rfl, hlast⟩
    · rw [hH] at hn
      clear hA4 r2 r3 hH
      generalize tot4 l = T at hn ⊢
      by_cases hn1 : T < l.length
      · clear hn
        go_wp2
        exact ⟨rfl, rfl, hlast⟩
      · omega
  obtain ⟨hp, hs⟩ : part = false ∧ sumw (l.take (hl4 l).toNat) ≠ 65535 := by
    refine Decidable.not_not.1 fun hn => he ?_
    unfold pe4
    rw [if_neg h20, hx0, if_neg (by simp [h41]), if_neg (by omega), if_neg h43, if_neg hn]
  have e1 : pe4 part l = 44 := by unfold pe4; rw [if_neg h20, hx0, if_neg (by simp [h41]), if_neg (by omega), if_neg h43, if_pos ⟨hp, hs⟩]
  rw [e1]
  subst hp
  rw [hH, Int.toNat_natCast] at hs
  have hT : tot4 l = l.length := Decidable.not_not.1 fun hn => h43 (.inl ⟨rfl, hn⟩)
  have hs := Lib.hid hs
  obtain ⟨hsl, yk⟩ := hy.to_ (P := Try.prog) 25 Try.underlying25 (by kernel_rfl) (k := k) (by omega)
  have yk := Lib.hid yk
  clear e1 he hx0 h43
  go_enter Try.func106, Try.ntmps106
  go_wp2_with fail
  refine (take1_any hR1 (by omega)).mono ?_
  rintro e w1 ⟨b1, o1, c1, rfl, hb1, q1, hR1, hn1⟩
  have hr6 := hn1.has _ _ hg6 hr6
  clear hn1 q1 hb1 d0
  go_wp2_with fail
  refine (take1_any hR1 (by omega)).mono ?_
  rintro e w2 ⟨b2, o2, c2, rfl, hb2, q2, hR2, hn2⟩
  have hr6 := hn2.has _ _ hg6 hr6
  have q2 : w2.cell? ⟨b2, o2, none⟩ = some (.int .u8 x1) := ((hR2.bel.cell (p := ⟨b2, o2, none⟩) hb2).trans q2).trans (by rw [← hx1])
  clear hn2 hR1
  have hV : Has (w2.alloc (.cells (v4 x1 0 false false 0 0 0 0 0 0 0 0 0 0 0 none 0 0 none 0 0) 27)) w2.heap.size (.cells (v4 x1 0 false false 0 0 0 0 0 0 0 0 0 0 0 none 0 0 none 0 0) 27 (0, 0)) := Has.newAt rfl
  have hR3 := hR2.move (fun _ h => h.alloc) ((Below.refl B w2).alloc (Nat.le_trans hR2.hg (by obtain ⟨_, _, h2, _⟩ := hR2.st; exact Nat.le_of_lt h2.lt)) (.cells (v4 x1 0 false false 0 0 0 0 0 0 0 0 0 0 0 none 0 0 none 0 0) 27))
  have hr6 := hr6.alloc (o' := .cells (v4 x1 0 false false 0 0 0 0 0 0 0 0 0 0 0 none 0 0 none 0 0) 27)
  have hgv : w2.heap.size ≠ g := by obtain ⟨_, _, h2, _⟩ := hR2.st; have h3 := h2.lt; omega
  clear hR2
  go_wp2_with fail
  refine (ptwo_any hR3 (by omega) hl).mono ?_
  rintro e w3 ⟨q, rfl, hq, hR4, hn3⟩
  have hr6 := hn3.has _ _ hg6 hr6
  have hV := hn3.has _ _ hgv hV
  clear hn3 hR3
  obtain rfl : q = tot4 l := hq.out
  clear hq
  have hn : (tot4 l != (l.length : Int)) = false := by simp [hT]
  clear hA4 r2 r3 hH hT
  generalize tot4 l = T at hn ⊢
  go_wp2_with fail
  have hB3 : B ≤ w3.heap.size := Nat.le_trans hR4.hg (by obtain ⟨_, _, h2, _⟩ := hR4.st; exact Nat.le_of_lt h2.lt)
  refine (good_new [(some ⟨b, off, none⟩, c, l.take k)] 1 (by simp only [List.map_cons, List.map_nil]; rw [yk.out.len]; exact Has.newAt rfl) rfl (all1 (by rw [yk.out.len]; exact ((yk.out.below hR4.bel (Nat.le_refl _)).alloc hB3 _).more (by simp; omega))) (by simp)).mono ?_
  rintro e w4 ⟨q, rfl, hq, hb⟩
  obtain rfl : q = false := hq.out.trans (by rw [show flat [(some ⟨b, off, none⟩, c, l.take k)] = l.take k from by simp [flat]]; exact decide_eq_false hs.out)
  have hlast := hR4.bel.trans ((((Below.refl _ _).alloc (Nat.le_refl _) _).trans (hb.mono (by simp))).mono hB3)
  go_wp2
  exact ⟨rfl, rfl, hlast⟩
end Go.Proofs.Ytijnifbpbgckgaa
