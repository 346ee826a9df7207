/-
  The walks of segment.Ports and of the reference's Ports.
-/
import Derived.Test.YtaobnbjkhgcmlaaP6P
namespace Go.Proofs.Ytaobnbjkhgcmlaa
open Go.RowKit Go.Shelf

def portsS (proto : Int) (l : List Int) : Int := if (proto = 6 ∨ proto = 17) ∧ 4 ≤ l.length then be2 l 0 else 0
def portsD (proto : Int) (l : List Int) : Int := if (proto = 6 ∨ proto = 17) ∧ 4 ≤ l.length then be2 l 2 else 0
def portsQ (proto : Int) (l : List Int) : Bool := decide ((proto = 6 ∨ proto = 17) ∧ 4 ≤ l.length)

set_option maxRecDepth 100000 in
theorem ports_any (proto : Int) (hp : 0 ≤ proto ∧ proto ≤ 255) (A : Option Addr) (c : Nat) (l : List Int) (w : World) (y : By w.heap.size w A l.length c l) :
    Calls Try.prog 36 #[.int .u8 proto, .slice A l.length c] w fun e w' => e = .returned (.tuple #[.int .u16 (portsS proto l), .int .u16 (portsD proto l), .bool (portsQ proto l)]) ∧ Below w.heap.size w w' := by
  have hbig := Nat.le_trans y.cap y.big
  have r0 := be2_rng y.rng 0
  have r2 := be2_rng y.rng 2
  by_cases hq : (proto = 6 ∨ proto = 17) ∧ 4 ≤ l.length
  case neg =>
    have h1 : portsS proto l = 0 := if_neg hq
    have h2 : portsD proto l = 0 := if_neg hq
    have h3 : portsQ proto l = false := decide_eq_false hq
    rw [h1, h2, h3]
    clear h1 h2 h3
    have hc : (proto ≠ 6 ∧ proto ≠ 17) ∨ (proto = 6 ∧ (l.length : Int) < 4) ∨ (proto = 17 ∧ (l.length : Int) < 4) := by omega
    rcases hc with ⟨h1, h2⟩ | ⟨rfl, h1⟩ | ⟨rfl, h1⟩
    · have h3 : (proto == 6) = false := by simp [h1]
      have h4 : (proto == 17) = false := by simp [h2]
      clear hq
      go_enter Try.func36, Try.ntmps36
      go_wp2
      go_ret3
      exact ⟨rfl, Below.refl _ _⟩
    all_goals
      clear hq
      go_enter Try.func36, Try.ntmps36
      go_wp2
      go_ret3
      exact ⟨rfl, Below.refl _ _⟩
  case pos =>
    have h1 : portsS proto l = be2 l 0 := if_pos hq
    have h2 : portsD proto l = be2 l 2 := if_pos hq
    have h3 : portsQ proto l = true := decide_eq_true hq
    rw [h1, h2, h3]
    clear h1 h2 h3
    obtain ⟨hpr, h4⟩ := hq
    have h4' : (4 : Int) ≤ (l.length : Int) := by omega
    rcases hpr with rfl | rfl
    all_goals
      go_enter Try.func36, Try.ntmps36
      go_wp2_with fail
      refine (two6_any A _ c l _ y 0 (by omega)).mono ?_
      rintro e w1 ⟨rfl, hb1⟩
      have y1 := (y.below hb1 (Nat.le_refl _)).more hb1.size
      go_wp2_with fail
      refine (two6_any A _ c l _ y1 2 (by omega)).mono ?_
      rintro e w2 ⟨rfl, hb2⟩
      go_wp2
      go_ret3
      exact ⟨rfl, hb1.trans (hb2.mono hb1.size)⟩

set_option maxRecDepth 100000 in
theorem rports_any (proto : Int) (hp : 0 ≤ proto ∧ proto ≤ 255) (A : Option Addr) (c : Nat) (l : List Int) (w : World) (y : By w.heap.size w A l.length c l) :
    Calls Try.prog 37 #[.int .u8 proto, .slice A l.length c] w fun e w' => e = .returned (.tuple #[.int .u16 (portsS proto l), .int .u16 (portsD proto l), .bool (portsQ proto l)]) ∧ Below w.heap.size w w' := by
  have hbig := Nat.le_trans y.cap y.big
  have r0 := be2_rng y.rng 0
  have r2 := be2_rng y.rng 2
  by_cases hq : (proto = 6 ∨ proto = 17) ∧ 4 ≤ l.length
  case neg =>
    have h1 : portsS proto l = 0 := if_neg hq
    have h2 : portsD proto l = 0 := if_neg hq
    have h3 : portsQ proto l = false := decide_eq_false hq
    rw [h1, h2, h3]
    clear h1 h2 h3
    have hc : (proto ≠ 6 ∧ proto ≠ 17) ∨ (proto = 6 ∧ (l.length : Int) < 4) ∨ (proto = 17 ∧ (l.length : Int) < 4) := by omega
    rcases hc with ⟨h1, h2⟩ | ⟨rfl, h1⟩ | ⟨rfl, h1⟩
    · have h3 : (proto == 6) = false := by simp [h1]
      have h4 : (proto == 17) = false := by simp [h2]
      clear hq
      go_enter Try.func37, Try.ntmps37
      go_wp2
      go_ret3
      exact ⟨rfl, Below.refl _ _⟩
    all_goals
      clear hq
      go_enter Try.func37, Try.ntmps37
      go_wp2
      go_ret3
      exact ⟨rfl, Below.refl _ _⟩
  case pos =>
    have h1 : portsS proto l = be2 l 0 := if_pos hq
    have h2 : portsD proto l = be2 l 2 := if_pos hq
    have h3 : portsQ proto l = true := decide_eq_true hq
    rw [h1, h2, h3]
    clear h1 h2 h3
    obtain ⟨hpr, h4⟩ := hq
    have h4' : (4 : Int) ≤ (l.length : Int) := by omega
    rcases hpr with rfl | rfl
    all_goals
      go_enter Try.func37, Try.ntmps37
      go_wp2_with fail
      refine (get2_any A _ c l _ y 0 (by omega)).mono ?_
      rintro e w1 ⟨rfl, hb1⟩
      have y1 := (y.below hb1 (Nat.le_refl _)).more hb1.size
      go_wp2_with fail
      refine (get2_any A _ c l _ y1 2 (by omega)).mono ?_
      rintro e w2 ⟨rfl, hb2⟩
      go_wp2
      go_ret3
      exact ⟨rfl, hb1.trans (hb2.mono hb1.size)⟩
end Go.Proofs.Ytaobnbjkhgcmlaa
