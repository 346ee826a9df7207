/-
  The walk of SegmentRewrites.
-/
import Derived.Test.YtaobnbjkhgcmlaaRrw7
import Derived.Test.YtaobnbjkhgcmlaaPo6
import Derived.Test.YtaobnbjkhgcmlaaLaw6A
namespace Go.Proofs.Ytaobnbjkhgcmlaa
open Go.RowKit Go.Shelf

theorem rw_zero {proto : Int} {l f t : List Int} (h : rwErr proto l f t = 0) : (proto = 6 ∨ proto = 17) ∧ 4 ≤ l.length ∧ f.length = t.length ∧ t.length % 2 = 0 := by
  unfold rwErr at h
  split at h
  · cases h
  · split at h
    · cases h
    · split at h
      · cases h
      · rename_i h1 h2 h3
        refine ⟨?_, by omega, ?_⟩
        · by_cases h6 : proto = 6
          · exact .inl h6
          · by_cases h7 : proto = 17
            · exact .inr h7
            · exact absurd ⟨h6, h7⟩ h1
        · exact Decidable.not_not.1 h3
theorem rw_any (proto : Int) (hp : 0 ≤ proto ∧ proto ≤ 255) (A : Option Addr) (c : Nat) (l : List Int) (A1 : Option Addr) (c1 : Nat) (f : List Int) (A2 : Option Addr) (c2 : Nat) (t : List Int) (src dst : Int) (hsr : 0 ≤ src ∧ src < 65536) (hds : 0 ≤ dst ∧ dst < 65536) (w : World) (y : By w.heap.size w A l.length c l) (y1 : By w.heap.size w A1 f.length c1 f) (y2 : By w.heap.size w A2 t.length c2 t) (hs : l.length ≤ 140737488355328) :
    Calls Try.prog 38 #[.int .u8 proto, .slice A l.length c, .slice A1 f.length c1, .slice A2 t.length c2, .int .u16 src, .int .u16 dst] w fun e w' => ToldB (rwBytes proto l f t src dst) (rwErr proto l f t) w e w' := by
  by_cases h0 : rwErr proto l f t = 0
  · obtain ⟨hpr, h4, hft, hev⟩ := rw_zero h0
    rw [h0]
    rcases hpr with rfl | rfl
    · exact rw_ok6 A c l A1 c1 f A2 c2 t src dst hsr hds w y y1 y2 hs h4 hft hev
    · exact rw_ok17 A c l A1 c1 f A2 c2 t src dst hsr hds w y y1 y2 hs h4 hft hev
  · have hb : rwBytes proto l f t src dst = [] := by unfold rwBytes; rw [if_pos h0]
    rw [hb]
    exact rw_err proto hp A c l A1 c1 f A2 c2 t src dst w y y1 y2 h0
theorem rrw_any (proto : Int) (hp : 0 ≤ proto ∧ proto ≤ 255) (A : Option Addr) (c : Nat) (l : List Int) (A1 : Option Addr) (c1 : Nat) (f : List Int) (A2 : Option Addr) (c2 : Nat) (t : List Int) (src dst : Int) (hsr : 0 ≤ src ∧ src < 65536) (hds : 0 ≤ dst ∧ dst < 65536) (w : World) (y : By w.heap.size w A l.length c l) (y1 : By w.heap.size w A1 f.length c1 f) (y2 : By w.heap.size w A2 t.length c2 t) (hs : l.length ≤ 4398046511104) (hbig : f.length ≤ 4398046511104 ∧ t.length ≤ 4398046511104) :
    Calls Try.prog 39 #[.int .u8 proto, .slice A l.length c, .slice A1 f.length c1, .slice A2 t.length c2, .int .u16 src, .int .u16 dst] w fun e w' => ToldB (rwBytes proto l f t src dst) (rwErr proto l f t) w e w' := by
  by_cases h0 : rwErr proto l f t = 0
  · obtain ⟨hpr, h4, hft, hev⟩ := rw_zero h0
    rw [h0]
    rcases hpr with rfl | rfl
    · exact rrw_ok6 A c l A1 c1 f A2 c2 t src dst hsr hds w y y1 y2 hs hbig h4 hft hev
    · exact rrw_ok17 A c l A1 c1 f A2 c2 t src dst hsr hds w y y1 y2 hs hbig h4 hft hev
  · have hb : rwBytes proto l f t src dst = [] := by unfold rwBytes; rw [if_pos h0]
    rw [hb]
    exact rrw_err proto hp A c l A1 c1 f A2 c2 t src dst w y y1 y2 hbig h0

set_option maxRecDepth 100000 in
set_option maxHeartbeats 1000000 in
theorem rewrites_walk (proto : Int) (hp : 0 ≤ proto ∧ proto ≤ 255) (A : Option Addr) (c : Nat) (l : List Int) (A1 : Option Addr) (c1 : Nat) (f : List Int) (A2 : Option Addr) (c2 : Nat) (t : List Int) (src dst : Int) (hsr : 0 ≤ src ∧ src < 65536) (hds : 0 ≤ dst ∧ dst < 65536) (w : World) (y : By w.heap.size w A l.length c l) (y1 : By w.heap.size w A1 f.length c1 f) (y2 : By w.heap.size w A2 t.length c2 t) (hs : l.length ≤ 4398046511104) (hbig : f.length ≤ 4398046511104 ∧ t.length ≤ 4398046511104) :
    Calls Try.prog 10 #[.int .u8 proto, .slice A l.length c, .slice A1 f.length c1, .slice A2 t.length c2, .int .u16 src, .int .u16 dst] w fun e w' => e = .returned (.bool true) ∧ Below w.heap.size w w' := by
  obtain ⟨P, hP⟩ : ∃ x, portsS proto l = x := ⟨_, rfl⟩
  obtain ⟨D, hD⟩ : ∃ x, portsD proto l = x := ⟨_, rfl⟩
  obtain ⟨Q, hQ⟩ : ∃ x, portsQ proto l = x := ⟨_, rfl⟩
  obtain ⟨L, hL⟩ : ∃ x, rwBytes proto l f t src dst = x := ⟨_, rfl⟩
  obtain ⟨E, hE⟩ : ∃ x, rwErr proto l f t = x := ⟨_, rfl⟩
  have k1 := fun W (h : Below w.heap.size w W) => ports_any proto hp A c l W ((y.below h (Nat.le_refl _)).more h.size)
  have k2 := fun W (h : Below w.heap.size w W) => rports_any proto hp A c l W ((y.below h (Nat.le_refl _)).more h.size)
  have k3 := fun W (h : Below w.heap.size w W) => rw_any proto hp A c l A1 c1 f A2 c2 t src dst hsr hds W ((y.below h (Nat.le_refl _)).more h.size) ((y1.below h (Nat.le_refl _)).more h.size) ((y2.below h (Nat.le_refl _)).more h.size) (by omega)
  have k4 := fun W (h : Below w.heap.size w W) => rrw_any proto hp A c l A1 c1 f A2 c2 t src dst hsr hds W ((y.below h (Nat.le_refl _)).more h.size) ((y1.below h (Nat.le_refl _)).more h.size) ((y2.below h (Nat.le_refl _)).more h.size) hs hbig
  rw [hP, hD, hQ] at k1 k2
  rw [hL, hE] at k3 k4
  have k1 := Lib.hid k1
  have k2 := Lib.hid k2
  have k3 := Lib.hid k3
  have k4 := Lib.hid k4
  clear hP hD hQ hL hE hs hbig
  go_enter Try.func10, Try.ntmps10
  go_wp2_with fail
  refine (k1.out _ (Below.refl w.heap.size w)).mono ?_
  rintro e v1 ⟨rfl, hB⟩
  go_wp2_with fail
  refine (k2.out _ hB).mono ?_
  rintro e v2 ⟨rfl, hb⟩
  have hB := hB.trans (hb.mono hB.size)
  go_wp2_with fail
  refine (k3.out _ hB).mono ?_
  rintro e v3 ⟨a, s, rfl, hs, o3, hb⟩
  obtain rfl : E = s := hs.out.symm
  have hB := hB.trans (hb.mono hB.size)
  obtain ⟨A3, n3, rfl, x3⟩ := o3.by_
  clear hs hb o3
  go_wp2_with fail
  refine (k4.out _ hB).mono ?_
  rintro e v4 ⟨a, s, rfl, hs, o4, hb⟩
  obtain rfl : E = s := hs.out.symm
  have hB := hB.trans (hb.mono hB.size)
  obtain ⟨A4, n4, rfl, x4⟩ := o4.by_
  have q3 := ((x3.below hb (Nat.le_refl _)).more hb.size).conv (P := Try.prog) 24 9 Try.underlying24 Try.underlying5 Try.underlying9
  have q4 := x4.conv (P := Try.prog) 24 9 Try.underlying24 Try.underlying5 Try.underlying9
  clear hs hb o4 x3 x4
  go_wp2_with fail
  refine (awake_any _).mono ?_
  rintro e v5 ⟨rfl, hb⟩
  have hB := hB.trans (hb.mono hB.size)
  go_wp2
  go_ret
  exact ⟨rfl, hB⟩
end Go.Proofs.Ytaobnbjkhgcmlaa
