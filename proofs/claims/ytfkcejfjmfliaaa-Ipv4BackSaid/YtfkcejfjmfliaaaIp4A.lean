/-
  The walks of ipv4.Check, ipv4.Size, and of the reference's.
-/
import Derived.Test.YtfkcejfjmfliaaaProg
import Derived.Test.YtfkcejfjmfliaaaP4
namespace Go.Proofs.Ytfkcejfjmfliaaa
open Go.RowKit Go.Shelf

/-- an error's number that reads as said -/
def One (x : Int) (e : Ending) : Prop := ∃ q : Int, e = .returned (.int .i64 q) ∧ Hid (q = x)
theorem One.mk {x q : Int} (h : q = x) : One x (.returned (.int .i64 q)) := ⟨q, rfl, Lib.hid h⟩

set_option maxRecDepth 100000 in
theorem check_any (d : D4) (p : W4) (w : World) (ho : d.ol.length ≤ 9223372036854775807) (hb : d.bl.length ≤ 9223372036854775807) : Calls Try.prog 15 #[.agg (d.cells p)] w fun e w' => One d.check e ∧ Below w.heap.size w w' := by
  have hB : Below w.heap.size w (w.alloc (.cells (d.cells p) 27)) := (Below.refl _ _).alloc (Nat.le_refl _) _
  by_cases h1 : d.off < 0
  · have hc : d.check = 45 := by unfold D4.check; rw [if_pos (by omega)]
    rw [hc]
    clear hc
    obtain ⟨tos, id, df, mf, off, ttl, proto, s0, s1, s2, s3, d0, d1, d2, d3, ol, bl⟩ := d
    obtain ⟨oA, oc, bA, bc⟩ := p
    unfold D4.cells at *
    simp only at *
    go_enter Try.func15, Try.ntmps15
    go_wp2
    go_ret
    exact ⟨One.mk rfl, hB⟩
  · by_cases h2 : d.off > 8191
    · have hc : d.check = 45 := by unfold D4.check; rw [if_pos (by omega)]
      rw [hc]
      clear hc
      obtain ⟨tos, id, df, mf, off, ttl, proto, s0, s1, s2, s3, d0, d1, d2, d3, ol, bl⟩ := d
      obtain ⟨oA, oc, bA, bc⟩ := p
      unfold D4.cells at *
      simp only at *
      go_enter Try.func15, Try.ntmps15
      go_wp2
      go_ret
      exact ⟨One.mk rfl, hB⟩
    · by_cases h3 : d.ol.length > 40
      · have hc : d.check = 45 := by unfold D4.check; rw [if_pos (by omega)]
        rw [hc]
        clear hc
        obtain ⟨tos, id, df, mf, off, ttl, proto, s0, s1, s2, s3, d0, d1, d2, d3, ol, bl⟩ := d
        obtain ⟨oA, oc, bA, bc⟩ := p
        unfold D4.cells at *
        simp only at *
        go_enter Try.func15, Try.ntmps15
        go_wp2
        go_ret
        exact ⟨One.mk rfl, hB⟩
      · by_cases h4 : d.ol.length % 4 = 0
        · by_cases h5 : d.bl.length > 65515 - d.ol.length
          · have hc : d.check = 2 := by unfold D4.check; rw [if_neg (by omega), if_pos (by omega)]
            rw [hc]
            clear hc
            obtain ⟨tos, id, df, mf, off, ttl, proto, s0, s1, s2, s3, d0, d1, d2, d3, ol, bl⟩ := d
            obtain ⟨oA, oc, bA, bc⟩ := p
            unfold D4.cells at *
            simp only at *
            have t4 : ((ol.length : Int) % 4 != 0) = false := by simp; omega
            clear h4
            go_enter Try.func15, Try.ntmps15
            go_wp2
            go_ret
            exact ⟨One.mk rfl, hB⟩
          · have hc : d.check = 0 := by unfold D4.check; rw [if_neg (by omega), if_neg (by omega)]
            rw [hc]
            clear hc
            obtain ⟨tos, id, df, mf, off, ttl, proto, s0, s1, s2, s3, d0, d1, d2, d3, ol, bl⟩ := d
            obtain ⟨oA, oc, bA, bc⟩ := p
            unfold D4.cells at *
            simp only at *
            have t4 : ((ol.length : Int) % 4 != 0) = false := by simp; omega
            clear h4
            go_enter Try.func15, Try.ntmps15
            go_wp2
            go_ret
            exact ⟨One.mk rfl, hB⟩
        · have hc : d.check = 45 := by unfold D4.check; rw [if_pos (by omega)]
          rw [hc]
          clear hc
          obtain ⟨tos, id, df, mf, off, ttl, proto, s0, s1, s2, s3, d0, d1, d2, d3, ol, bl⟩ := d
          obtain ⟨oA, oc, bA, bc⟩ := p
          unfold D4.cells at *
          simp only at *
          have t4 : ((ol.length : Int) % 4 != 0) = true := by simp; omega
          clear h4
          go_enter Try.func15, Try.ntmps15
          go_wp2
          go_ret
          exact ⟨One.mk rfl, hB⟩

set_option maxRecDepth 100000 in
theorem rcheck_any (d : D4) (p : W4) (w : World) (ho : d.ol.length ≤ 9223372036854775807) (hb : d.bl.length ≤ 9223372036854775807) : Calls Try.prog 16 #[.agg (d.cells p)] w fun e w' => One d.check e ∧ Below w.heap.size w w' := by
  have hB : Below w.heap.size w (w.alloc (.cells (d.cells p) 27)) := (Below.refl _ _).alloc (Nat.le_refl _) _
  by_cases h1 : d.off < 0
  · have hc : d.check = 45 := by unfold D4.check; rw [if_pos (by omega)]
    rw [hc]
    clear hc
    obtain ⟨tos, id, df, mf, off, ttl, proto, s0, s1, s2, s3, d0, d1, d2, d3, ol, bl⟩ := d
    obtain ⟨oA, oc, bA, bc⟩ := p
    unfold D4.cells at *
    simp only at *
    go_enter Try.func16, Try.ntmps16
    go_wp2
    go_ret
    exact ⟨One.mk rfl, hB⟩
  · by_cases h2 : d.off > 8191
    · have hc : d.check = 45 := by unfold D4.check; rw [if_pos (by omega)]
      rw [hc]
      clear hc
      obtain ⟨tos, id, df, mf, off, ttl, proto, s0, s1, s2, s3, d0, d1, d2, d3, ol, bl⟩ := d
      obtain ⟨oA, oc, bA, bc⟩ := p
      unfold D4.cells at *
      simp only at *
      go_enter Try.func16, Try.ntmps16
      go_wp2
      go_ret
      exact ⟨One.mk rfl, hB⟩
    · by_cases h3 : d.ol.length > 40
      · have hc : d.check = 45 := by unfold D4.check; rw [if_pos (by omega)]
        rw [hc]
        clear hc
        obtain ⟨tos, id, df, mf, off, ttl, proto, s0, s1, s2, s3, d0, d1, d2, d3, ol, bl⟩ := d
        obtain ⟨oA, oc, bA, bc⟩ := p
        unfold D4.cells at *
        simp only at *
        go_enter Try.func16, Try.ntmps16
        go_wp2
        go_ret
        exact ⟨One.mk rfl, hB⟩
      · by_cases h4 : d.ol.length % 4 = 0
        · by_cases h5 : d.bl.length > 65515 - d.ol.length
          · have hc : d.check = 2 := by unfold D4.check; rw [if_neg (by omega), if_pos (by omega)]
            rw [hc]
            clear hc
            obtain ⟨tos, id, df, mf, off, ttl, proto, s0, s1, s2, s3, d0, d1, d2, d3, ol, bl⟩ := d
            obtain ⟨oA, oc, bA, bc⟩ := p
            unfold D4.cells at *
            simp only at *
            have t4 : ((ol.length : Int) % 4 != 0) = false := by simp; omega
            clear h4
            go_enter Try.func16, Try.ntmps16
            go_wp2
            go_ret
            exact ⟨One.mk rfl, hB⟩
          · have hc : d.check = 0 := by unfold D4.check; rw [if_neg (by omega), if_neg (by omega)]
            rw [hc]
            clear hc
            obtain ⟨tos, id, df, mf, off, ttl, proto, s0, s1, s2, s3, d0, d1, d2, d3, ol, bl⟩ := d
            obtain ⟨oA, oc, bA, bc⟩ := p
            unfold D4.cells at *
            simp only at *
            have t4 : ((ol.length : Int) % 4 != 0) = false := by simp; omega
            clear h4
            go_enter Try.func16, Try.ntmps16
            go_wp2
            go_ret
            exact ⟨One.mk rfl, hB⟩
        · have hc : d.check = 45 := by unfold D4.check; rw [if_pos (by omega)]
          rw [hc]
          clear hc
          obtain ⟨tos, id, df, mf, off, ttl, proto, s0, s1, s2, s3, d0, d1, d2, d3, ol, bl⟩ := d
          obtain ⟨oA, oc, bA, bc⟩ := p
          unfold D4.cells at *
          simp only at *
          have t4 : ((ol.length : Int) % 4 != 0) = true := by simp; omega
          clear h4
          go_enter Try.func16, Try.ntmps16
          go_wp2
          go_ret
          exact ⟨One.mk rfl, hB⟩
end Go.Proofs.Ytfkcejfjmfliaaa
