/-
  The walks of slices.Grow (of nil) and slices.Concat at bytes.
-/
import Derived.Test.YtndmmkadceobjaaProg
import Derived.Test.YtndmmkadceobjaaMem
import Derived.Lib.AppendZeros
namespace Go.Proofs.Ytndmmkadceobjaa
open Go.RowKit Go.Shelf

theorem info8 : (Try.prog.info? 5).map (fun i => (i.zero, i.size, i.bytes)) = some (some (.int .u8 0), 1, 1) := by kernel_rfl

theorem grow_zero (w : World) : Calls Try.prog 33 #[.slice none 0 0, .int .i64 0] w fun e w' => e = .returned (.slice none 0 0) ∧ w = w' := by
  go_enter Try.func33, Try.ntmps33
  go_wp2
  go_ret
  exact ⟨rfl, rfl⟩
set_option maxRecDepth 100000 in
theorem grow_pos (n : Nat) (h0 : 0 < n) (hn : n ≤ 140737488355328) (w : World) : Calls Try.prog 33 #[.slice none 0 0, .int .i64 n] w fun e w' => ∃ v, e = .returned v ∧ OwnB w' w.heap.size v [] ∧ Below w.heap.size w w' := by
  obtain ⟨i, hi, hz, hsz, hby⟩ := info_parts info8
  have hr := @Lib.run_append_nil_zeros Try.prog w 26 3 26 5 i (.int .u8 0) .i64 .i64 Try.underlying26 Try.underlying3 hi hz n h0 (by omega) (by omega) (by rw [hby]; omega)
  have hge := grownCap_ge w n 0 5
  have hle := grownCap_le_maxLen w n 0 5 (by simp only [maxLen]; omega)
  obtain ⟨cap, hcap⟩ : ∃ cap, grownCap w n 0 5 = cap := ⟨_, rfl⟩
  rw [hcap] at hr hge hle
  obtain ⟨cs, hcs⟩ : ∃ cs, (Builtin.zeroCells (Value.int .u8 0).cells n ++ Builtin.zeroCells (Value.int .u8 0).cells (cap - n)) = cs := ⟨_, rfl⟩
  have hsz' : cs.size = cap := by rw [← hcs, Array.size_append, size_zeroCells, size_zeroCells]; simp [Value.cells]; omega
  rw [hcs] at hr
  have hrH := Lib.hid hr
  clear hr hcs hcap hi hz hsz hby
  go_enter Try.func33, Try.ntmps33
  go_wp2_with (at_builtin; refine Lib.wpList_append_run _ rfl _ _ _ _ rfl _ _ rfl rfl _ _ hrH.out ?_)
  go_ret
  refine ⟨_, rfl, ⟨?_, InB.nil⟩, ((Below.refl _ w).drew).alloc (Nat.le_refl _) _⟩
  exact World.ownsRow_made w.drew cs cap (Nat.le_refl _) hle (by omega)

theorem grow_nil (n : Nat) (hn : n ≤ 140737488355328) (w : World) : Calls Try.prog 33 #[.slice none 0 0, .int .i64 n] w fun e w' => ∃ v, e = .returned v ∧ OwnB w' w.heap.size v [] ∧ Below w.heap.size w w' := by
  rcases Nat.eq_zero_or_pos n with h0 | h0
  · subst h0
    exact (grow_zero w).mono fun e w' ⟨he, hw⟩ => by subst hw; exact ⟨_, he, OwnB.nil _ _, Below.refl _ _⟩
  · exact grow_pos n h0 hn w

set_option maxRecDepth 100000 in
set_option maxHeartbeats 1000000 in
theorem concat_any (A : Option Addr) (c : Nat) (xs : List Sl) (w : World) (hI : Parts w.heap.size w A xs.length c xs) (htot : (flat xs).length ≤ 140737488355328) :
    Calls Try.prog 22 #[.slice A xs.length c] w fun e w' => ∃ v, e = .returned v ∧ OwnB w' w.heap.size v (flat xs) ∧ Below w.heap.size w w' := by
  have hc63 : xs.length ≤ 9223372036854775807 := by have := hI.cap; have := hI.big; omega
  go_enter Try.func22, Try.ntmps22
  go_wp2
  go_loop [3, 11] (fun s i => ∃ k : Nat, k ≤ xs.length ∧ i = .int .i64 k ∧ s = .int .i64 (flat (xs.take k)).length) (fun _ i => xs.length - (intOf i).toNat)
  case atStart => exact ⟨0, Nat.zero_le _, rfl, rfl⟩
  case round =>
    obtain ⟨k, hk, rfl, rfl⟩ := hrel
    by_cases hlt : k < xs.length
    · obtain ⟨b, off, hA, hb, hcell, hy⟩ := hI.at_ k xs[k] (List.getElem?_eq_getElem hlt)
      subst hA
      have hts := flat_take_succ hlt
      have h1 := flat_take_le xs (k + 1)
      rw [hts, List.length_append] at h1
      have hk63 : k < 9223372036854775807 := by omega
      have htsH := Lib.hid hts
      clear hts
      go_wp2
      go_round
      case rel => exact ⟨k + 1, by omega, by go_num, by rw [htsH.out, List.length_append]; go_num⟩
      case measure => simp [intOf]; omega
    · obtain rfl : k = xs.length := by omega
      rw [List.take_length]
      go_wp2_with (go_at_call 33; refine (grow_nil _ htot _).mono ?_; rintro e w' ⟨v0, rfl, hown0, hb0⟩)
      go_loopw [6, 27] (fun v i wr => ∃ k : Nat, k ≤ xs.length ∧ i = .int .i64 k ∧ OwnB wr w.heap.size v (flat (xs.take k)) ∧ Below w.heap.size w wr) (fun _ i _ => xs.length - (intOf i).toNat)
      case atStart => exact ⟨0, Nat.zero_le _, rfl, hown0, hb0⟩
      case round =>
        clear hown0 hb0
        obtain ⟨k, hk, rfl, hown, hB⟩ := hrel
        by_cases hlt : k < xs.length
        · obtain ⟨b, off, hA, hb, hcell, hy⟩ := (hI.below hB (Nat.le_refl _)).at_ k xs[k] (List.getElem?_eq_getElem hlt)
          subst hA
          have hts := flat_take_succ hlt
          have h1 := flat_take_le xs (k + 1)
          rw [hts, List.length_append] at h1
          have hk63 : k < 9223372036854775807 := by omega
          have htsH := Lib.hid hts
          clear hts
          go_wp2_with (at_builtin; refine wpList_appB _ rfl _ _ _ rfl Try.underlying26 info8 _ _ _ rfl hown _ _ _ _ _ rfl hy (by omega) hB.size ?_; intro v' w' hown' hg _; have hB' := hB.trans (below_app hown hg hB.size))
          go_roundw
          case rel => exact ⟨k + 1, by omega, by go_num, by rw [htsH.out]; exact hown', hB'⟩
          case measure => simp [intOf]; omega
        · obtain rfl : k = xs.length := by omega
          rw [List.take_length] at hown
          obtain ⟨A', c', rfl, _⟩ := own_shape hown.own
          go_wp2
          go_ret
          exact ⟨_, rfl, hown, hB⟩
end Go.Proofs.Ytndmmkadceobjaa
