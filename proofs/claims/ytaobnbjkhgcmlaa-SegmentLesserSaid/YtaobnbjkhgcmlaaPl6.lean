/-
  The walks of segment.place and of the reference's place.
-/
import Derived.Test.YtaobnbjkhgcmlaaP6M
namespace Go.Proofs.Ytaobnbjkhgcmlaa
open Go.RowKit Go.Shelf

set_option maxRecDepth 100000 in
set_option maxHeartbeats 2000000 in
theorem place_any (t : DT) (p : WT) (w : World) (rt : RdT w.heap.size w t p) (hs1 : t.ol.length ≤ 140737488355328) :
    Calls Try.prog 57 #[.agg (t.cells p)] w fun e w' => (∃ q : Int, e = .returned (.int .i64 q) ∧ Hid (q = mssAt t)) ∧ Below w.heap.size w w' := by
  obtain ⟨oA, oc, bA, bc⟩ := p
  have hopt : By w.heap.size w oA t.ol.length oc t.ol := rt.opt
  have hT : Has (w.alloc (.cells (t.cells ⟨oA, oc, bA, bc⟩) 26)) w.heap.size (.cells (t.cells ⟨oA, oc, bA, bc⟩) 26 (0, 0)) := Has.newAt rfl
  have hB : Below w.heap.size w (w.alloc (.cells (t.cells ⟨oA, oc, bA, bc⟩) 26)) := (Below.refl _ _).alloc (Nat.le_refl _) _
  have c4 := hT.cell 4 (v := .int .u8 t.flags) rfl
  have c7 := hT.cell 7 (v := .slice oA t.ol.length oc) rfl
  have y := hopt.below hB (Nat.le_refl _)
  have hbig := hs1
  unfold mssAt
  obtain ⟨F, hF⟩ : ∃ F, bits .and .u8 t.flags 2 = F := ⟨_, rfl⟩
  rw [hF]
  by_cases hF0 : F = 0
  · rw [if_pos hF0]
    subst hF0
    go_enter Try.func57, Try.ntmps57
    go_wp2
    go_ret
    exact ⟨⟨_, rfl, Lib.hid rfl⟩, hB⟩
  rw [if_neg hF0]
  obtain ⟨V, hV⟩ : ∃ V, mssF t.ol (t.ol.length + 1) 0 = V := ⟨_, rfl⟩
  rw [hV]
  obtain ⟨n, hn⟩ : ∃ n, t.ol.length = n := ⟨_, rfl⟩
  rw [hn] at c7 hbig
  have hnH := Lib.hid hn
  rw [hn] at y
  have hVH := Lib.hid hV
  have hin := y.rng
  obtain ⟨o, ho⟩ : ∃ o, t.ol = o := ⟨_, rfl⟩
  rw [ho] at y hin
  have hVo : Hid (mssF o (n + 1) 0 = V) := Lib.hid (by rw [← ho, ← hn]; exact hV)
  have hno : Hid (o.length = n) := Lib.hid (by rw [← ho]; exact hn)
  clear hn hV hVH hnH
  go_enter Try.func57, Try.ntmps57
  go_wp2
  go_loop [4] (fun i => ∃ k f : Nat, k ≤ n ∧ n - k < f ∧ mssF o f k = V ∧ i = .int .i64 k) (fun i => n - (intOf i).toNat)
  case atStart => exact ⟨0, n + 1, Nat.zero_le _, by omega, hVo.out, rfl⟩
  case round =>
    obtain ⟨k, f, hk, hf, hV, rfl⟩ := hrel
    cases f with
    | zero => omega
    | succ f =>
    rw [mssF, hno.out] at hV
    by_cases hlt : k < n
    case neg =>
      rw [if_pos (.inl (by omega))] at hV
      have hge : ¬ ((k : Int) < (n : Int)) := by omega
      clear y c4
      go_wp2
      go_ret
      exact ⟨⟨_, rfl, Lib.hid (by first | rfl | exact hV)⟩, hB⟩
    case pos =>
    obtain ⟨b, off, hA, hbl, -⟩ := y.row.at_ (by omega)
    subst hA
    have d0 := y.at (k := k) hlt
    have r0 := getD_rng hin k
    obtain ⟨x0, hx0⟩ : ∃ x, o.getD k 0 = x := ⟨_, rfl⟩
    rw [hx0] at d0 r0 hV
    have z0 : (k : Int) < (n : Int) := by omega
    by_cases h00 : x0 = 0
    case pos =>
      rw [if_pos (.inr h00)] at hV
      subst h00
      clear y c4
      go_wp2
      go_ret
      exact ⟨⟨_, rfl, Lib.hid (by first | rfl | exact hV)⟩, hB⟩
    case neg =>
    rw [if_neg (by omega)] at hV
    by_cases h01 : x0 = 1
    case pos =>
      rw [if_pos h01] at hV
      subst h01
      have hVH := Lib.hid hV
      clear y c4 hV
      go_wp2
      go_round
      case rel => exact ⟨k + 1, f, by omega, by omega, hVH.out, by go_num⟩
      case measure => simp [intOf]; omega
    case neg =>
    rw [if_neg h01] at hV
    by_cases h2 : n < k + 2
    case pos =>
      rw [if_pos (.inl h2)] at hV
      have h2' : (n : Int) - (k : Int) < 2 := by omega
      have h2'' : (n : Int) ≤ (k : Int) + 1 := by omega
      clear y c4
      go_wp2
      go_ret
      exact ⟨⟨_, rfl, Lib.hid (by first | rfl | exact hV)⟩, hB⟩
    case neg =>
    have d1 := y.at (k := k + 1) (by omega)
    have r1 := getD_rng hin (k + 1)
    obtain ⟨x1, hx1⟩ : ∃ x, o.getD (k + 1) 0 = x := ⟨_, rfl⟩
    rw [hx1] at d1 r1 hV
    have z1 : (k : Int) + 1 < (n : Int) := by omega
    have z2 : ¬ ((n : Int) - (k : Int) < 2) := by omega
    by_cases h3 : x1 < 2
    case pos =>
      rw [if_pos (.inr (.inl h3))] at hV
      clear y c4
      go_wp2
      go_ret
      exact ⟨⟨_, rfl, Lib.hid (by first | rfl | exact hV)⟩, hB⟩
    case neg =>
    by_cases h4 : (n : Int) < k + x1
    case pos =>
      rw [if_pos (.inr (.inr h4))] at hV
      have h4' : (n : Int) - (k : Int) < x1 := by omega
      clear y c4
      go_wp2
      go_ret
      exact ⟨⟨_, rfl, Lib.hid (by first | rfl | exact hV)⟩, hB⟩
    case neg =>
    have h4' : ¬ ((n : Int) - (k : Int) < x1) := by omega
    rw [if_neg (by omega)] at hV
    by_cases h5 : x0 = 2
    case pos =>
      by_cases h6 : x1 = 4
      case pos =>
        rw [if_pos ⟨h5, h6⟩] at hV
        subst h5 h6
        clear y c4
        go_wp2
        go_ret
        exact ⟨⟨_, rfl, Lib.hid (by first | rfl | exact hV)⟩, hB⟩
      case neg =>
        rw [if_neg (by omega)] at hV
        subst h5
        obtain ⟨m, rfl⟩ : ∃ m : Nat, x1 = (m : Int) := ⟨x1.toNat, by omega⟩
        rw [Int.toNat_natCast] at hV
        have hVH := Lib.hid hV
        clear y c4 hV
        go_wp2
        go_round
        case rel => first | exact ⟨k + m, f, by omega, by omega, hVH.out, by go_num⟩ | exact ⟨k + m, by omega, f, by omega, hVH.out, by go_num⟩
        case measure => simp [intOf]; omega
    case neg =>
      rw [if_neg (by omega)] at hV
      obtain ⟨m, rfl⟩ : ∃ m : Nat, x1 = (m : Int) := ⟨x1.toNat, by omega⟩
      rw [Int.toNat_natCast] at hV
      have hVH := Lib.hid hV
      clear y c4 hV
      go_wp2
      go_round
      case rel => first | exact ⟨k + m, f, by omega, by omega, hVH.out, by go_num⟩ | exact ⟨k + m, by omega, f, by omega, hVH.out, by go_num⟩
      case measure => simp [intOf]; omega

set_option maxRecDepth 100000 in
set_option maxHeartbeats 2000000 in
theorem rplace_any (t : DT) (p : WT) (w : World) (rt : RdT w.heap.size w t p) (hs1 : t.ol.length ≤ 140737488355328) :
    Calls Try.prog 59 #[.agg (t.cells p)] w fun e w' => (∃ q : Int, e = .returned (.int .i64 q) ∧ Hid (q = mssAt t)) ∧ Below w.heap.size w w' := by
  obtain ⟨oA, oc, bA, bc⟩ := p
  have hopt : By w.heap.size w oA t.ol.length oc t.ol := rt.opt
  have hT : Has (w.alloc (.cells (t.cells ⟨oA, oc, bA, bc⟩) 26)) w.heap.size (.cells (t.cells ⟨oA, oc, bA, bc⟩) 26 (0, 0)) := Has.newAt rfl
  have hB : Below w.heap.size w (w.alloc (.cells (t.cells ⟨oA, oc, bA, bc⟩) 26)) := (Below.refl _ _).alloc (Nat.le_refl _) _
  have c4 := hT.cell 4 (v := .int .u8 t.flags) rfl
  have c7 := hT.cell 7 (v := .slice oA t.ol.length oc) rfl
  have y := hopt.below hB (Nat.le_refl _)
  have hbig := hs1
  unfold mssAt
  obtain ⟨F, hF⟩ : ∃ F, bits .and .u8 t.flags 2 = F := ⟨_, rfl⟩
  rw [hF]
  by_cases hF0 : F = 0
  · rw [if_pos hF0]
    subst hF0
    go_enter Try.func59, Try.ntmps59
    go_wp2
    go_ret
    exact ⟨⟨_, rfl, Lib.hid rfl⟩, hB⟩
  rw [if_neg hF0]
  obtain ⟨V, hV⟩ : ∃ V, mssF t.ol (t.ol.length + 1) 0 = V := ⟨_, rfl⟩
  rw [hV]
  obtain ⟨n, hn⟩ : ∃ n, t.ol.length = n := ⟨_, rfl⟩
  rw [hn] at c7 hbig
  have hnH := Lib.hid hn
  rw [hn] at y
  have hVH := Lib.hid hV
  have hin := y.rng
  obtain ⟨o, ho⟩ : ∃ o, t.ol = o := ⟨_, rfl⟩
  rw [ho] at y hin
  have hVo : Hid (mssF o (n + 1) 0 = V) := Lib.hid (by rw [← ho, ← hn]; exact hV)
  have hno : Hid (o.length = n) := Lib.hid (by rw [← ho]; exact hn)
  clear hn hV hVH hnH
  go_enter Try.func59, Try.ntmps59
  go_wp2
  go_loop [4] (fun i => ∃ k f : Nat, k ≤ n ∧ n - k < f ∧ mssF o f k = V ∧ i = .int .i64 k) (fun i => n - (intOf i).toNat)
  case atStart => exact ⟨0, n + 1, Nat.zero_le _, by omega, hVo.out, rfl⟩
  case round =>
    obtain ⟨k, f, hk, hf, hV, rfl⟩ := hrel
    cases f with
    | zero => omega
    | succ f =>
    rw [mssF, hno.out] at hV
    by_cases hlt : k < n
    case neg =>
      rw [if_pos (.inl (by omega))] at hV
      have hge : ¬ ((k : Int) < (n : Int)) := by omega
      clear y c4
      go_wp2
      go_ret
      exact ⟨⟨_, rfl, Lib.hid (by first | rfl | exact hV)⟩, hB⟩
    case pos =>
    obtain ⟨b, off, hA, hbl, -⟩ := y.row.at_ (by omega)
    subst hA
    have d0 := y.at (k := k) hlt
    have r0 := getD_rng hin k
    obtain ⟨x0, hx0⟩ : ∃ x, o.getD k 0 = x := ⟨_, rfl⟩
    rw [hx0] at d0 r0 hV
    have z0 : (k : Int) < (n : Int) := by omega
    by_cases h00 : x0 = 0
    case pos =>
      rw [if_pos (.inr h00)] at hV
      subst h00
      clear y c4
      go_wp2
      go_ret
      exact ⟨⟨_, rfl, Lib.hid (by first | rfl | exact hV)⟩, hB⟩
    case neg =>
    rw [if_neg (by omega)] at hV
    by_cases h01 : x0 = 1
    case pos =>
      rw [if_pos h01] at hV
      subst h01
      have hVH := Lib.hid hV
      clear y c4 hV
      go_wp2
      go_round
      case rel => exact ⟨k + 1, f, by omega, by omega, hVH.out, by go_num⟩
      case measure => simp [intOf]; omega
    case neg =>
    rw [if_neg h01] at hV
    by_cases h2 : n < k + 2
    case pos =>
      rw [if_pos (.inl h2)] at hV
      have h2' : (n : Int) - (k : Int) < 2 := by omega
      have h2'' : (n : Int) ≤ (k : Int) + 1 := by omega
      clear y c4
      go_wp2
      go_ret
      exact ⟨⟨_, rfl, Lib.hid (by first | rfl | exact hV)⟩, hB⟩
    case neg =>
    have d1 := y.at (k := k + 1) (by omega)
    have r1 := getD_rng hin (k + 1)
    obtain ⟨x1, hx1⟩ : ∃ x, o.getD (k + 1) 0 = x := ⟨_, rfl⟩
    rw [hx1] at d1 r1 hV
    have z1 : (k : Int) + 1 < (n : Int) := by omega
    have z2 : ¬ ((n : Int) - (k : Int) < 2) := by omega
    by_cases h3 : x1 < 2
    case pos =>
      rw [if_pos (.inr (.inl h3))] at hV
      clear y c4
      go_wp2
      go_ret
      exact ⟨⟨_, rfl, Lib.hid (by first | rfl | exact hV)⟩, hB⟩
    case neg =>
    by_cases h4 : (n : Int) < k + x1
    case pos =>
      rw [if_pos (.inr (.inr h4))] at hV
      have h4' : (n : Int) - (k : Int) < x1 := by omega
      clear y c4
      go_wp2
      go_ret
      exact ⟨⟨_, rfl, Lib.hid (by first | rfl | exact hV)⟩, hB⟩
    case neg =>
    have h4' : ¬ ((n : Int) - (k : Int) < x1) := by omega
    rw [if_neg (by omega)] at hV
    by_cases h5 : x0 = 2
    case pos =>
      by_cases h6 : x1 = 4
      case pos =>
        rw [if_pos ⟨h5, h6⟩] at hV
        subst h5 h6
        clear y c4
        go_wp2
        go_ret
        exact ⟨⟨_, rfl, Lib.hid (by first | rfl | exact hV)⟩, hB⟩
      case neg =>
        rw [if_neg (by omega)] at hV
        subst h5
        obtain ⟨m, rfl⟩ : ∃ m : Nat, x1 = (m : Int) := ⟨x1.toNat, by omega⟩
        rw [Int.toNat_natCast] at hV
        have hVH := Lib.hid hV
        clear y c4 hV
        go_wp2
        go_round
        case rel => first | exact ⟨k + m, f, by omega, by omega, hVH.out, by go_num⟩ | exact ⟨k + m, by omega, f, by omega, hVH.out, by go_num⟩
        case measure => simp [intOf]; omega
    case neg =>
      rw [if_neg (by omega)] at hV
      obtain ⟨m, rfl⟩ : ∃ m : Nat, x1 = (m : Int) := ⟨x1.toNat, by omega⟩
      rw [Int.toNat_natCast] at hV
      have hVH := Lib.hid hV
      clear y c4 hV
      go_wp2
      go_round
      case rel => first | exact ⟨k + m, f, by omega, by omega, hVH.out, by go_num⟩ | exact ⟨k + m, by omega, f, by omega, hVH.out, by go_num⟩
      case measure => simp [intOf]; omega
end Go.Proofs.Ytaobnbjkhgcmlaa
