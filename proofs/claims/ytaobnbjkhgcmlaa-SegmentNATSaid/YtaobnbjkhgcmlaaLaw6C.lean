/-
  The walk of SegmentSums.
-/
import Derived.Test.YtaobnbjkhgcmlaaLaw6A
import Derived.Test.YtaobnbjkhgcmlaaSt7
import Derived.Test.YtaobnbjkhgcmlaaRps
import Derived.Test.YtaobnbjkhgcmlaaRefSum
import Derived.Test.YtaobnbjkhgcmlaaP6S
import Derived.Test.YtaobnbjkhgcmlaaReg4
import Derived.Test.YtaobnbjkhgcmlaaArr4
namespace Go.Proofs.Ytaobnbjkhgcmlaa
open Go.RowKit Go.Shelf

/-- what the regions of SegmentSums lean on -/
structure S6M (x : DE) (u : DU) (A : Option Addr) (c : Nat) (t : DT) (p : WT) (A7 : Option Addr) (c7 : Nat) (L : List Int) (w w' : World) : Prop where
  hE : Has w' w.heap.size (.cells x.cells 38 (0, 0))
  hU : Has w' (w.heap.size + 1) (.cells (u.cells A c) 28 (0, 0))
  hT : Has w' (w.heap.size + 1 + 1) (.cells (t.cells p) 26 (0, 0))
  yb : By w'.heap.size w' A7 L.length c7 L
  bel : Below w.heap.size w w'
theorem S6M.keep {x : DE} {u : DU} {A : Option Addr} {c : Nat} {t : DT} {p : WT} {A7 : Option Addr} {c7 : Nat} {L : List Int} {w w' w'' : World} (h : S6M x u A c t p A7 c7 L w w') (hb : Below w'.heap.size w' w'') : S6M x u A c t p A7 c7 L w w'' :=
  ⟨h.hE.below hb h.hE.lt, h.hU.below hb h.hU.lt, h.hT.below hb h.hT.lt, (h.yb.below hb (Nat.le_refl _)).more hb.size, h.bel.trans (hb.mono h.bel.size)⟩
theorem S6M.other {x : DE} {u : DU} {A : Option Addr} {c : Nat} {t : DT} {p : WT} {A7 A9 : Option Addr} {c7 c9 : Nat} {L M : List Int} {w w' : World} (h : S6M x u A c t p A7 c7 L w w') (y : By w'.heap.size w' A9 M.length c9 M) : S6M x u A c t p A9 c9 M w w' :=
  ⟨h.hE, h.hU, h.hT, y, h.bel⟩

set_option maxRecDepth 100000 in
theorem sums_walk (x : DE) (u : DU) (A : Option Addr) (c : Nat) (t : DT) (p : WT) (w : World) (hx : x.ok) (ru : RdU w.heap.size w u A c) (rt : RdT w.heap.size w t p) :
    Calls Try.prog 4 #[.agg x.cells, .agg (u.cells A c), .agg (t.cells p)] w fun e w' => e = .returned (.bool true) ∧ Below w.heap.size w w' := by
  have hS0 : S6M x u A c t p none 0 [] w (((w.alloc (.cells x.cells 38)).alloc (.cells (u.cells A c) 28)).alloc (.cells (t.cells p) 26)) := ⟨((Has.newAt rfl).alloc).alloc, (Has.newAt (by simp)).alloc, Has.newAt (by simp), By.nil _ _ _ (by decide), ((((Below.refl _ _).alloc (Nat.le_refl _) _).alloc (by simp) _).alloc (by simp; omega) _)⟩
  go_enter Try.func4, Try.ntmps4
  go_wp2_with fail
  refine (awake_any _).mono ?_
  rintro e w1 ⟨rfl, hb1⟩
  have hS1 := hS0.keep hb1
  clear hS0 hb1
  go_wp2_with (first
    | (refine wl (.agg (u8s x.c).toArray) (by kernel_rfl) (by exact ex_loadAt (by exact rfl) (by exact rfl) (hS1.hE.loadAt (P := Try.prog) 8 (u8s x.c) (DE.at_c hx) 36 Try.underlying36 rfl (by rw [u8s_length, hx.lc]; kernel_rfl))) ?_)
    | (refine wl (.agg (u8s x.d).toArray) (by kernel_rfl) (by exact ex_loadAt (by exact rfl) (by exact rfl) (hS1.hE.loadAt (P := Try.prog) 24 (u8s x.d) (DE.at_d hx) 36 Try.underlying36 rfl (by rw [u8s_length, hx.ld]; kernel_rfl))) ?_)
    | (refine wl (.agg (u.cells A c)) (by kernel_rfl) (by exact ex_load (by exact rfl) (by exact rfl) (hS1.hU.load (P := Try.prog) 28 Try.underlying28 rfl udp_info)) ?_))
  refine (writeUDP6_any x.c x.d hx.lc hx.ld hx.rc hx.rd u A c w1 ((ru.below hS1.bel (Nat.le_refl _)).more hS1.bel.size)).mono ?_
  rintro e w2 ⟨v, s, rfl, hs, ho, hb2⟩
  obtain ⟨PS, hPS⟩ : ∃ PS, pse6 x.c x.d (8 + (u.bl.length : Int)) 17 = PS := ⟨_, rfl⟩
  rw [hPS] at ho
  obtain ⟨L, hL⟩ : ∃ L, u.write PS = L := ⟨_, rfl⟩
  rw [hL] at ho
  obtain ⟨A7, c7, rfl, y7⟩ := ho.by_
  have hS2 := (hS1.keep hb2).other y7
  clear hS1 hb2 ho y7
  go_wp2_with fail
  refine wp_region_held_drew (S := S6M x u A c t p A7 c7 L w) (by kernel_rfl) (hS2.keep (below_drew _ _)) (fun hS => ?_)
  by_cases hs0 : s = 0
  case' pos =>
    subst hs0
    have hlen : u.bl.length ≤ 65527 := by have h := hs.out; unfold DU.err at h; split at h <;> omega
    have hLb : L = u.bytes PS := by rw [← hL, DU.write, if_neg (by omega)]
    have hn : (L.length : Int) = 8 + u.bl.length := by rw [hLb, u.bytes_len]; omega
    have hps : PS.length = 40 := by rw [← hPS, pse6_len hx.lc hx.ld]
    have hsum : sumw (PS ++ L) = 65535 := by
      have := u.sum_right ru.ok hlen PS (by rw [← hPS]; exact pse6_rng hx.rc hx.rd (by omega) (by omega)) ru.body.rng (by rw [hps])
      rw [hLb]; exact this
    rw [← hn] at hPS
    -- REGION 4y
    refine tk (i := 0) (.int .i64 0) hS rfl (by kernel_rfl) (by kernel_rfl) (by kernel_rfl) (fun _ _ _ h => h) (by kernel_rfl) (by intro _ _; exact rfl) ?_
    simp only [Act.put, List.setIfInBounds_toArray, List.set_cons_zero, List.set_cons_succ]
    refine tk (i := 1) (.bool true) hS rfl (by kernel_rfl) (by kernel_rfl) (by kernel_rfl) (fun _ _ _ h => h) (by kernel_rfl) (by intro _ _; exact eq_int_self (m := 0) (by exact rfl) (by exact rfl) (by exact rfl)) ?_
    simp only [Act.put, List.setIfInBounds_toArray, List.set_cons_zero, List.set_cons_succ]
    refine tk (i := 2) (.bool true) hS rfl (by kernel_rfl) (by kernel_rfl) (by kernel_rfl) (fun _ _ _ h => h) (by kernel_rfl) (by intro _ _; exact rfl) ?_
    simp only [Act.put, List.setIfInBounds_toArray, List.set_cons_zero, List.set_cons_succ]
    refine tk (i := 3) (.pointer (some ⟨w.heap.size, 8, none⟩)) hS rfl (by kernel_rfl) (by kernel_rfl) (by kernel_rfl) (fun _ _ _ h => h) (by kernel_rfl) (by intro _ _; exact ex_field 8 15 (by exact rfl) Try.underlying38 (by exact rfl) rfl (by kernel_rfl) (by exact rfl)) ?_
    simp only [Act.put, List.setIfInBounds_toArray, List.set_cons_zero, List.set_cons_succ]
    refine tk (i := 4) (.slice (some ⟨w.heap.size, 8, none⟩) 16 16) hS rfl (by kernel_rfl) (by kernel_rfl) (by kernel_rfl) (fun _ _ _ h => h) (by kernel_rfl) (by intro _ _; exact ex_arr (by exact rfl) Try.underlying36 (by kernel_rfl) (by exact rfl)) ?_
    simp only [Act.put, List.setIfInBounds_toArray, List.set_cons_zero, List.set_cons_succ]
    refine tk (i := 5) (.pointer (some ⟨w.heap.size, 24, none⟩)) hS rfl (by kernel_rfl) (by kernel_rfl) (by kernel_rfl) (fun _ _ _ h => h) (by kernel_rfl) (by intro _ _; exact ex_field 24 15 (by exact rfl) Try.underlying38 (by exact rfl) rfl (by kernel_rfl) (by exact rfl)) ?_
    simp only [Act.put, List.setIfInBounds_toArray, List.set_cons_zero, List.set_cons_succ]
    refine tk (i := 6) (.slice (some ⟨w.heap.size, 24, none⟩) 16 16) hS rfl (by kernel_rfl) (by kernel_rfl) (by kernel_rfl) (fun _ _ _ h => h) (by kernel_rfl) (by intro _ _; exact ex_arr (by exact rfl) Try.underlying36 (by kernel_rfl) (by exact rfl)) ?_
    simp only [Act.put, List.setIfInBounds_toArray, List.set_cons_zero, List.set_cons_succ]
    refine tk (i := 7) (.slice A7 L.length c7) hS rfl (by kernel_rfl) (by kernel_rfl) (by kernel_rfl) (fun _ _ _ h => h) (by kernel_rfl) (by intro _ _; exact rfl) ?_
    simp only [Act.put, List.setIfInBounds_toArray, List.set_cons_zero, List.set_cons_succ]
    refine tk (i := 8) (.int .i64 (L.length : Int)) hS rfl (by kernel_rfl) (by kernel_rfl) (by kernel_rfl) (fun _ _ _ h => h) (by kernel_rfl) (by intro _ _; exact ex_len (by exact rfl) Try.underlying24 (by exact rfl)) ?_
    simp only [Act.put, List.setIfInBounds_toArray, List.set_cons_zero, List.set_cons_succ]
    refine tk (i := 10) (.slice A7 L.length c7) hS rfl (by kernel_rfl) (by kernel_rfl) (by kernel_rfl) (fun _ _ _ h => h) (by kernel_rfl) (by intro _ _; exact rfl) ?_
    simp only [Act.put, List.setIfInBounds_toArray, List.set_cons_zero, List.set_cons_succ]
    refine tk_callx (i := 9) (fun v w' => ∃ A8 c8, v = .slice A8 PS.length c8 ∧ By w'.heap.size w' A8 PS.length c8 PS) (by kernel_rfl) rfl (by kernel_rfl) (by exact ex_call (by exact rfl) Try.func20 (by kernel_rfl) (by kernel_rfl) (by simp only [List.map_toArray, List.map_cons, List.map_nil] <;> rfl)) (by refine (rpse6_any x.c x.d hx.lc hx.ld 17 (L.length : Int) (by decide) (by decide) (by omega) (by omega) _ _ _ _ _ (By.mid hS.hE hS.hE.lt 8 16 x.c hx.rc hx.lc (by decide) (DE.at_c hx)) (By.mid hS.hE hS.hE.lt 24 16 x.d hx.rd hx.ld (by decide) (DE.at_d hx))).mono fun e w' g => ?_; obtain ⟨v, rfl, ho, hb⟩ := g; rw [hPS] at ho; obtain ⟨A8, c8, rfl, y8⟩ := ho.by_; exact ⟨_, rfl, ⟨A8, c8, rfl, y8⟩, hS.keep hb⟩) ?_
    rintro v1 W1 ⟨A8, c8, rfl, y8⟩ hS1
    simp only [Act.put, List.setIfInBounds_toArray, List.set_cons_zero, List.set_cons_succ]
    have hb2 : Below W1.heap.size W1 (W1.alloc (.cells #[.slice A8 PS.length c8, .slice A7 L.length c7] 24)) := (Below.refl _ _).alloc (Nat.le_refl _) _
    have hS2 := hS1.keep hb2
    have hP2 : Parts (W1.alloc (.cells #[.slice A8 PS.length c8, .slice A7 L.length c7] 24)).heap.size (W1.alloc (.cells #[.slice A8 PS.length c8, .slice A7 L.length c7] 24)) (some ⟨W1.heap.size, 0, none⟩) 2 2 [(A8, c8, PS), (A7, c7, L)] := Parts.blk (Has.newAt rfl) (Nat.le_refl _) rfl (all2 ((y8.below hb2 (Nat.le_refl _)).more (by simp)) hS2.yb) (by simp)
    refine tk_build (i := 11) [.slice A8 PS.length c8, .slice A7 L.length c7] (by kernel_rfl) rfl (by kernel_rfl) rfl Try.underlying44 (by kernel_rfl) (by kernel_rfl) rfl (by decide) (by decide) (by simp only [List.map_toArray, List.map_cons, List.map_nil] <;> rfl) (all2 rfl rfl) hS2 ?_
    simp only [Act.put, List.setIfInBounds_toArray, List.set_cons_zero, List.set_cons_succ]
    refine tk_call (i := 12) (.int .u16 65535) (by kernel_rfl) rfl (by kernel_rfl) (by exact ex_call (by exact rfl) Try.func19 (by kernel_rfl) (by kernel_rfl) (by simp only [List.map_toArray, List.map_cons, List.map_nil] <;> rfl)) (by refine (rfold_any _ _ [(A8, c8, PS), (A7, c7, L)] _ hP2 (by simp [flat]; omega)).mono fun e w' g => ?_; exact ⟨by rw [g.1, show flat [(A8, c8, PS), (A7, c7, L)] = PS ++ L from by simp [flat], hsum], hS2.keep g.2⟩) ?_
    intro W12 hS12
    simp only [Act.put, List.setIfInBounds_toArray, List.set_cons_zero, List.set_cons_succ]
    refine tk (i := 13) (.bool false) hS12 rfl (by kernel_rfl) (by kernel_rfl) (by kernel_rfl) (fun _ _ _ h => h) (by kernel_rfl) (by intro _ _; exact neq_int_eq (by exact rfl) (by exact rfl) (by exact rfl) rfl) ?_
    simp only [Act.put, List.setIfInBounds_toArray, List.set_cons_zero, List.set_cons_succ]
    refine tk (i := 14) (.bool false) hS12 rfl (by kernel_rfl) (by kernel_rfl) (by kernel_rfl) (fun _ _ _ h => h) (by kernel_rfl) (by intro _ _; exact rfl) ?_
    simp only [Act.put, List.setIfInBounds_toArray, List.set_cons_zero, List.set_cons_succ]
    refine tk (i := 15) (.slice A7 L.length c7) hS12 rfl (by kernel_rfl) (by kernel_rfl) (by kernel_rfl) (fun _ _ _ h => h) (by kernel_rfl) (by intro _ _; exact rfl) ?_
    simp only [Act.put, List.setIfInBounds_toArray, List.set_cons_zero, List.set_cons_succ]
    refine tk (i := 16) (.int .i64 (L.length : Int)) hS12 rfl (by kernel_rfl) (by kernel_rfl) (by kernel_rfl) (fun _ _ _ h => h) (by kernel_rfl) (by intro _ _; exact ex_len (by exact rfl) Try.underlying24 (by exact rfl)) ?_
    simp only [Act.put, List.setIfInBounds_toArray, List.set_cons_zero, List.set_cons_succ]
    refine tk (i := 17) (.pointer (some ⟨w.heap.size + 1, 2, none⟩)) hS12 rfl (by kernel_rfl) (by kernel_rfl) (by kernel_rfl) (fun _ _ _ h => h) (by kernel_rfl) (by intro _ _; exact ex_field 2 0 (by exact rfl) Try.underlying28 (by exact rfl) rfl (by kernel_rfl) (by exact rfl)) ?_
    simp only [Act.put, List.setIfInBounds_toArray, List.set_cons_zero, List.set_cons_succ]
    refine tk (i := 18) (.slice A u.bl.length c) hS12 rfl (by kernel_rfl) (by kernel_rfl) (by kernel_rfl) (fun _ _ _ h => h) (by kernel_rfl) (by intro _ h; exact ex_cell (by exact rfl) Try.underlying24 rfl (by exact rfl) (h.hU.cell 2 rfl)) ?_
    simp only [Act.put, List.setIfInBounds_toArray, List.set_cons_zero, List.set_cons_succ]
    refine tk (i := 19) (.int .i64 (u.bl.length : Int)) hS12 rfl (by kernel_rfl) (by kernel_rfl) (by kernel_rfl) (fun _ _ _ h => h) (by kernel_rfl) (by intro _ _; exact ex_len (by exact rfl) Try.underlying24 (by exact rfl)) ?_
    simp only [Act.put, List.setIfInBounds_toArray, List.set_cons_zero, List.set_cons_succ]
    refine tk (i := 20) (.int .i64 (8 + (u.bl.length : Int))) hS12 rfl (by kernel_rfl) (by kernel_rfl) (by kernel_rfl) (fun _ _ _ h => h) (by kernel_rfl) (by intro _ _; exact ex_bin (by exact rfl) (by exact rfl) (by exact rfl) (by decide) (add_i64 _ _ _ (by omega) _)) ?_
    simp only [Act.put, List.setIfInBounds_toArray, List.set_cons_zero, List.set_cons_succ]
    refine tk (i := 21) (.bool false) hS12 rfl (by kernel_rfl) (by kernel_rfl) (by kernel_rfl) (fun _ _ _ h => h) (by kernel_rfl) (by intro _ _; exact neq_int_eq (by exact rfl) (by exact rfl) (by exact rfl) hn) ?_
    simp only [Act.put, List.setIfInBounds_toArray, List.set_cons_zero, List.set_cons_succ]
    refine tk (i := 22) (.bool false) hS12 rfl (by kernel_rfl) (by kernel_rfl) (by kernel_rfl) (fun _ _ _ h => h) (by kernel_rfl) (by intro _ _; exact rfl) ?_
    simp only [Act.put, List.setIfInBounds_toArray, List.set_cons_zero, List.set_cons_succ]
    refine tk (i := 23) (.bool false) hS12 rfl (by kernel_rfl) (by kernel_rfl) (by kernel_rfl) (fun _ _ _ h => h) (by kernel_rfl) (by intro _ _; exact rfl) ?_
    simp only [Act.put, List.setIfInBounds_toArray, List.set_cons_zero, List.set_cons_succ]
    refine wpAnyH_done (by kernel_rfl) ?_ _
    have hZ := hS12
    -- END 4y
  case' neg =>
    -- REGION 4n
    refine tk (i := 0) (.int .i64 s) hS rfl (by kernel_rfl) (by kernel_rfl) (by kernel_rfl) (fun _ _ _ h => h) (by kernel_rfl) (by intro _ _; exact rfl) ?_
    simp only [Act.put, List.setIfInBounds_toArray, List.set_cons_zero, List.set_cons_succ]
    refine tk (i := 1) (.bool false) hS rfl (by kernel_rfl) (by kernel_rfl) (by kernel_rfl) (fun _ _ _ h => h) (by kernel_rfl) (by intro _ _; exact eq_int_ne (by exact rfl) (by exact rfl) (by exact rfl) hs0) ?_
    simp only [Act.put, List.setIfInBounds_toArray, List.set_cons_zero, List.set_cons_succ]
    refine tk (i := 2) (.bool false) hS rfl (by kernel_rfl) (by kernel_rfl) (by kernel_rfl) (fun _ _ _ h => h) (by kernel_rfl) (by intro _ _; exact rfl) ?_
    simp only [Act.put, List.setIfInBounds_toArray, List.set_cons_zero, List.set_cons_succ]
    refine tkn (i := 3) hS rfl (by kernel_rfl) (by kernel_rfl) (by kernel_rfl) (fun _ _ _ h => h) (by kernel_rfl) ?_
    simp only [Act.put, List.setIfInBounds_toArray, List.set_cons_zero, List.set_cons_succ]
    refine tkn (i := 4) hS rfl (by kernel_rfl) (by kernel_rfl) (by kernel_rfl) (fun _ _ _ h => h) (by kernel_rfl) ?_
    simp only [Act.put, List.setIfInBounds_toArray, List.set_cons_zero, List.set_cons_succ]
    refine tkn (i := 5) hS rfl (by kernel_rfl) (by kernel_rfl) (by kernel_rfl) (fun _ _ _ h => h) (by kernel_rfl) ?_
    simp only [Act.put, List.setIfInBounds_toArray, List.set_cons_zero, List.set_cons_succ]
    refine tkn (i := 6) hS rfl (by kernel_rfl) (by kernel_rfl) (by kernel_rfl) (fun _ _ _ h => h) (by kernel_rfl) ?_
    simp only [Act.put, List.setIfInBounds_toArray, List.set_cons_zero, List.set_cons_succ]
    refine tkn (i := 7) hS rfl (by kernel_rfl) (by kernel_rfl) (by kernel_rfl) (fun _ _ _ h => h) (by kernel_rfl) ?_
    simp only [Act.put, List.setIfInBounds_toArray, List.set_cons_zero, List.set_cons_succ]
    refine tkn (i := 8) hS rfl (by kernel_rfl) (by kernel_rfl) (by kernel_rfl) (fun _ _ _ h => h) (by kernel_rfl) ?_
    simp only [Act.put, List.setIfInBounds_toArray, List.set_cons_zero, List.set_cons_succ]
    refine tkn (i := 9) hS rfl (by kernel_rfl) (by kernel_rfl) (by kernel_rfl) (fun _ _ _ h => h) (by kernel_rfl) ?_
    simp only [Act.put, List.setIfInBounds_toArray, List.set_cons_zero, List.set_cons_succ]
    refine tkn (i := 10) hS rfl (by kernel_rfl) (by kernel_rfl) (by kernel_rfl) (fun _ _ _ h => h) (by kernel_rfl) ?_
    simp only [Act.put, List.setIfInBounds_toArray, List.set_cons_zero, List.set_cons_succ]
    refine tkn (i := 11) hS rfl (by kernel_rfl) (by kernel_rfl) (by kernel_rfl) (fun _ _ _ h => h) (by kernel_rfl) ?_
    simp only [Act.put, List.setIfInBounds_toArray, List.set_cons_zero, List.set_cons_succ]
    refine tkn (i := 12) hS rfl (by kernel_rfl) (by kernel_rfl) (by kernel_rfl) (fun _ _ _ h => h) (by kernel_rfl) ?_
    simp only [Act.put, List.setIfInBounds_toArray, List.set_cons_zero, List.set_cons_succ]
    refine tkn (i := 13) hS rfl (by kernel_rfl) (by kernel_rfl) (by kernel_rfl) (fun _ _ _ h => h) (by kernel_rfl) ?_
    simp only [Act.put, List.setIfInBounds_toArray, List.set_cons_zero, List.set_cons_succ]
    refine tkn (i := 14) hS rfl (by kernel_rfl) (by kernel_rfl) (by kernel_rfl) (fun _ _ _ h => h) (by kernel_rfl) ?_
    simp only [Act.put, List.setIfInBounds_toArray, List.set_cons_zero, List.set_cons_succ]
    refine tkn (i := 15) hS rfl (by kernel_rfl) (by kernel_rfl) (by kernel_rfl) (fun _ _ _ h => h) (by kernel_rfl) ?_
    simp only [Act.put, List.setIfInBounds_toArray, List.set_cons_zero, List.set_cons_succ]
    refine tkn (i := 16) hS rfl (by kernel_rfl) (by kernel_rfl) (by kernel_rfl) (fun _ _ _ h => h) (by kernel_rfl) ?_
    simp only [Act.put, List.setIfInBounds_toArray, List.set_cons_zero, List.set_cons_succ]
    refine tkn (i := 17) hS rfl (by kernel_rfl) (by kernel_rfl) (by kernel_rfl) (fun _ _ _ h => h) (by kernel_rfl) ?_
    simp only [Act.put, List.setIfInBounds_toArray, List.set_cons_zero, List.set_cons_succ]
    refine tkn (i := 18) hS rfl (by kernel_rfl) (by kernel_rfl) (by kernel_rfl) (fun _ _ _ h => h) (by kernel_rfl) ?_
    simp only [Act.put, List.setIfInBounds_toArray, List.set_cons_zero, List.set_cons_succ]
    refine tkn (i := 19) hS rfl (by kernel_rfl) (by kernel_rfl) (by kernel_rfl) (fun _ _ _ h => h) (by kernel_rfl) ?_
    simp only [Act.put, List.setIfInBounds_toArray, List.set_cons_zero, List.set_cons_succ]
    refine tkn (i := 20) hS rfl (by kernel_rfl) (by kernel_rfl) (by kernel_rfl) (fun _ _ _ h => h) (by kernel_rfl) ?_
    simp only [Act.put, List.setIfInBounds_toArray, List.set_cons_zero, List.set_cons_succ]
    refine tkn (i := 21) hS rfl (by kernel_rfl) (by kernel_rfl) (by kernel_rfl) (fun _ _ _ h => h) (by kernel_rfl) ?_
    simp only [Act.put, List.setIfInBounds_toArray, List.set_cons_zero, List.set_cons_succ]
    refine tkn (i := 22) hS rfl (by kernel_rfl) (by kernel_rfl) (by kernel_rfl) (fun _ _ _ h => h) (by kernel_rfl) ?_
    simp only [Act.put, List.setIfInBounds_toArray, List.set_cons_zero, List.set_cons_succ]
    refine tk (i := 23) (.bool false) hS rfl (by kernel_rfl) (by kernel_rfl) (by kernel_rfl) (fun _ _ _ h => h) (by kernel_rfl) (by intro _ _; exact rfl) ?_
    simp only [Act.put, List.setIfInBounds_toArray, List.set_cons_zero, List.set_cons_succ]
    refine wpAnyH_done (by kernel_rfl) ?_ _
    have hZ := hS
    -- END 4n
  all_goals
    clear hS2
    go_wp2_with (first
      | (refine wl (.agg (u8s x.a).toArray) (by kernel_rfl) (by exact ex_loadAt (by exact rfl) (by exact rfl) (hZ.hE.loadAt (P := Try.prog) 0 (u8s x.a) (DE.at_a hx) 34 Try.underlying34 rfl (by rw [u8s_length, hx.la]; kernel_rfl))) ?_)
      | (refine wl (.agg (u8s x.b).toArray) (by kernel_rfl) (by exact ex_loadAt (by exact rfl) (by exact rfl) (hZ.hE.loadAt (P := Try.prog) 4 (u8s x.b) (DE.at_b hx) 34 Try.underlying34 rfl (by rw [u8s_length, hx.lb]; kernel_rfl))) ?_)
      | (refine wl (.agg (t.cells p)) (by kernel_rfl) (by exact ex_load (by exact rfl) (by exact rfl) (hZ.hT.load (P := Try.prog) 26 Try.underlying26 rfl tcp_info)) ?_))
    refine (writeTCP4_any x.a x.b hx.la hx.lb hx.ra hx.rb t p _ ((rt.below hZ.bel (Nat.le_refl _)).more hZ.bel.size)).mono ?_
    rintro e w4 ⟨v, s2, rfl, hs2, ho, hb4⟩
    obtain ⟨QS, hQS⟩ : ∃ QS, pse4 x.a x.b (20 + (t.ol.length : Int) + (t.bl.length : Int)) 6 = QS := ⟨_, rfl⟩
    rw [hQS] at ho
    obtain ⟨M, hM⟩ : ∃ M, t.write QS = M := ⟨_, rfl⟩
    rw [hM] at ho
    obtain ⟨A9, c9, rfl, y9⟩ := ho.by_
    have hS5 := (hZ.keep hb4).other y9
    clear hZ hb4 ho y9
    go_wp2_with fail
    refine wp_region_held_drew (S := S6M x u A c t p A9 c9 M w) (by kernel_rfl) (hS5.keep (below_drew _ _)) (fun hS => ?_)
    have hc : s2 = t.check := hs2.out
    by_cases hs20 : s2 = 0
    · subst hs20
      have hc := hc.symm
      have hsm := DT.small hc
      have hMb : M = t.bytes QS := by rw [← hM, DT.write, if_pos hc]
      have hm : (M.length : Int) = 20 + t.ol.length + t.bl.length := by rw [hMb, t.bytes_len]; omega
      have hqs : QS.length = 12 := by rw [← hQS, pse4_len hx.la hx.lb]
      have hsum : sumw (QS ++ M) = 65535 := by
        have := t.sum_right rt.ok hsm.1 QS (by rw [← hQS]; exact pse4_rng hx.ra hx.rb (by omega) (by omega)) rt.opt.rng rt.body.rng (by rw [hqs])
        rw [hMb]; exact this
      rw [← hm] at hQS
      -- REGION 7y
      refine tk (i := 0) (.int .i64 0) hS rfl (by kernel_rfl) (by kernel_rfl) (by kernel_rfl) (fun _ _ _ h => h) (by kernel_rfl) (by intro _ _; exact rfl) ?_
      simp only [Act.put, List.setIfInBounds_toArray, List.set_cons_zero, List.set_cons_succ]
      refine tk (i := 1) (.bool false) hS rfl (by kernel_rfl) (by kernel_rfl) (by kernel_rfl) (fun _ _ _ h => h) (by kernel_rfl) (by intro _ _; exact neq_int_eq (by exact rfl) (by exact rfl) (by exact rfl) rfl) ?_
      simp only [Act.put, List.setIfInBounds_toArray, List.set_cons_zero, List.set_cons_succ]
      refine tk (i := 2) (.bool false) hS rfl (by kernel_rfl) (by kernel_rfl) (by kernel_rfl) (fun _ _ _ h => h) (by kernel_rfl) (by intro _ _; exact rfl) ?_
      simp only [Act.put, List.setIfInBounds_toArray, List.set_cons_zero, List.set_cons_succ]
      refine tk (i := 3) (.pointer (some ⟨w.heap.size, 0, none⟩)) hS rfl (by kernel_rfl) (by kernel_rfl) (by kernel_rfl) (fun _ _ _ h => h) (by kernel_rfl) (by intro _ _; exact ex_field 0 3 (by exact rfl) Try.underlying38 (by exact rfl) rfl (by kernel_rfl) (by exact rfl)) ?_
      simp only [Act.put, List.setIfInBounds_toArray, List.set_cons_zero, List.set_cons_succ]
      refine tk (i := 4) (.slice (some ⟨w.heap.size, 0, none⟩) 4 4) hS rfl (by kernel_rfl) (by kernel_rfl) (by kernel_rfl) (fun _ _ _ h => h) (by kernel_rfl) (by intro _ _; exact ex_arr (by exact rfl) Try.underlying34 (by kernel_rfl) (by exact rfl)) ?_
      simp only [Act.put, List.setIfInBounds_toArray, List.set_cons_zero, List.set_cons_succ]
      refine tk (i := 5) (.pointer (some ⟨w.heap.size, 4, none⟩)) hS rfl (by kernel_rfl) (by kernel_rfl) (by kernel_rfl) (fun _ _ _ h => h) (by kernel_rfl) (by intro _ _; exact ex_field 4 3 (by exact rfl) Try.underlying38 (by exact rfl) rfl (by kernel_rfl) (by exact rfl)) ?_
      simp only [Act.put, List.setIfInBounds_toArray, List.set_cons_zero, List.set_cons_succ]
      refine tk (i := 6) (.slice (some ⟨w.heap.size, 4, none⟩) 4 4) hS rfl (by kernel_rfl) (by kernel_rfl) (by kernel_rfl) (fun _ _ _ h => h) (by kernel_rfl) (by intro _ _; exact ex_arr (by exact rfl) Try.underlying34 (by kernel_rfl) (by exact rfl)) ?_
      simp only [Act.put, List.setIfInBounds_toArray, List.set_cons_zero, List.set_cons_succ]
      refine tk (i := 7) (.slice A9 M.length c9) hS rfl (by kernel_rfl) (by kernel_rfl) (by kernel_rfl) (fun _ _ _ h => h) (by kernel_rfl) (by intro _ _; exact rfl) ?_
      simp only [Act.put, List.setIfInBounds_toArray, List.set_cons_zero, List.set_cons_succ]
      refine tk (i := 8) (.int .i64 (M.length : Int)) hS rfl (by kernel_rfl) (by kernel_rfl) (by kernel_rfl) (fun _ _ _ h => h) (by kernel_rfl) (by intro _ _; exact ex_len (by exact rfl) Try.underlying24 (by exact rfl)) ?_
      simp only [Act.put, List.setIfInBounds_toArray, List.set_cons_zero, List.set_cons_succ]
      refine tk (i := 10) (.slice A9 M.length c9) hS rfl (by kernel_rfl) (by kernel_rfl) (by kernel_rfl) (fun _ _ _ h => h) (by kernel_rfl) (by intro _ _; exact rfl) ?_
      simp only [Act.put, List.setIfInBounds_toArray, List.set_cons_zero, List.set_cons_succ]
      refine tk_callx (i := 9) (fun v w' => ∃ A8 c8, v = .slice A8 QS.length c8 ∧ By w'.heap.size w' A8 QS.length c8 QS) (by kernel_rfl) rfl (by kernel_rfl) (by exact ex_call (by exact rfl) Try.func20 (by kernel_rfl) (by kernel_rfl) (by simp only [List.map_toArray, List.map_cons, List.map_nil] <;> rfl)) (by refine (rpse4_any x.a x.b hx.la hx.lb 6 (M.length : Int) (by decide) (by decide) (by omega) (by omega) _ _ _ _ _ (By.mid hS.hE hS.hE.lt 0 4 x.a hx.ra hx.la (by decide) (DE.at_a hx)) (By.mid hS.hE hS.hE.lt 4 4 x.b hx.rb hx.lb (by decide) (DE.at_b hx))).mono fun e w' g => ?_; obtain ⟨v, rfl, ho, hb⟩ := g; rw [hQS] at ho; obtain ⟨A8, c8, rfl, y8⟩ := ho.by_; exact ⟨_, rfl, ⟨A8, c8, rfl, y8⟩, hS.keep hb⟩) ?_
      rintro v1 W1 ⟨A8, c8, rfl, y8⟩ hS1
      simp only [Act.put, List.setIfInBounds_toArray, List.set_cons_zero, List.set_cons_succ]
      have hb2 : Below W1.heap.size W1 (W1.alloc (.cells #[.slice A8 QS.length c8, .slice A9 M.length c9] 24)) := (Below.refl _ _).alloc (Nat.le_refl _) _
      have hS2 := hS1.keep hb2
      have hP2 : Parts (W1.alloc (.cells #[.slice A8 QS.length c8, .slice A9 M.length c9] 24)).heap.size (W1.alloc (.cells #[.slice A8 QS.length c8, .slice A9 M.length c9] 24)) (some ⟨W1.heap.size, 0, none⟩) 2 2 [(A8, c8, QS), (A9, c9, M)] := Parts.blk (Has.newAt rfl) (Nat.le_refl _) rfl (all2 ((y8.below hb2 (Nat.le_refl _)).more (by simp)) hS2.yb) (by simp)
      refine tk_build (i := 11) [.slice A8 QS.length c8, .slice A9 M.length c9] (by kernel_rfl) rfl (by kernel_rfl) rfl Try.underlying44 (by kernel_rfl) (by kernel_rfl) rfl (by decide) (by decide) (by simp only [List.map_toArray, List.map_cons, List.map_nil] <;> rfl) (all2 rfl rfl) hS2 ?_
      simp only [Act.put, List.setIfInBounds_toArray, List.set_cons_zero, List.set_cons_succ]
      refine tk_call (i := 12) (.int .u16 65535) (by kernel_rfl) rfl (by kernel_rfl) (by exact ex_call (by exact rfl) Try.func19 (by kernel_rfl) (by kernel_rfl) (by simp only [List.map_toArray, List.map_cons, List.map_nil] <;> rfl)) (by refine (rfold_any _ _ [(A8, c8, QS), (A9, c9, M)] _ hP2 (by simp [flat]; omega)).mono fun e w' g => ?_; exact ⟨by rw [g.1, show flat [(A8, c8, QS), (A9, c9, M)] = QS ++ M from by simp [flat], hsum], hS2.keep g.2⟩) ?_
      intro W12 hS12
      simp only [Act.put, List.setIfInBounds_toArray, List.set_cons_zero, List.set_cons_succ]
      refine tk (i := 13) (.bool true) hS12 rfl (by kernel_rfl) (by kernel_rfl) (by kernel_rfl) (fun _ _ _ h => h) (by kernel_rfl) (by intro _ _; exact eq_int_self (m := 65535) (by exact rfl) (by exact rfl) (by exact rfl)) ?_
      simp only [Act.put, List.setIfInBounds_toArray, List.set_cons_zero, List.set_cons_succ]
      refine tk (i := 14) (.bool true) hS12 rfl (by kernel_rfl) (by kernel_rfl) (by kernel_rfl) (fun _ _ _ h => h) (by kernel_rfl) (by intro _ _; exact rfl) ?_
      simp only [Act.put, List.setIfInBounds_toArray, List.set_cons_zero, List.set_cons_succ]
      refine tk (i := 15) (.slice A9 M.length c9) hS12 rfl (by kernel_rfl) (by kernel_rfl) (by kernel_rfl) (fun _ _ _ h => h) (by kernel_rfl) (by intro _ _; exact rfl) ?_
      simp only [Act.put, List.setIfInBounds_toArray, List.set_cons_zero, List.set_cons_succ]
      refine tk (i := 16) (.int .i64 (M.length : Int)) hS12 rfl (by kernel_rfl) (by kernel_rfl) (by kernel_rfl) (fun _ _ _ h => h) (by kernel_rfl) (by intro _ _; exact ex_len (by exact rfl) Try.underlying24 (by exact rfl)) ?_
      simp only [Act.put, List.setIfInBounds_toArray, List.set_cons_zero, List.set_cons_succ]
      refine tk (i := 17) (.pointer (some ⟨w.heap.size + 1 + 1, 7, none⟩)) hS12 rfl (by kernel_rfl) (by kernel_rfl) (by kernel_rfl) (fun _ _ _ h => h) (by kernel_rfl) (by intro _ _; exact ex_field 7 0 (by exact rfl) Try.underlying26 (by exact rfl) rfl (by kernel_rfl) (by exact rfl)) ?_
      simp only [Act.put, List.setIfInBounds_toArray, List.set_cons_zero, List.set_cons_succ]
      refine tk (i := 18) (.slice p.oA t.ol.length p.oc) hS12 rfl (by kernel_rfl) (by kernel_rfl) (by kernel_rfl) (fun _ _ _ h => h) (by kernel_rfl) (by intro _ h; exact ex_cell (by exact rfl) Try.underlying24 rfl (by exact rfl) (h.hT.cell 7 rfl)) ?_
      simp only [Act.put, List.setIfInBounds_toArray, List.set_cons_zero, List.set_cons_succ]
      refine tk (i := 19) (.int .i64 (t.ol.length : Int)) hS12 rfl (by kernel_rfl) (by kernel_rfl) (by kernel_rfl) (fun _ _ _ h => h) (by kernel_rfl) (by intro _ _; exact ex_len (by exact rfl) Try.underlying24 (by exact rfl)) ?_
      simp only [Act.put, List.setIfInBounds_toArray, List.set_cons_zero, List.set_cons_succ]
      refine tk (i := 20) (.int .i64 (20 + (t.ol.length : Int))) hS12 rfl (by kernel_rfl) (by kernel_rfl) (by kernel_rfl) (fun _ _ _ h => h) (by kernel_rfl) (by intro _ _; exact ex_bin (by exact rfl) (by exact rfl) (by exact rfl) (by decide) (add_i64 _ _ _ (by omega) _)) ?_
      simp only [Act.put, List.setIfInBounds_toArray, List.set_cons_zero, List.set_cons_succ]
      refine tk (i := 21) (.pointer (some ⟨w.heap.size + 1 + 1, 8, none⟩)) hS12 rfl (by kernel_rfl) (by kernel_rfl) (by kernel_rfl) (fun _ _ _ h => h) (by kernel_rfl) (by intro _ _; exact ex_field 8 0 (by exact rfl) Try.underlying26 (by exact rfl) rfl (by kernel_rfl) (by exact rfl)) ?_
      simp only [Act.put, List.setIfInBounds_toArray, List.set_cons_zero, List.set_cons_succ]
      refine tk (i := 22) (.slice p.bA t.bl.length p.bc) hS12 rfl (by kernel_rfl) (by kernel_rfl) (by kernel_rfl) (fun _ _ _ h => h) (by kernel_rfl) (by intro _ h; exact ex_cell (by exact rfl) Try.underlying24 rfl (by exact rfl) (h.hT.cell 8 rfl)) ?_
      simp only [Act.put, List.setIfInBounds_toArray, List.set_cons_zero, List.set_cons_succ]
      refine tk (i := 23) (.int .i64 (t.bl.length : Int)) hS12 rfl (by kernel_rfl) (by kernel_rfl) (by kernel_rfl) (fun _ _ _ h => h) (by kernel_rfl) (by intro _ _; exact ex_len (by exact rfl) Try.underlying24 (by exact rfl)) ?_
      simp only [Act.put, List.setIfInBounds_toArray, List.set_cons_zero, List.set_cons_succ]
      refine tk (i := 24) (.int .i64 (20 + (t.ol.length : Int) + (t.bl.length : Int))) hS12 rfl (by kernel_rfl) (by kernel_rfl) (by kernel_rfl) (fun _ _ _ h => h) (by kernel_rfl) (by intro _ _; exact ex_bin (by exact rfl) (by exact rfl) (by exact rfl) (by decide) (add_i64 _ _ _ (by omega) _)) ?_
      simp only [Act.put, List.setIfInBounds_toArray, List.set_cons_zero, List.set_cons_succ]
      refine tk (i := 25) (.bool true) hS12 rfl (by kernel_rfl) (by kernel_rfl) (by kernel_rfl) (fun _ _ _ h => h) (by kernel_rfl) (by intro _ _; exact eq_int_eq (by exact rfl) (by exact rfl) (by exact rfl) hm) ?_
      simp only [Act.put, List.setIfInBounds_toArray, List.set_cons_zero, List.set_cons_succ]
      refine tk (i := 26) (.bool true) hS12 rfl (by kernel_rfl) (by kernel_rfl) (by kernel_rfl) (fun _ _ _ h => h) (by kernel_rfl) (by intro _ _; exact rfl) ?_
      simp only [Act.put, List.setIfInBounds_toArray, List.set_cons_zero, List.set_cons_succ]
      refine tk (i := 27) (.bool true) hS12 rfl (by kernel_rfl) (by kernel_rfl) (by kernel_rfl) (fun _ _ _ h => h) (by kernel_rfl) (by intro _ _; exact rfl) ?_
      simp only [Act.put, List.setIfInBounds_toArray, List.set_cons_zero, List.set_cons_succ]
      refine tk (i := 28) (.bool true) hS12 rfl (by kernel_rfl) (by kernel_rfl) (by kernel_rfl) (fun _ _ _ h => h) (by kernel_rfl) (by intro _ _; exact rfl) ?_
      simp only [Act.put, List.setIfInBounds_toArray, List.set_cons_zero, List.set_cons_succ]
      refine wpAnyH_done (by kernel_rfl) ?_ _
      go_wp2
      go_ret
      exact ⟨rfl, hS12.bel⟩
      -- END 7y
    · have hs2 := hs20
      -- REGION 7n
      refine tk (i := 0) (.int .i64 s2) hS rfl (by kernel_rfl) (by kernel_rfl) (by kernel_rfl) (fun _ _ _ h => h) (by kernel_rfl) (by intro _ _; exact rfl) ?_
      simp only [Act.put, List.setIfInBounds_toArray, List.set_cons_zero, List.set_cons_succ]
      refine tk (i := 1) (.bool true) hS rfl (by kernel_rfl) (by kernel_rfl) (by kernel_rfl) (fun _ _ _ h => h) (by kernel_rfl) (by intro _ _; exact neq_int_ne (by exact rfl) (by exact rfl) (by exact rfl) hs2) ?_
      simp only [Act.put, List.setIfInBounds_toArray, List.set_cons_zero, List.set_cons_succ]
      refine tk (i := 2) (.bool true) hS rfl (by kernel_rfl) (by kernel_rfl) (by kernel_rfl) (fun _ _ _ h => h) (by kernel_rfl) (by intro _ _; exact rfl) ?_
      simp only [Act.put, List.setIfInBounds_toArray, List.set_cons_zero, List.set_cons_succ]
      refine tkn (i := 3) hS rfl (by kernel_rfl) (by kernel_rfl) (by kernel_rfl) (fun _ _ _ h => h) (by kernel_rfl) ?_
      simp only [Act.put, List.setIfInBounds_toArray, List.set_cons_zero, List.set_cons_succ]
      refine tkn (i := 4) hS rfl (by kernel_rfl) (by kernel_rfl) (by kernel_rfl) (fun _ _ _ h => h) (by kernel_rfl) ?_
      simp only [Act.put, List.setIfInBounds_toArray, List.set_cons_zero, List.set_cons_succ]
      refine tkn (i := 5) hS rfl (by kernel_rfl) (by kernel_rfl) (by kernel_rfl) (fun _ _ _ h => h) (by kernel_rfl) ?_
      simp only [Act.put, List.setIfInBounds_toArray, List.set_cons_zero, List.set_cons_succ]
      refine tkn (i := 6) hS rfl (by kernel_rfl) (by kernel_rfl) (by kernel_rfl) (fun _ _ _ h => h) (by kernel_rfl) ?_
      simp only [Act.put, List.setIfInBounds_toArray, List.set_cons_zero, List.set_cons_succ]
      refine tkn (i := 7) hS rfl (by kernel_rfl) (by kernel_rfl) (by kernel_rfl) (fun _ _ _ h => h) (by kernel_rfl) ?_
      simp only [Act.put, List.setIfInBounds_toArray, List.set_cons_zero, List.set_cons_succ]
      refine tkn (i := 8) hS rfl (by kernel_rfl) (by kernel_rfl) (by kernel_rfl) (fun _ _ _ h => h) (by kernel_rfl) ?_
      simp only [Act.put, List.setIfInBounds_toArray, List.set_cons_zero, List.set_cons_succ]
      refine tkn (i := 9) hS rfl (by kernel_rfl) (by kernel_rfl) (by kernel_rfl) (fun _ _ _ h => h) (by kernel_rfl) ?_
      simp only [Act.put, List.setIfInBounds_toArray, List.set_cons_zero, List.set_cons_succ]
      refine tkn (i := 10) hS rfl (by kernel_rfl) (by kernel_rfl) (by kernel_rfl) (fun _ _ _ h => h) (by kernel_rfl) ?_
      simp only [Act.put, List.setIfInBounds_toArray, List.set_cons_zero, List.set_cons_succ]
      refine tkn (i := 11) hS rfl (by kernel_rfl) (by kernel_rfl) (by kernel_rfl) (fun _ _ _ h => h) (by kernel_rfl) ?_
      simp only [Act.put, List.setIfInBounds_toArray, List.set_cons_zero, List.set_cons_succ]
      refine tkn (i := 12) hS rfl (by kernel_rfl) (by kernel_rfl) (by kernel_rfl) (fun _ _ _ h => h) (by kernel_rfl) ?_
      simp only [Act.put, List.setIfInBounds_toArray, List.set_cons_zero, List.set_cons_succ]
      refine tkn (i := 13) hS rfl (by kernel_rfl) (by kernel_rfl) (by kernel_rfl) (fun _ _ _ h => h) (by kernel_rfl) ?_
      simp only [Act.put, List.setIfInBounds_toArray, List.set_cons_zero, List.set_cons_succ]
      refine tkn (i := 14) hS rfl (by kernel_rfl) (by kernel_rfl) (by kernel_rfl) (fun _ _ _ h => h) (by kernel_rfl) ?_
      simp only [Act.put, List.setIfInBounds_toArray, List.set_cons_zero, List.set_cons_succ]
      refine tkn (i := 15) hS rfl (by kernel_rfl) (by kernel_rfl) (by kernel_rfl) (fun _ _ _ h => h) (by kernel_rfl) ?_
      simp only [Act.put, List.setIfInBounds_toArray, List.set_cons_zero, List.set_cons_succ]
      refine tkn (i := 16) hS rfl (by kernel_rfl) (by kernel_rfl) (by kernel_rfl) (fun _ _ _ h => h) (by kernel_rfl) ?_
      simp only [Act.put, List.setIfInBounds_toArray, List.set_cons_zero, List.set_cons_succ]
      refine tkn (i := 17) hS rfl (by kernel_rfl) (by kernel_rfl) (by kernel_rfl) (fun _ _ _ h => h) (by kernel_rfl) ?_
      simp only [Act.put, List.setIfInBounds_toArray, List.set_cons_zero, List.set_cons_succ]
      refine tkn (i := 18) hS rfl (by kernel_rfl) (by kernel_rfl) (by kernel_rfl) (fun _ _ _ h => h) (by kernel_rfl) ?_
      simp only [Act.put, List.setIfInBounds_toArray, List.set_cons_zero, List.set_cons_succ]
      refine tkn (i := 19) hS rfl (by kernel_rfl) (by kernel_rfl) (by kernel_rfl) (fun _ _ _ h => h) (by kernel_rfl) ?_
      simp only [Act.put, List.setIfInBounds_toArray, List.set_cons_zero, List.set_cons_succ]
      refine tkn (i := 20) hS rfl (by kernel_rfl) (by kernel_rfl) (by kernel_rfl) (fun _ _ _ h => h) (by kernel_rfl) ?_
      simp only [Act.put, List.setIfInBounds_toArray, List.set_cons_zero, List.set_cons_succ]
      refine tkn (i := 21) hS rfl (by kernel_rfl) (by kernel_rfl) (by kernel_rfl) (fun _ _ _ h => h) (by kernel_rfl) ?_
      simp only [Act.put, List.setIfInBounds_toArray, List.set_cons_zero, List.set_cons_succ]
      refine tkn (i := 22) hS rfl (by kernel_rfl) (by kernel_rfl) (by kernel_rfl) (fun _ _ _ h => h) (by kernel_rfl) ?_
      simp only [Act.put, List.setIfInBounds_toArray, List.set_cons_zero, List.set_cons_succ]
      refine tkn (i := 23) hS rfl (by kernel_rfl) (by kernel_rfl) (by kernel_rfl) (fun _ _ _ h => h) (by kernel_rfl) ?_
      simp only [Act.put, List.setIfInBounds_toArray, List.set_cons_zero, List.set_cons_succ]
      refine tkn (i := 24) hS rfl (by kernel_rfl) (by kernel_rfl) (by kernel_rfl) (fun _ _ _ h => h) (by kernel_rfl) ?_
      simp only [Act.put, List.setIfInBounds_toArray, List.set_cons_zero, List.set_cons_succ]
      refine tkn (i := 25) hS rfl (by kernel_rfl) (by kernel_rfl) (by kernel_rfl) (fun _ _ _ h => h) (by kernel_rfl) ?_
      simp only [Act.put, List.setIfInBounds_toArray, List.set_cons_zero, List.set_cons_succ]
      refine tkn (i := 26) hS rfl (by kernel_rfl) (by kernel_rfl) (by kernel_rfl) (fun _ _ _ h => h) (by kernel_rfl) ?_
      simp only [Act.put, List.setIfInBounds_toArray, List.set_cons_zero, List.set_cons_succ]
      refine tk (i := 27) (.bool true) hS rfl (by kernel_rfl) (by kernel_rfl) (by kernel_rfl) (fun _ _ _ h => h) (by kernel_rfl) (by intro _ _; exact rfl) ?_
      simp only [Act.put, List.setIfInBounds_toArray, List.set_cons_zero, List.set_cons_succ]
      refine tk (i := 28) (.bool true) hS rfl (by kernel_rfl) (by kernel_rfl) (by kernel_rfl) (fun _ _ _ h => h) (by kernel_rfl) (by intro _ _; exact rfl) ?_
      simp only [Act.put, List.setIfInBounds_toArray, List.set_cons_zero, List.set_cons_succ]
      refine wpAnyH_done (by kernel_rfl) ?_ _
      go_wp2
      go_ret
      exact ⟨rfl, hS.bel⟩
      -- END 7n
end Go.Proofs.Ytaobnbjkhgcmlaa
