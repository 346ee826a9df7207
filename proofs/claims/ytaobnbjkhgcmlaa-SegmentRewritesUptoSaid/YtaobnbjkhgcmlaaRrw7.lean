/-
  The walk of the reference's Rewrite where it answers.
-/
import Derived.Test.YtaobnbjkhgcmlaaRrw6
import Derived.Test.YtaobnbjkhgcmlaaReg8
namespace Go.Proofs.Ytaobnbjkhgcmlaa
open Go.RowKit Go.Shelf

theorem rupdate_n (was : Int) (hn : 0 ≤ was ∧ was < 65536) (A1 A2 : Option Addr) (c1 c2 n1 n2 : Nat) (l1 l2 : List Int) (w : World) (h1 : By w.heap.size w A1 n1 c1 l1) (h2 : By w.heap.size w A2 n2 c2 l2) (hbig : l1.length ≤ 4398046511104 ∧ l2.length ≤ 4398046511104) :
    Calls Try.prog 63 #[.int .u16 was, .slice A1 n1 c1, .slice A2 n2 c2] w fun e W' => Two (updateS was l1 l2) e ∧ Below w.heap.size w W' := by
  have e1 := h1.len
  have e2 := h2.len
  subst e1 e2
  exact rupdate_any was hn A1 A2 c1 c2 l1 l2 w h1 h2 hbig

set_option maxRecDepth 100000 in
set_option maxHeartbeats 400000 in
theorem rrw_ok6 (A : Option Addr) (c : Nat) (l : List Int) (A1 : Option Addr) (c1 : Nat) (f : List Int) (A2 : Option Addr) (c2 : Nat) (t : List Int) (src dst : Int) (hsr : 0 ≤ src ∧ src < 65536) (hds : 0 ≤ dst ∧ dst < 65536) (w : World) (y : By w.heap.size w A l.length c l) (y1 : By w.heap.size w A1 f.length c1 f) (y2 : By w.heap.size w A2 t.length c2 t) (hs : l.length ≤ 4398046511104) (hbig : f.length ≤ 4398046511104 ∧ t.length ≤ 4398046511104) (h4 : 4 ≤ l.length) (hft : f.length = t.length) (hev : t.length % 2 = 0) :
    Calls Try.prog 39 #[.int .u8 6, .slice A l.length c, .slice A1 f.length c1, .slice A2 t.length c2, .int .u16 src, .int .u16 dst] w fun e w' => ToldB (rwBytes 6 l f t src dst) 0 w e w' := by
  have h4' : (4 : Int) ≤ (l.length : Int) := by omega
  have hu : (updateS 0 f t).2 = 0 := by unfold updateS; rw [if_pos ⟨hft, hev⟩]
  have huH := Lib.hid hu
  clear hu
  obtain ⟨b0, off, rfl, _, -⟩ := y.row.at_ (by omega)
  have hftH := Lib.hid hft
  clear hft
  go_enter Try.func39, Try.ntmps39
  go_wp2_with fail
  refine (rupdate_any 0 (by decide) A1 A2 c1 c2 f t _ y1 y2 hbig).mono ?_
  rintro e w1 ⟨⟨q, er, rfl, hqe⟩, hb⟩
  obtain rfl : er = 0 := hqe.out.2.trans huH.out
  have hB := hb
  clear hb hqe
  go_wp2_with fail
  refine (put2_any w1.heap.size _ [] src hsr.1 hsr.2 w1 (OwnB.nil _ _) (Nat.le_refl _) (by simp)).mono ?_
  rintro e w2 ⟨v2, rfl, ho, hb⟩
  have hB2 := hB.trans (hb.mono hB.size)
  go_wp2_with fail
  refine (put2_any w1.heap.size v2 _ dst hds.1 hds.2 w2 ho hb.size (by simp)).mono ?_
  rintro e w3 ⟨v3, rfl, ho3, hb'⟩
  have hB3 := hB2.trans (hb'.mono hB.size)
  have ho3 : OwnB w3 w1.heap.size v3 (rwPorts src dst) := ho3
  obtain ⟨A6, k6, rfl, _⟩ := own_shape ho3.own
  have yp := ho3.row
  obtain ⟨A8, c8, hsl, y8⟩ := ((y.below hB3 (Nat.le_refl _)).more hB3.size).from_ (P := Try.prog) 24 Try.underlying24 (by kernel_rfl) (k := 4) h4
  clear hb hb' ho hB hB2
  go_wp2_with fail
  refine wp_region_held_drew (S := SG w3) (by kernel_rfl) ⟨below_drew _ _⟩ (fun hS => ?_)
  generalize w3.drew = W0 at hS ⊢
  -- REGION 6
  refine tk (i := 1) (.slice A6 (rwPorts src dst).length k6) hS rfl (by kernel_rfl) (by kernel_rfl) (by kernel_rfl) (fun _ _ _ h => h) (by kernel_rfl) (by intro _ _; exact rfl) ?_
  simp only [Act.put, List.setIfInBounds_toArray, List.set_cons_zero, List.set_cons_succ]
  refine tk (i := 3) (.slice (some ⟨b0, off, none⟩) l.length c) hS rfl (by kernel_rfl) (by kernel_rfl) (by kernel_rfl) (fun _ _ _ h => h) (by kernel_rfl) (by intro _ _; exact rfl) ?_
  simp only [Act.put, List.setIfInBounds_toArray, List.set_cons_zero, List.set_cons_succ]
  refine tk (i := 4) (.slice A8 (l.length - 4) c8) hS rfl (by kernel_rfl) (by kernel_rfl) (by kernel_rfl) (fun _ _ _ h => h) (by kernel_rfl) (by intro w' _; exact ex_slice (by exact rfl) (by exact rfl) (hsl w')) ?_
  simp only [Act.put, List.setIfInBounds_toArray, List.set_cons_zero, List.set_cons_succ]
  refine tk_one (by kernel_rfl) (op_build0 (i := 0) rfl (by kernel_rfl) rfl Try.underlying24 (by kernel_rfl) (fun _ hb => hS.keep (hb.mono hS.big)) ?_)
  intro g5 W5 z0 hb5 hS5
  replace z0 := z0.more (base' := w3.heap.size) hS.big
  clear hb5
  simp only [Act.put, List.setIfInBounds_toArray, List.set_cons_zero, List.set_cons_succ]
  refine tk_one (by kernel_rfl) (op_app (i := 2) (.tmp 45) (.tmp 46) _ rfl (by kernel_rfl) rfl Try.underlying24 (by kernel_rfl) w3.heap.size _ _ rfl (z0) _ _ _ _ _ rfl (yp.below hS5.b (Nat.le_refl _)) (by simp [rwPorts]) (hS5.big) (fun _ hb => hS5.keep hb) ?_)
  intro v7 W7 z1 hb7 hS7
  have z1 : OwnB W7 w3.heap.size v7 (rwPorts src dst) := z1
  simp only [Act.put, List.setIfInBounds_toArray, List.set_cons_zero, List.set_cons_succ]
  refine tk_one (by kernel_rfl) (op_app (i := 5) (.tmp 47) (.tmp 49) _ rfl (by kernel_rfl) rfl Try.underlying24 (by kernel_rfl) w3.heap.size _ _ rfl (z1) _ _ _ _ _ rfl (y8.below hS7.b (Nat.le_refl _)) (by simp [rwPorts]; omega) (hS7.big) (fun _ hb => hS7.keep hb) ?_)
  intro v8 W8 z2 hb8 hS8
  have z2 : OwnB W8 w3.heap.size v8 (rwOut l src dst) := z2
  obtain ⟨A9, k9, rfl, _⟩ := own_shape z2.own
  simp only [Act.put, List.setIfInBounds_toArray, List.set_cons_zero, List.set_cons_succ]
  refine tk (i := 6) (.slice A9 (rwOut l src dst).length k9) hS8 rfl (by kernel_rfl) (by kernel_rfl) (by kernel_rfl) (fun _ _ _ h => h) (by kernel_rfl) (by intro _ _; exact rfl) ?_
  simp only [Act.put, List.setIfInBounds_toArray, List.set_cons_zero, List.set_cons_succ]
  refine wpAnyH_done (by kernel_rfl) ?_ _
  skip
  -- END 6
  have hB8 := hB3.trans (hS8.b.mono hB3.size)
  have hS0 := hS8.b
  have z2 := z2.more (base' := w.heap.size) hB3.size
  have hloH := Lib.hid (rwOut_len h4 src dst)
  clear z0 z1 hb7 hb8 hS hS5 hS7
  by_cases hn : l.length < 18
  · have hr : rwBytes 6 l f t src dst = rwOut l src dst := by
      unfold rwBytes
      rw [if_neg (by rw [rwErr, if_neg (by omega), if_neg (by omega), if_neg (by simp [hftH.out, hev])]; simp), if_pos (.inl hn)]
    have hrH := Lib.hid hr
    have hn : (l.length : Int) < 18 := by omega
    clear hS8 hr
    go_wp2
    go_ret2
    exact ⟨_, _, rfl, Lib.hid rfl, by rw [hrH.out]; exact z2, hB8⟩
  have hn' : (18 : Int) ≤ (l.length : Int) := by omega
  obtain ⟨x, hx⟩ : ∃ x, be2 l 16 = x := ⟨_, rfl⟩
  have rx := be2_rng y.rng 16
  rw [hx] at rx
  have kg := fun W (h : Below w.heap.size w W) => get2_any _ _ c l W ((y.below h (Nat.le_refl _)).more h.size) 16 (by omega)
  simp only [hx] at kg
  have kg := Lib.hid kg
  clear hS8
  have hr : rwBytes 6 l f t src dst = set2 (rwOut l src dst) 16 (rwSum 6 l f t src dst) := by
    unfold rwBytes
    rw [if_neg (by rw [rwErr, if_neg (by omega), if_neg (by omega), if_neg (by simp [hftH.out, hev])]; simp), if_neg (by rintro (h | ⟨h, _⟩); exact hn h; cases h)]
    rfl
  have hrH := Lib.hid hr
  have hxH := Lib.hid hx
  clear hr hx hn
  go_wp2_with fail
  refine (kg.out _ hB8).mono ?_
  rintro e W10 ⟨rfl, hb⟩
  have z2 := z2.below hb
  have hB8 := hB8.trans (hb.mono hB8.size)
  have hS0 := hS0.trans (hb.mono hS0.size)
  clear hb
  have ru := updateS_rng x rx f t y1.rng y2.rng
  go_wp2_with fail
  refine (rupdate_any x rx A1 A2 c1 c2 f t _ ((y1.below hB8 (Nat.le_refl _)).more hB8.size) ((y2.below hB8 (Nat.le_refl _)).more hB8.size) hbig).mono ?_
  rintro e W11 ⟨⟨q, er, rfl, hqe⟩, hb⟩
  have hq1 : q = (updateS x f t).1 := by rw [← hqe.out.1]
  rw [← hq1] at ru
  have z2 := z2.below hb
  have hB8 := hB8.trans (hb.mono hB8.size)
  have hS0 := hS0.trans (hb.mono hS0.size)
  have hq1H := Lib.hid hq1
  clear hb hqe hq1
  obtain ⟨h4s, y4⟩ := y.to_ (P := Try.prog) 24 Try.underlying24 (by kernel_rfl) (k := 4) h4
  have h4s : ∀ w', (Instr.sliceAt 24 (.slice (some ⟨b0, off, none⟩) l.length c) none (some (.int .i64 4)) none).run Try.prog w' = .ok (.slice (some ⟨b0, off, none⟩) 4 c) w' := h4s
  go_wp2_with fail
  refine (rupdate_n q ru _ _ c k6 4 (rwPorts src dst).length (l.take 4) (rwPorts src dst) _ ((y4.below hB8 (Nat.le_refl _)).more hB8.size) ((yp.below hS0 (Nat.le_refl _)).more hS0.size) ⟨by rw [y4.len]; omega, by simp [rwPorts]⟩).mono ?_
  rintro e W12 ⟨⟨q2, er2, rfl, hqe⟩, hb⟩
  have z2 := z2.below hb
  have hB8 := hB8.trans (hb.mono hB8.size)
  have hq2' : q2 = rwSum1 6 l f t src dst := by
    have h1 := hqe.out.1
    rw [hq1H.out, ← hxH.out] at h1
    exact h1
  have hr2 : 0 ≤ q2 ∧ q2 < 65536 := by rw [hq2']; exact rwSum1_rng y.rng y1.rng y2.rng hsr hds
  have hsm : rwSum 6 l f t src dst = if q2 = 0 ∧ (6 : Int) = 17 then 65535 else q2 := by rw [rwSum, ← hq2']
  have hsmH := Lib.hid hsm
  clear hb hqe hq2' hsm h4s y4
  obtain ⟨g, e9, hg, hlt, c1', f1', u1⟩ := z2.byte rfl (show 16 < (rwOut l src dst).length by rw [hloH.out]; omega)
  subst e9
  have zl1 : (16 : Int) < ((rwOut l src dst).length : Int) := by rw [hloH.out]; omega
  have zl2 : (17 : Int) < ((rwOut l src dst).length : Int) := by rw [hloH.out]; omega
  have o1 := u1 (q2 / 256) (by omega)
  obtain ⟨g', e', _, _, c2', f2', u2⟩ := o1.byte (by rw [List.length_set]) (show 17 < (rwOut l src dst).length by rw [hloH.out]; omega)
  injection e' with e'
  injection e' with e'
  subst e'
  have o2 := Lib.hid (u2 (q2 % 256) (by omega))
  have hBf := below_setCell (below_setCell hB8 hg 16 (.int .u8 (q2 / 256))) hg 17 (.int .u8 (q2 % 256))
  clear o1 u1 u2 z2
  go_wp2
  go_ret2
  refine ⟨_, _, rfl, Lib.hid rfl, ?_, hBf⟩
  rw [hrH.out, hsmH.out, if_neg (by simp)]
  exact o2.out

set_option maxRecDepth 100000 in
set_option maxHeartbeats 400000 in
theorem rrw_ok17 (A : Option Addr) (c : Nat) (l : List Int) (A1 : Option Addr) (c1 : Nat) (f : List Int) (A2 : Option Addr) (c2 : Nat) (t : List Int) (src dst : Int) (hsr : 0 ≤ src ∧ src < 65536) (hds : 0 ≤ dst ∧ dst < 65536) (w : World) (y : By w.heap.size w A l.length c l) (y1 : By w.heap.size w A1 f.length c1 f) (y2 : By w.heap.size w A2 t.length c2 t) (hs : l.length ≤ 4398046511104) (hbig : f.length ≤ 4398046511104 ∧ t.length ≤ 4398046511104) (h4 : 4 ≤ l.length) (hft : f.length = t.length) (hev : t.length % 2 = 0) :
    Calls Try.prog 39 #[.int .u8 17, .slice A l.length c, .slice A1 f.length c1, .slice A2 t.length c2, .int .u16 src, .int .u16 dst] w fun e w' => ToldB (rwBytes 17 l f t src dst) 0 w e w' := by
  have h4' : (4 : Int) ≤ (l.length : Int) := by omega
  have hu : (updateS 0 f t).2 = 0 := by unfold updateS; rw [if_pos ⟨hft, hev⟩]
  have huH := Lib.hid hu
  clear hu
  obtain ⟨b0, off, rfl, _, -⟩ := y.row.at_ (by omega)
  have hftH := Lib.hid hft
  clear hft
  go_enter Try.func39, Try.ntmps39
  go_wp2_with fail
  refine (rupdate_any 0 (by decide) A1 A2 c1 c2 f t _ y1 y2 hbig).mono ?_
  rintro e w1 ⟨⟨q, er, rfl, hqe⟩, hb⟩
  obtain rfl : er = 0 := hqe.out.2.trans huH.out
  have hB := hb
  clear hb hqe
  go_wp2_with fail
  refine (put2_any w1.heap.size _ [] src hsr.1 hsr.2 w1 (OwnB.nil _ _) (Nat.le_refl _) (by simp)).mono ?_
  rintro e w2 ⟨v2, rfl, ho, hb⟩
  have hB2 := hB.trans (hb.mono hB.size)
  go_wp2_with fail
  refine (put2_any w1.heap.size v2 _ dst hds.1 hds.2 w2 ho hb.size (by simp)).mono ?_
  rintro e w3 ⟨v3, rfl, ho3, hb'⟩
  have hB3 := hB2.trans (hb'.mono hB.size)
  have ho3 : OwnB w3 w1.heap.size v3 (rwPorts src dst) := ho3
  obtain ⟨A6, k6, rfl, _⟩ := own_shape ho3.own
  have yp := ho3.row
  obtain ⟨A8, c8, hsl, y8⟩ := ((y.below hB3 (Nat.le_refl _)).more hB3.size).from_ (P := Try.prog) 24 Try.underlying24 (by kernel_rfl) (k := 4) h4
  clear hb hb' ho hB hB2
  go_wp2_with fail
  refine wp_region_held_drew (S := SG w3) (by kernel_rfl) ⟨below_drew _ _⟩ (fun hS => ?_)
  generalize w3.drew = W0 at hS ⊢
  -- REGION 17
  refine tk (i := 1) (.slice A6 (rwPorts src dst).length k6) hS rfl (by kernel_rfl) (by kernel_rfl) (by kernel_rfl) (fun _ _ _ h => h) (by kernel_rfl) (by intro _ _; exact rfl) ?_
  simp only [Act.put, List.setIfInBounds_toArray, List.set_cons_zero, List.set_cons_succ]
  refine tk (i := 3) (.slice (some ⟨b0, off, none⟩) l.length c) hS rfl (by kernel_rfl) (by kernel_rfl) (by kernel_rfl) (fun _ _ _ h => h) (by kernel_rfl) (by intro _ _; exact rfl) ?_
  simp only [Act.put, List.setIfInBounds_toArray, List.set_cons_zero, List.set_cons_succ]
  refine tk (i := 4) (.slice A8 (l.length - 4) c8) hS rfl (by kernel_rfl) (by kernel_rfl) (by kernel_rfl) (fun _ _ _ h => h) (by kernel_rfl) (by intro w' _; exact ex_slice (by exact rfl) (by exact rfl) (hsl w')) ?_
  simp only [Act.put, List.setIfInBounds_toArray, List.set_cons_zero, List.set_cons_succ]
  refine tk_one (by kernel_rfl) (op_build0 (i := 0) rfl (by kernel_rfl) rfl Try.underlying24 (by kernel_rfl) (fun _ hb => hS.keep (hb.mono hS.big)) ?_)
  intro g5 W5 z0 hb5 hS5
  replace z0 := z0.more (base' := w3.heap.size) hS.big
  clear hb5
  simp only [Act.put, List.setIfInBounds_toArray, List.set_cons_zero, List.set_cons_succ]
  refine tk_one (by kernel_rfl) (op_app (i := 2) (.tmp 45) (.tmp 46) _ rfl (by kernel_rfl) rfl Try.underlying24 (by kernel_rfl) w3.heap.size _ _ rfl (z0) _ _ _ _ _ rfl (yp.below hS5.b (Nat.le_refl _)) (by simp [rwPorts]) (hS5.big) (fun _ hb => hS5.keep hb) ?_)
  intro v7 W7 z1 hb7 hS7
  have z1 : OwnB W7 w3.heap.size v7 (rwPorts src dst) := z1
  simp only [Act.put, List.setIfInBounds_toArray, List.set_cons_zero, List.set_cons_succ]
  refine tk_one (by kernel_rfl) (op_app (i := 5) (.tmp 47) (.tmp 49) _ rfl (by kernel_rfl) rfl Try.underlying24 (by kernel_rfl) w3.heap.size _ _ rfl (z1) _ _ _ _ _ rfl (y8.below hS7.b (Nat.le_refl _)) (by simp [rwPorts]; omega) (hS7.big) (fun _ hb => hS7.keep hb) ?_)
  intro v8 W8 z2 hb8 hS8
  have z2 : OwnB W8 w3.heap.size v8 (rwOut l src dst) := z2
  obtain ⟨A9, k9, rfl, _⟩ := own_shape z2.own
  simp only [Act.put, List.setIfInBounds_toArray, List.set_cons_zero, List.set_cons_succ]
  refine tk (i := 6) (.slice A9 (rwOut l src dst).length k9) hS8 rfl (by kernel_rfl) (by kernel_rfl) (by kernel_rfl) (fun _ _ _ h => h) (by kernel_rfl) (by intro _ _; exact rfl) ?_
  simp only [Act.put, List.setIfInBounds_toArray, List.set_cons_zero, List.set_cons_succ]
  refine wpAnyH_done (by kernel_rfl) ?_ _
  skip
  -- END 17
  have hB8 := hB3.trans (hS8.b.mono hB3.size)
  have hS0 := hS8.b
  have z2 := z2.more (base' := w.heap.size) hB3.size
  have hloH := Lib.hid (rwOut_len h4 src dst)
  clear z0 z1 hb7 hb8 hS hS5 hS7
  by_cases hn : l.length < 8
  · have hr : rwBytes 17 l f t src dst = rwOut l src dst := by
      unfold rwBytes
      rw [if_neg (by rw [rwErr, if_neg (by omega), if_neg (by omega), if_neg (by simp [hftH.out, hev])]; simp), if_pos (.inl hn)]
    have hrH := Lib.hid hr
    have hn : (l.length : Int) < 8 := by omega
    clear hS8 hr
    go_wp2
    go_ret2
    exact ⟨_, _, rfl, Lib.hid rfl, by rw [hrH.out]; exact z2, hB8⟩
  have hn' : (8 : Int) ≤ (l.length : Int) := by omega
  obtain ⟨x, hx⟩ : ∃ x, be2 l 6 = x := ⟨_, rfl⟩
  have rx := be2_rng y.rng 6
  rw [hx] at rx
  have kg := fun W (h : Below w.heap.size w W) => get2_any _ _ c l W ((y.below h (Nat.le_refl _)).more h.size) 6 (by omega)
  simp only [hx] at kg
  have kg := Lib.hid kg
  clear hS8
  go_wp2_with fail
  refine (kg.out _ hB8).mono ?_
  rintro e W9 ⟨rfl, hb⟩
  have z2 := z2.below hb
  have hB8 := hB8.trans (hb.mono hB8.size)
  have hS0 := hS0.trans (hb.mono hS0.size)
  clear hb
  by_cases hx0 : x = 0
  · have hr : rwBytes 17 l f t src dst = rwOut l src dst := by
      unfold rwBytes
      rw [if_neg (by rw [rwErr, if_neg (by omega), if_neg (by omega), if_neg (by simp [hftH.out, hev])]; simp), if_pos (.inr ⟨rfl, hx.trans hx0⟩)]
    have hrH := Lib.hid hr
    have hx0' : (x == 0) = true := by simp [hx0]
    clear hx0 hr
    go_wp2
    go_ret2
    exact ⟨_, _, rfl, Lib.hid rfl, by rw [hrH.out]; exact z2, hB8⟩
  have hr : rwBytes 17 l f t src dst = set2 (rwOut l src dst) 6 (rwSum 17 l f t src dst) := by
    unfold rwBytes
    rw [if_neg (by rw [rwErr, if_neg (by omega), if_neg (by omega), if_neg (by simp [hftH.out, hev])]; simp), if_neg (by rintro (h | ⟨_, h⟩); exact hn h; exact hx0 (hx.symm.trans h))]
    rfl
  have hx0' : (x == 0) = false := by simp [hx0]
  have hrH := Lib.hid hr
  have hxH := Lib.hid hx
  clear hr hx hn
  go_wp2_with fail
  refine (kg.out _ hB8).mono ?_
  rintro e W10 ⟨rfl, hb⟩
  have z2 := z2.below hb
  have hB8 := hB8.trans (hb.mono hB8.size)
  have hS0 := hS0.trans (hb.mono hS0.size)
  clear hb
  have ru := updateS_rng x rx f t y1.rng y2.rng
  go_wp2_with fail
  refine (rupdate_any x rx A1 A2 c1 c2 f t _ ((y1.below hB8 (Nat.le_refl _)).more hB8.size) ((y2.below hB8 (Nat.le_refl _)).more hB8.size) hbig).mono ?_
  rintro e W11 ⟨⟨q, er, rfl, hqe⟩, hb⟩
  have hq1 : q = (updateS x f t).1 := by rw [← hqe.out.1]
  rw [← hq1] at ru
  have z2 := z2.below hb
  have hB8 := hB8.trans (hb.mono hB8.size)
  have hS0 := hS0.trans (hb.mono hS0.size)
  have hq1H := Lib.hid hq1
  clear hb hqe hq1
  obtain ⟨h4s, y4⟩ := y.to_ (P := Try.prog) 24 Try.underlying24 (by kernel_rfl) (k := 4) h4
  have h4s : ∀ w', (Instr.sliceAt 24 (.slice (some ⟨b0, off, none⟩) l.length c) none (some (.int .i64 4)) none).run Try.prog w' = .ok (.slice (some ⟨b0, off, none⟩) 4 c) w' := h4s
  go_wp2_with fail
  refine (rupdate_n q ru _ _ c k6 4 (rwPorts src dst).length (l.take 4) (rwPorts src dst) _ ((y4.below hB8 (Nat.le_refl _)).more hB8.size) ((yp.below hS0 (Nat.le_refl _)).more hS0.size) ⟨by rw [y4.len]; omega, by simp [rwPorts]⟩).mono ?_
  rintro e W12 ⟨⟨q2, er2, rfl, hqe⟩, hb⟩
  have z2 := z2.below hb
  have hB8 := hB8.trans (hb.mono hB8.size)
  have hq2' : q2 = rwSum1 17 l f t src dst := by
    have h1 := hqe.out.1
    rw [hq1H.out, ← hxH.out] at h1
    exact h1
  have hr2 : 0 ≤ q2 ∧ q2 < 65536 := by rw [hq2']; exact rwSum1_rng y.rng y1.rng y2.rng hsr hds
  have hsm : rwSum 17 l f t src dst = if q2 = 0 ∧ (17 : Int) = 17 then 65535 else q2 := by rw [rwSum, ← hq2']
  have hsmH := Lib.hid hsm
  clear hb hqe hq2' hsm h4s y4
  obtain ⟨g, e9, hg, hlt, c1', f1', u1⟩ := z2.byte rfl (show 6 < (rwOut l src dst).length by rw [hloH.out]; omega)
  subst e9
  have zl1 : (6 : Int) < ((rwOut l src dst).length : Int) := by rw [hloH.out]; omega
  have zl2 : (7 : Int) < ((rwOut l src dst).length : Int) := by rw [hloH.out]; omega
  by_cases h0 : q2 = 0
  · subst h0
    have o1 := u1 (255) (by omega)
    obtain ⟨g', e', _, _, c2', f2', u2⟩ := o1.byte (by rw [List.length_set]) (show 7 < (rwOut l src dst).length by rw [hloH.out]; omega)
    injection e' with e'
    injection e' with e'
    subst e'
    have o2 := Lib.hid (u2 (255) (by omega))
    have hBf := below_setCell (below_setCell hB8 hg 6 (.int .u8 (255))) hg 7 (.int .u8 (255))
    clear o1 u1 u2 z2
    go_wp2
    go_ret2
    refine ⟨_, _, rfl, Lib.hid rfl, ?_, hBf⟩
    rw [hrH.out, hsmH.out, if_pos (by simp)]
    exact o2.out
  · have h0' : (q2 == 0) = false := by simp [h0]
    have o1 := u1 (q2 / 256) (by omega)
    obtain ⟨g', e', _, _, c2', f2', u2⟩ := o1.byte (by rw [List.length_set]) (show 7 < (rwOut l src dst).length by rw [hloH.out]; omega)
    injection e' with e'
    injection e' with e'
    subst e'
    have o2 := Lib.hid (u2 (q2 % 256) (by omega))
    have hBf := below_setCell (below_setCell hB8 hg 6 (.int .u8 (q2 / 256))) hg 7 (.int .u8 (q2 % 256))
    clear o1 u1 u2 z2
    go_wp2
    go_ret2
    refine ⟨_, _, rfl, Lib.hid rfl, ?_, hBf⟩
    rw [hrH.out, hsmH.out, if_neg (by simp [h0])]
    exact o2.out
end Go.Proofs.Ytaobnbjkhgcmlaa
