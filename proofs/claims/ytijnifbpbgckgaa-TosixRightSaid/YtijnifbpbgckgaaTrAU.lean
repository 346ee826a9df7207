/-
  Lemmas and walks for the row of TosixRight (part 21 of 33).
-/
import Derived.Test.YtijnifbpbgckgaaTrAD
import Derived.Test.YtijnifbpbgckgaaTrAF
import Derived.Test.YtijnifbpbgckgaaTrAI
import Derived.Test.YtijnifbpbgckgaaTrAK
import Derived.Test.YtijnifbpbgckgaaTrAM
set_option linter.unusedVariables false
set_option linter.unusedSimpArgs false
namespace Go.Proofs.Ytijnifbpbgckgaa
open Go.RowKit Go.Shelf

theorem addr6_info (a : List Int) (ha : a.length = 16) : (Try.prog.info? 29).map (·.size) = some (u8s a).toArray.size := by
  rw [show (u8s a).toArray.size = 16 from by simp [u8s_length, ha]]
  kernel_rfl

set_option maxRecDepth 100000 in
/-- what Write6 answers -/
theorem iwrite6_any (a b : List Int) (ha : a.length = 16) (hb : b.length = 16) (ra : InB a) (rb : InB b) (d : D7) (A : Option Addr) (c : Nat) (w : World) (hR : Rd7 w.heap.size w d A c) :
    Calls Try.prog 41 #[.agg (u8s a).toArray, .agg (u8s b).toArray, .agg (d.cells A c)] w fun e w' => ∃ v s, e = .returned (.tuple #[v, .int .i64 s]) ∧ Hid (s = d.err) ∧ OwnB w' w.heap.size v (d.write (pse6 a b (8 + d.bl.length) 58)) ∧ Below w.heap.size w w' := by
  have hbg := Nat.le_trans hR.body.cap hR.body.big
  have hB : Below w.heap.size w (((w.alloc (.cells (u8s a).toArray 29)).alloc (.cells (u8s b).toArray 29)).alloc (.cells (d.cells A c) 46)) := (((Below.refl _ _).alloc (Nat.le_refl _) _).alloc (by simp) _).alloc (by simp; omega) _
  have hHa : Has (((w.alloc (.cells (u8s a).toArray 29)).alloc (.cells (u8s b).toArray 29)).alloc (.cells (d.cells A c) 46)) w.heap.size (.cells (u8s a).toArray 29 (0, 0)) := ((Has.newAt rfl).alloc).alloc
  have hHb : Has (((w.alloc (.cells (u8s a).toArray 29)).alloc (.cells (u8s b).toArray 29)).alloc (.cells (d.cells A c) 46)) (w.heap.size + 1) (.cells (u8s b).toArray 29 (0, 0)) := (Has.newAt (by simp)).alloc
  have hHd : Has (((w.alloc (.cells (u8s a).toArray 29)).alloc (.cells (u8s b).toArray 29)).alloc (.cells (d.cells A c) 46)) (w.heap.size + 1 + 1) (.cells (d.cells A c) 46 (0, 0)) := Has.newAt (by simp)
  have hia := addr6_info a ha
  have hib := addr6_info b hb
  by_cases h0 : 65527 < d.bl.length
  · have e1 : d.err = 2 := if_pos h0
    have e2 : d.write (pse6 a b (8 + d.bl.length) 58) = [] := if_pos h0
    rw [e1, e2]
    have h0H := Lib.hid h0
    clear e1 e2 h0
    go_enter Try.func41, Try.ntmps41
    go_wp2_with (refine wpList_load_row rfl 46 (.tmp 5) rfl (w.heap.size + 1 + 1) rfl 46 (d.cells A c) (0, 0) _ hHd Try.underlying46 rfl icmp_info ?_)
    refine (long7_any d A c _ hbg).mono ?_
    rintro e w1 ⟨q, rfl, hq, hb1⟩
    obtain rfl : q = true := hq.out.trans (decide_eq_true h0H.out)
    go_wp2
    go_ret2
    exact ⟨_, _, rfl, Lib.hid rfl, OwnB.nil _ _, hB.trans (hb1.mono hB.size)⟩
  · have e1 : d.err = 0 := if_neg h0
    have e2 : d.write (pse6 a b (8 + d.bl.length) 58) = d.bytes (pse6 a b (8 + d.bl.length) 58) := if_neg h0
    rw [e1, e2]
    have h0H := Lib.hid h0
    have h1 : d.bl.length ≤ 65527 := by omega
    clear e1 e2 h0
    go_enter Try.func41, Try.ntmps41
    go_wp2_with (refine wpList_load_row rfl 46 (.tmp 5) rfl (w.heap.size + 1 + 1) rfl 46 (d.cells A c) (0, 0) _ hHd Try.underlying46 rfl icmp_info ?_)
    refine (long7_any d A c _ hbg).mono ?_
    rintro e w1 ⟨q, rfl, hq, hb1⟩
    obtain rfl : q = false := hq.out.trans (decide_eq_false h0H.out)
    have hHa := hHa.below hb1 hHa.lt
    have hHb := hHb.below hb1 hHb.lt
    have hHd := hHd.below hb1 hHd.lt
    have hB1 := hB.trans (hb1.mono hB.size)
    have c3 := hHd.cell 3 (v := .slice A d.bl.length c) rfl
    clear hq hb1 hB
    go_wp2_with (first | (refine wpList_load_row rfl 29 (.tmp 3) rfl w.heap.size rfl 29 (u8s a).toArray (0, 0) _ hHa Try.underlying29 rfl hia ?_) | (refine wpList_load_row rfl 29 (.tmp 4) rfl (w.heap.size + 1) rfl 29 (u8s b).toArray (0, 0) _ hHb Try.underlying29 rfl hib ?_))
    refine (pseudo6_ok a b ha hb ra rb 58 (8 + (d.bl.length : Int)) (by decide) (by decide) (by omega) (by omega) _).mono ?_
    rintro e w2 ⟨v2, rfl, ho2, hb2⟩
    obtain ⟨ps, hps⟩ : ∃ ps, pse6 a b (8 + (d.bl.length : Int)) 58 = ps := ⟨_, rfl⟩
    have ho2 : OwnB w2 w1.heap.size v2 ps := hps ▸ ho2
    obtain ⟨A2, k2, rfl, y2⟩ := ho2.by_
    have hHd := hHd.below hb2 hHd.lt
    have hB2 := hB1.trans (hb2.mono hB1.size)
    have hpsH := Lib.hid hps
    clear hps hb2 hB1 ho2 hHa hHb c3
    have hR2 := (hR.below hB2 (Nat.le_refl _)).more (B' := w2.heap.size) hB2.size
    go_wp2_with (refine wpList_load_row rfl 46 (.tmp 5) rfl (w.heap.size + 1 + 1) rfl 46 (d.cells A c) (0, 0) _ hHd Try.underlying46 rfl icmp_info ?_)
    refine (write7_any d A c A2 k2 ps w2 hR2 y2 h1).mono ?_
    rintro e w3 ⟨v, rfl, ho, hb3⟩
    obtain ⟨A', c', rfl, _⟩ := own_shape ho.own
    have ho3 := ho.more (base' := w.heap.size) hB2.size
    rw [← hpsH.out] at ho3
    clear ho
    go_wp2
    go_ret2
    exact ⟨_, _, rfl, Lib.hid rfl, ho3, hB2.trans (hb3.mono hB2.size)⟩

/-- has a message as many bytes as may be -/
def szerr (n : Nat) : Int := if n < 8 then 70 else if 65535 < n then 2 else 0
theorem sized_any (A : Option Addr) (n c : Nat) (w : World) (hn : n ≤ 9223372036854775807) :
    Calls Try.prog 66 #[.slice A n c] w fun e w' => ∃ q : Int, e = .returned (.int .i64 q) ∧ Hid (q = szerr n) ∧ w = w' := by
  by_cases h1 : n < 8
  · have e : szerr n = 70 := if_pos h1
    rw [e]
    clear e
    go_enter Try.func66, Try.ntmps66
    go_wp2
    go_ret
    exact ⟨_, rfl, Lib.hid rfl, rfl⟩
  · by_cases h2 : 65535 < n
    · have e : szerr n = 2 := by unfold szerr; rw [if_neg h1, if_pos h2]
      rw [e]
      clear e
      go_enter Try.func66, Try.ntmps66
      go_wp2
      go_ret
      exact ⟨_, rfl, Lib.hid rfl, rfl⟩
    · have e : szerr n = 0 := by unfold szerr; rw [if_neg h1, if_neg h2]
      rw [e]
      clear e
      go_enter Try.func66, Try.ntmps66
      go_wp2
      go_ret
      exact ⟨_, rfl, Lib.hid rfl, rfl⟩

/-- a message that is told, with an error's number -/
def Told7 (base : Nat) (w' : World) (d : D7) (s : Int) (e : Ending) : Prop := ∃ A c s', e = .returned (.tuple #[.agg (d.cells A c), .int .i64 s']) ∧ Hid (s' = s) ∧ d.ok ∧ OwnB w' base (.slice A d.bl.length c) d.bl

set_option maxRecDepth 100000 in
theorem parse_bad (A : Option Addr) (c : Nat) (l : List Int) (Ap : Option Addr) (cp : Nat) (ps : List Int) (w : World) (hl : By w.heap.size w A l.length c l) (hp : By w.heap.size w Ap ps.length cp ps) (h0 : sumw (ps ++ l) ≠ 65535) :
    Calls Try.prog 67 #[.slice A l.length c, .slice Ap ps.length cp] w fun e w' => Told7 w.heap.size w' zero7 71 e ∧ Below w.heap.size w w' := by
  have h0H := Lib.hid h0
  have hrl := hl.rng
  clear h0
  go_enter Try.func67, Try.ntmps67
  go_wp2_with fail
  refine (good_new [(Ap, cp, ps), (A, c, l)] 2 (by simp only [List.map_cons, List.map_nil]; exact Has.newAt (by simp)) rfl
    (all2 (By.more (B := w.heap.size) (by repeat (first | exact hp | refine By.alloc ?_ (by simp; try omega) _)) (by simp; try omega))
      (By.more (B := w.heap.size) (by repeat (first | exact hl | refine By.alloc ?_ (by simp; try omega) _)) (by simp; try omega))) (by simp)).mono ?_
  rintro e w1 ⟨q, rfl, hq, hb1⟩
  obtain rfl : q = false := hq.out.trans (decide_eq_false (by simpa [flat] using h0H.out))
  have hH : Has w1 w.heap.size (.cells #[.int .u8 0, .int .u8 0, .int .u32 0, .slice none 0 0] 46 (0, 0)) := Has.below (by repeat (first | exact Has.newAt (by simp) | refine Has.alloc ?_)) hb1 (by simp; try omega)
  have hB1 : Below w.heap.size w w1 := Below.trans (by repeat (first | exact Below.refl _ _ | refine Below.alloc ?_ (by simp; try omega) _)) (hb1.mono (by simp; try omega))
  clear hq hb1
  go_wp2_with (refine wpList_store_has rfl 46 (.tmp 4) (.tmp 12) rfl w.heap.size _ rfl rfl 46 _ hH icmp_info rfl (by simp [Value.oneCell']) ?_; intro w2 hH2 hb2)
  exact bodyPost_ret (res_cell2 Try.results67 rfl (hH2.load (P := Try.prog) 46 Try.underlying46 rfl icmp_info) rfl) rfl ⟨⟨none, 0, 71, rfl, Lib.hid rfl, zero7_ok, OwnB.nil _ _⟩, hB1.trans (hb2.mono (Nat.le_refl _))⟩

theorem By.at {B : Nat} {w : World} {b off n c k : Nat} {l : List Int} (h : By B w (some ⟨b, off, none⟩) n c l) (hk : k < n) : w.cell? ⟨b, off + k, none⟩ = some (.int .u8 (l.getD k 0)) := by
  obtain ⟨b', off', x, e, _, hx, hc, _⟩ := h.get hk
  injection e with e
  injection e with e1 e2 e3
  subst e1 e2
  rw [hc, List.getD_eq_getElem?_getD, hx]
  rfl

/-- what the last region of parse leans on -/
structure SP (g b off : Nat) (x0 x1 : Int) (w0 w' : World) : Prop where
  d0 : w'.cell? ⟨b, off + 0, none⟩ = some (.int .u8 x0)
  d1 : w'.cell? ⟨b, off + 1, none⟩ = some (.int .u8 x1)
  has : ∃ old, Has w' g (.cells old 46 (0, 0)) ∧ old.size = 4
  bel : Below w0.heap.size w0 w'
  lt : b < g ∧ g < w'.heap.size ∧ w0.heap.size ≤ g
theorem SP.keep {g b off : Nat} {x0 x1 : Int} {w0 w' w'' : World} (h : SP g b off x0 x1 w0 w') (hb : Below w'.heap.size w' w'') : SP g b off x0 x1 w0 w'' := by
  obtain ⟨h1, h2, h3⟩ := h.lt
  obtain ⟨old, ho, hs⟩ := h.has
  exact ⟨(hb.cell (p := ⟨b, off + 0, none⟩) (by show b < _; omega)).trans h.d0, (hb.cell (p := ⟨b, off + 1, none⟩) (by show b < _; omega)).trans h.d1, ⟨old, ho.below hb h2, hs⟩, h.bel.trans (hb.mono h.bel.size), h1, Nat.lt_of_lt_of_le h2 hb.size, h3⟩
theorem SP.store {g b off : Nat} {x0 x1 : Int} {w0 w' w'' : World} {cs : Array Value} (h : SP g b off x0 x1 w0 w') (hc : Has w'' g (.cells cs 46 (0, 0))) (hb : Below g w' w'') (hn : cs.size = 4) : SP g b off x0 x1 w0 w'' := by
  obtain ⟨h1, h2, h3⟩ := h.lt
  exact ⟨(hb.cell (p := ⟨b, off + 0, none⟩) h1).trans h.d0, (hb.cell (p := ⟨b, off + 1, none⟩) h1).trans h.d1, ⟨cs, hc, hn⟩, h.bel.trans (hb.mono h3), h1, hc.lt, h3⟩

set_option maxRecDepth 100000 in
theorem parse_ok (A : Option Addr) (c : Nat) (l : List Int) (Ap : Option Addr) (cp : Nat) (ps : List Int) (w : World) (hl : By w.heap.size w A l.length c l) (hp : By w.heap.size w Ap ps.length cp ps) (h0 : sumw (ps ++ l) = 65535) (h8 : 8 ≤ l.length) (hm : l.length ≤ 65535) :
    Calls Try.prog 67 #[.slice A l.length c, .slice Ap ps.length cp] w fun e w' => Told7 w.heap.size w' (of7 l) 0 e ∧ Below w.heap.size w w' := by
  have h0H := Lib.hid h0
  have hrl := hl.rng
  clear h0
  go_enter Try.func67, Try.ntmps67
  go_wp2_with fail
  refine (good_new [(Ap, cp, ps), (A, c, l)] 2 (by simp only [List.map_cons, List.map_nil]; exact Has.newAt (by simp)) rfl
    (all2 (By.more (B := w.heap.size) (by repeat (first | exact hp | refine By.alloc ?_ (by simp; try omega) _)) (by simp; try omega))
      (By.more (B := w.heap.size) (by repeat (first | exact hl | refine By.alloc ?_ (by simp; try omega) _)) (by simp; try omega))) (by simp)).mono ?_
  rintro e w1 ⟨q, rfl, hq, hb1⟩
  obtain rfl : q = true := hq.out.trans (decide_eq_true (by simpa [flat] using h0H.out))
  have hH : Has w1 w.heap.size (.cells #[.int .u8 0, .int .u8 0, .int .u32 0, .slice none 0 0] 46 (0, 0)) := Has.below (by repeat (first | exact Has.newAt (by simp) | refine Has.alloc ?_)) hb1 (by simp; try omega)
  have hB1 : Below w.heap.size w w1 := Below.trans (by repeat (first | exact Below.refl _ _ | refine Below.alloc ?_ (by simp; try omega) _)) (hb1.mono (by simp; try omega))
  have yl := hl.below hB1 (Nat.le_refl _)
  obtain ⟨b, off, rfl, hbl, _⟩ := yl.row.at_ (by omega)
  have d4 := yl.at (k := 4) (by omega)
  have d5 := yl.at (k := 5) (by omega)
  have d6 := yl.at (k := 6) (by omega)
  have d7 := yl.at (k := 7) (by omega)
  have r4 := getD_rng hl.rng 4
  have r5 := getD_rng hl.rng 5
  have r6 := getD_rng hl.rng 6
  have r7 := getD_rng hl.rng 7
  obtain ⟨x4, hx4⟩ : ∃ x, l.getD 4 0 = x := ⟨_, rfl⟩
  obtain ⟨x5, hx5⟩ : ∃ x, l.getD 5 0 = x := ⟨_, rfl⟩
  obtain ⟨x6, hx6⟩ : ∃ x, l.getD 6 0 = x := ⟨_, rfl⟩
  obtain ⟨x7, hx7⟩ : ∃ x, l.getD 7 0 = x := ⟨_, rfl⟩
  rw [hx4] at d4 r4
  rw [hx5] at d5 r5
  rw [hx6] at d6 r6
  rw [hx7] at d7 r7
  have o1 : bits .or .u32 (x4 * 16777216) (x5 * 65536) = x4 * 16777216 + x5 * 65536 := or_u32 24 (by omega) (by omega) (by omega) (by omega) (by omega) (by omega)
  have o2 : bits .or .u32 (x4 * 16777216 + x5 * 65536) (x6 * 256) = x4 * 16777216 + x5 * 65536 + x6 * 256 := or_u32 16 (by omega) (by omega) (by omega) (by omega) (by omega) (by omega)
  have o3 : bits .or .u32 (x4 * 16777216 + x5 * 65536 + x6 * 256) x7 = x4 * 16777216 + x5 * 65536 + x6 * 256 + x7 := or_u32 8 (by omega) (by omega) (by omega) (by omega) (by omega) (by omega)
  have z4 : (4 : Int) < (l.length : Int) := by omega
  have z5 : (5 : Int) < (l.length : Int) := by omega
  have z6 : (6 : Int) < (l.length : Int) := by omega
  have z7 : (7 : Int) < (l.length : Int) := by omega
  have hx4 := Lib.hid hx4
  have hx5 := Lib.hid hx5
  have hx6 := Lib.hid hx6
  have hx7 := Lib.hid hx7
  clear hq hb1
  go_wp2
  go_quiet (fail)
  go_wp2
  clear o1 o2 o3 d4 d5 d6 d7
  have hd0 := yl.at (k := 0) (by omega)
  have hd1 := yl.at (k := 1) (by omega)
  obtain ⟨A8, c8, hsl, y8⟩ := yl.from_ (P := Try.prog) 25 Try.underlying25 (by kernel_rfl) (k := 8) (by omega)
  have hH2 := hH.drewN (n := nq)
  have hB2 := hB1.trans (below_drewN w.heap.size w1 nq)
  have y8 := y8.below (below_drewN w.heap.size w1 nq) (Nat.le_refl _)
  have hd0 : (w1.drewN nq).cell? ⟨b, off + 0, none⟩ = _ := hd0
  have hd1 : (w1.drewN nq).cell? ⟨b, off + 1, none⟩ = _ := hd1
  obtain ⟨x0, hx0⟩ : ∃ x, l.getD 0 0 = x := ⟨_, rfl⟩
  obtain ⟨x1, hx1⟩ : ∃ x, l.getD 1 0 = x := ⟨_, rfl⟩
  rw [hx0] at hd0
  rw [hx1] at hd1
  obtain ⟨R, hR⟩ : ∃ R, x4 * 16777216 + x5 * 65536 + x6 * 256 + x7 = R := ⟨_, rfl⟩
  simp only [hR]
  clear hH hB1 yl
  generalize w1.drewN nq = w2 at *
  have hS0 : SP w.heap.size b off x0 x1 w w2.drew := ⟨hd0, hd1, ⟨_, hH2.drew, rfl⟩, hB2.trans (below_drew _ _), hbl, hH2.drew.lt, Nat.le_refl _⟩
  have hcl := Lib.hid ((clone_n A8 c8 (l.length - 8) (l.drop 8) w2.drew (y8.drew.more hS0.bel.size) (by rw [List.length_drop]; omega)).mono fun e w' (g : ∃ v, e = .returned v ∧ OwnB w' w2.drew.heap.size v (l.drop 8) ∧ Below w2.drew.heap.size w2.drew w') => (by obtain ⟨v, h1, h2, h3⟩ := g; exact ⟨v, h1, ⟨h2, h3⟩, hS0.keep h3⟩ : ∃ v, e = .returned v ∧ (OwnB w' w2.drew.heap.size v (l.drop 8) ∧ Below w2.drew.heap.size w2.drew w') ∧ SP w.heap.size b off x0 x1 w w'))
  have hsz := Lib.hid hS0.bel.size
  refine wp_region_held_drew (S := SP w.heap.size b off x0 x1 w) (by kernel_rfl) hS0 (fun hS => ?_)
  refine te 0 (.slice (some ⟨b, off, none⟩) l.length c) hS rfl (by intro _ _; exact rfl) ?_
  simp only [lay]
  refine te 1 (.pointer (some ⟨b, off + 0, none⟩)) hS rfl (by intro _ _; exact ex_index (by exact rfl) Try.underlying25 (by kernel_rfl) (by exact rfl) (by exact rfl) (by omega)) ?_
  simp only [lay]
  refine te 2 (.int .u8 x0) hS rfl (by intro _ h; exact ex_cell (by exact rfl) Try.underlying5 rfl (by exact rfl) (h.d0)) ?_
  simp only [lay]
  refine te 3 (.slice (some ⟨b, off, none⟩) l.length c) hS rfl (by intro _ _; exact rfl) ?_
  simp only [lay]
  refine te 4 (.pointer (some ⟨b, off + 1, none⟩)) hS rfl (by intro _ _; exact ex_index (by exact rfl) Try.underlying25 (by kernel_rfl) (by exact rfl) (by exact rfl) (by omega)) ?_
  simp only [lay]
  refine te 5 (.int .u8 x1) hS rfl (by intro _ h; exact ex_cell (by exact rfl) Try.underlying5 rfl (by exact rfl) (h.d1)) ?_
  simp only [lay]
  refine te 6 (.int .u32 R) hS rfl (by intro _ _; exact rfl) ?_
  simp only [lay]
  refine te 7 (.slice (some ⟨b, off, none⟩) l.length c) hS rfl (by intro _ _; exact rfl) ?_
  simp only [lay]
  refine te 8 (.slice A8 (l.length - 8) c8) hS rfl (by intro w' _; exact ex_slice (by exact rfl) (by exact rfl) (hsl w')) ?_
  simp only [lay]
  refine tk_callx (i := 9) (fun v w' => OwnB w' w2.drew.heap.size v (l.drop 8) ∧ Below w2.drew.heap.size w2.drew w') (by kernel_rfl) rfl (by kernel_rfl) (by exact ex_call (by exact rfl) Try.func51 (by kernel_rfl) (by kernel_rfl) (by simp only [List.map_toArray, List.map_cons, List.map_nil] <;> rfl)) (hcl.out) ?_
  rintro v3 W3 ⟨ho3, hb3⟩ hS3
  obtain ⟨A3, k3, rfl, _⟩ := own_shape ho3.own
  simp only [lay]
  refine te 10 (.agg #[.int .u8 x0, .int .u8 x1, .int .u32 R, .slice A3 (l.drop 8).length k3]) hS3 rfl (by intro _ _; go_simp) ?_
  simp only [lay]
  obtain ⟨old, hold, hold2⟩ := hS3.has
  refine tk_store (i := 11) (by kernel_rfl) rfl (by kernel_rfl) rfl rfl rfl hold icmp_info hold2 (by simp [Value.oneCell']) (hS3.store hold.setRow_same below_setRow' rfl) ?_
  have hS4 := hS3.store hold.setRow_same (cs := #[.int .u8 x0, .int .u8 x1, .int .u32 R, .slice A3 (l.drop 8).length k3]) below_setRow' rfl
  simp only [lay]
  refine te 12 (.int .i64 0) hS4 rfl (by intro _ _; exact rfl) ?_
  simp only [lay]
  refine wpAnyH_done (by kernel_rfl) ?_ _
  have hfin : (of7 l).cells A3 k3 = #[.int .u8 x0, .int .u8 x1, .int .u32 R, .slice A3 (l.drop 8).length k3] := by
    simp only [D7.cells, of7, hx0, hx1, hx4.out, hx5.out, hx6.out, hx7.out, hR]
  have hH4 := hold.setRow_same (cs' := #[.int .u8 x0, .int .u8 x1, .int .u32 R, .slice A3 (l.drop 8).length k3])
  have ho4 := (ho3.setRow (g := w.heap.size) (cs := #[.int .u8 x0, .int .u8 x1, .int .u32 R, .slice A3 (l.drop 8).length k3]) hH2.lt).more hsz.out
  have hb4 := hS4.bel
  rw [← hfin] at hH4 ho4 hb4 ⊢
  go_wp2
  exact bodyPost_ret (res_cell2 Try.results67 rfl (hH4.load (P := Try.prog) 46 Try.underlying46 rfl icmp_info) rfl) rfl ⟨⟨A3, k3, 0, rfl, Lib.hid rfl, of7_ok hrl, ho4⟩, hb4⟩
end Go.Proofs.Ytijnifbpbgckgaa
namespace Go.Proofs.Ytijnifbpbgckgaa
open Go.RowKit Go.Shelf

theorem parse7_eq {l ps : List Int} (h8 : 8 ≤ l.length) (hm : l.length ≤ 65535) : parse7 l ps = if sumw (ps ++ l) ≠ 65535 then zero7 else of7 l := by
  unfold parse7
  by_cases h : sumw (ps ++ l) ≠ 65535
  · rw [if_pos (Or.inr (Or.inr h)), if_pos h]
  · rw [if_neg (by omega), if_neg h]
theorem perr7_eq {l ps : List Int} (h8 : 8 ≤ l.length) (hm : l.length ≤ 65535) : perr7 l ps = if sumw (ps ++ l) ≠ 65535 then 71 else 0 := by
  unfold perr7
  rw [if_neg (by omega), if_neg (by omega)]
theorem parse_any (A : Option Addr) (c : Nat) (l : List Int) (Ap : Option Addr) (cp : Nat) (ps : List Int) (w : World) (hl : By w.heap.size w A l.length c l) (hp : By w.heap.size w Ap ps.length cp ps) (h8 : 8 ≤ l.length) (hm : l.length ≤ 65535) :
    Calls Try.prog 67 #[.slice A l.length c, .slice Ap ps.length cp] w fun e w' => Told7 w.heap.size w' (parse7 l ps) (perr7 l ps) e ∧ Below w.heap.size w w' := by
  rw [parse7_eq h8 hm, perr7_eq h8 hm]
  by_cases h : sumw (ps ++ l) ≠ 65535
  · rw [if_pos h, if_pos h]
    exact parse_bad A c l Ap cp ps w hl hp h
  · rw [if_neg h, if_neg h]
    exact parse_ok A c l Ap cp ps w hl hp (by simpa using h) h8 hm

theorem iparse4_any (A : Option Addr) (c : Nat) (l : List Int) (w : World) (hl : By w.heap.size w A l.length c l) :
    Calls Try.prog 40 #[.slice A l.length c] w fun e w' => Told7 w.heap.size w' (parse7 l []) (perr7 l []) e ∧ Below w.heap.size w w' := by
  have hbig := Nat.le_trans hl.cap hl.big
  by_cases h1 : l.length < 8 ∨ 65535 < l.length
  · have e1 : parse7 l [] = zero7 := if_pos (by omega)
    have e3 : perr7 l [] = szerr l.length := by unfold perr7 szerr; split <;> (try split) <;> first | rfl | (exfalso; omega)
    have hs : szerr l.length = 70 ∨ szerr l.length = 2 := by unfold szerr; split <;> (try split) <;> first | (simp; done) | (exfalso; omega)
    rw [e1, e3]
    have hsH := Lib.hid hs
    have hHn : Has (w.alloc (.cells #[.int .u8 0, .int .u8 0, .int .u32 0, .slice none 0 0] 46)) w.heap.size (.cells #[.int .u8 0, .int .u8 0, .int .u32 0, .slice none 0 0] 46 (0, 0)) := Has.newAt rfl
    clear e1 e3 hs h1
    go_enter Try.func40, Try.ntmps40
    go_wp2_with fail
    refine (sized_any A l.length c _ hbig).mono ?_
    rintro e w1 ⟨q, rfl, hq, rfl⟩
    have hq2 : q = 70 ∨ q = 2 := by rw [hq.out]; exact hsH.out
    rcases hq2 with rfl | rfl
    · go_wp2_with (refine wpList_store_row rfl 46 (.tmp 2) (.tmp 9) rfl w.heap.size _ rfl rfl 46 _ hHn icmp_info rfl (by simp [Value.oneCell']) ?_)
      exact bodyPost_ret (res_cell2 Try.results40 rfl (hHn.setRow_same.load (P := Try.prog) 46 Try.underlying46 rfl icmp_info) rfl) rfl ⟨⟨none, 0, 70, rfl, hq, zero7_ok, OwnB.nil _ _⟩, ((Below.refl _ _).alloc (Nat.le_refl _) _).trans below_setRow'⟩
    · go_wp2_with (refine wpList_store_row rfl 46 (.tmp 2) (.tmp 9) rfl w.heap.size _ rfl rfl 46 _ hHn icmp_info rfl (by simp [Value.oneCell']) ?_)
      exact bodyPost_ret (res_cell2 Try.results40 rfl (hHn.setRow_same.load (P := Try.prog) 46 Try.underlying46 rfl icmp_info) rfl) rfl ⟨⟨none, 0, 2, rfl, hq, zero7_ok, OwnB.nil _ _⟩, ((Below.refl _ _).alloc (Nat.le_refl _) _).trans below_setRow'⟩
  · have h8 : 8 ≤ l.length := by omega
    have hm : l.length ≤ 65535 := by omega
    have hs : szerr l.length = 0 := by unfold szerr; rw [if_neg (by omega), if_neg (by omega)]
    have hsH := Lib.hid hs
    obtain ⟨D, hD⟩ : ∃ D, parse7 l [] = D := ⟨_, rfl⟩
    obtain ⟨s, hse⟩ : ∃ s, perr7 l [] = s := ⟨_, rfl⟩
    have hpa := Lib.hid (parse_any A c l none 0 [] (w.alloc (.cells #[.int .u8 0, .int .u8 0, .int .u32 0, .slice none 0 0] 46)) ((hl.alloc (Nat.le_refl _) _).more (by simp)) (By.nil _ _ _ (by decide)) h8 hm)
    rw [hD, hse] at hpa
    rw [hD, hse]
    clear hs h1 hD hse
    go_enter Try.func40, Try.ntmps40
    go_wp2_with fail
    refine (sized_any A l.length c _ hbig).mono ?_
    rintro e w1 ⟨q, rfl, hq, rfl⟩
    obtain rfl : q = 0 := hq.out.trans hsH.out
    go_wp2_with fail
    refine hpa.out.mono ?_
    rintro e w2 ⟨⟨A', c', s', rfl, hs', hok, ho⟩, hb2⟩
    have hH2 : Has w2 w.heap.size (.cells #[.int .u8 0, .int .u8 0, .int .u32 0, .slice none 0 0] 46 (0, 0)) := (Has.newAt rfl).below hb2 (by simp)
    have hsz : w.heap.size < (w.alloc (.cells #[.int .u8 0, .int .u8 0, .int .u32 0, .slice none 0 0] 46)).heap.size := by simp
    have ho2 := (ho.setRow (g := w.heap.size) (cs := D.cells A' c') hsz).more (Nat.le_of_lt hsz)
    have hB2 := (((Below.refl _ _).alloc (Nat.le_refl _) _).trans (hb2.mono (Nat.le_of_lt hsz))).trans (below_setRow' (w := w2) (g := w.heap.size) (cs := D.cells A' c'))
    clear hpa ho hb2 hsz
    go_wp2_with (refine wpList_store_row rfl 46 (.tmp 2) (.tmp 13) rfl w.heap.size _ rfl rfl 46 _ hH2 icmp_info rfl (by simp [D7.cells, Value.oneCell']) ?_)
    exact bodyPost_ret (res_cell2 Try.results40 rfl (hH2.setRow_same.load (P := Try.prog) 46 Try.underlying46 rfl icmp_info) rfl) rfl ⟨⟨A', c', s', rfl, hs', hok, ho2⟩, hB2⟩

end Go.Proofs.Ytijnifbpbgckgaa
namespace Go.Proofs.Ytijnifbpbgckgaa
open Go.RowKit Go.Shelf

def One7 (x : Int) (e : Ending) : Prop := ∃ q : Int, e = .returned (.int .i64 q) ∧ Hid (q = x)
theorem One7.mk {x q : Int} (h : q = x) : One7 x (.returned (.int .i64 q)) := ⟨q, rfl, Lib.hid h⟩
end Go.Proofs.Ytijnifbpbgckgaa
namespace Go.Proofs.Ytijnifbpbgckgaa
open Go.RowKit Go.Shelf

theorem opt_info : (Try.prog.info? 114).map (·.size) = some 2 := by kernel_rfl

set_option maxRecDepth 100000 in
theorem option_bad (A : Option Addr) (c : Nat) (l : List Int) (k : Nat) (w : World) (y : By w.heap.size w A l.length c l) (hk : k ≤ l.length) (hs : l.length ≤ 140737488355328) (hb : optBad l k) :
    Calls Try.prog 65 #[.slice A l.length c, .int .i64 (k : Int)] w fun e w' => e = .returned (.tuple #[.agg #[.int .u8 0, .slice none 0 0], .int .i64 0, .bool false]) ∧ Below w.heap.size w w' := by
  have hN : Has (w.alloc (.cells #[.int .u8 0, .slice none 0 0] 114)) w.heap.size (.cells #[.int .u8 0, .slice none 0 0] 114 (0, 0)) := Has.newAt rfl
  have hB : Below w.heap.size w ((w.alloc (.cells #[.int .u8 0, .slice none 0 0] 114)).setRow w.heap.size #[.int .u8 0, .slice none 0 0]) := ((Below.refl _ _).alloc (Nat.le_refl _) _).trans below_setRow'
  have y' := y.below ((Below.refl w.heap.size w).alloc (Nat.le_refl _) (.cells #[.int .u8 0, .slice none 0 0] 114)) (Nat.le_refl _)
  obtain ⟨n, hn⟩ : ∃ n, l.length = n := ⟨_, rfl⟩
  unfold optBad at hb
  rw [hn] at hb hk hs y y' ⊢
  have hin := y.rng
  by_cases h2 : n < k + 2
  case pos =>
    have h2' : (n : Int) - (k : Int) < 2 := by omega
    clear hb y y' hn
    go_enter Try.func65, Try.ntmps65
    go_wp2_with (refine wpList_store_row rfl 114 (.tmp 4) (.tmp 34) rfl w.heap.size _ rfl rfl 114 _ hN opt_info rfl (by simp [Value.oneCell']) ?_)
    exact bodyPost_ret (res_cell3 Try.results65 rfl (hN.setRow_same.load (P := Try.prog) 114 Try.underlying114 rfl opt_info) rfl rfl) rfl ⟨rfl, hB⟩
  case neg =>
  obtain ⟨b, off, hA, hbl, -⟩ := y.row.at_ (by omega)
  subst hA
  have d1 := y'.atO (k := k + 1) (by omega)
  have r1 := getD_rng4 hin (k + 1)
  obtain ⟨x1, hx1⟩ : ∃ x, l.getD (k + 1) 0 = x := ⟨_, rfl⟩
  rw [hx1] at d1 r1 hb
  have z1 : (k : Int) + 1 < (n : Int) := by omega
  have z2 : ¬ ((n : Int) - (k : Int) < 2) := by omega
  clear y y' hn
  by_cases h3 : x1 < 2
  case pos =>
    clear hb
    go_enter Try.func65, Try.ntmps65
    go_wp2_with (refine wpList_store_row rfl 114 (.tmp 4) (.tmp 34) rfl w.heap.size _ rfl rfl 114 _ hN opt_info rfl (by simp [Value.oneCell']) ?_)
    exact bodyPost_ret (res_cell3 Try.results65 rfl (hN.setRow_same.load (P := Try.prog) 114 Try.underlying114 rfl opt_info) rfl rfl) rfl ⟨rfl, hB⟩
  case neg =>
    have h4' : (n : Int) - (k : Int) < x1 := by omega
    clear hb
    go_enter Try.func65, Try.ntmps65
    go_wp2_with (refine wpList_store_row rfl 114 (.tmp 4) (.tmp 34) rfl w.heap.size _ rfl rfl 114 _ hN opt_info rfl (by simp [Value.oneCell']) ?_)
    exact bodyPost_ret (res_cell3 Try.results65 rfl (hN.setRow_same.load (P := Try.prog) 114 Try.underlying114 rfl opt_info) rfl rfl) rfl ⟨rfl, hB⟩

theorem add2_i64 {P : Program} (t : TypeId) (k : Nat) (h : k < 4611686018427387904) (w : World) : (binOp .add t (.int .i64 (k : Int)) (.int .i64 2)).run P w = .ok (.int .i64 ((k + 2 : Nat) : Int)) w := by
  go_simp
  exact IntWalk.i64_in _ (by omega)
/-- what the last region of option leans on -/
structure SO (w w' : World) : Prop where
  has : ∃ old, Has w' w.heap.size (.cells old 114 (0, 0)) ∧ old.size = 2
  bel : Below w.heap.size w w'
theorem SO.gt {w w' : World} (h : SO w w') : w.heap.size + 1 ≤ w'.heap.size := by
  obtain ⟨old, ho, _⟩ := h.has
  exact ho.lt
theorem SO.keep {w w' w'' : World} (h : SO w w') (hb : Below w'.heap.size w' w'') : SO w w'' := by
  obtain ⟨old, ho, hs⟩ := h.has
  exact ⟨⟨old, ho.below hb ho.lt, hs⟩, h.bel.trans (hb.mono h.bel.size)⟩
theorem SO.store {w w' w'' : World} {cs : Array Value} (h : SO w w') (hh : Has w'' w.heap.size (.cells cs 114 (0, 0))) (hb : Below w.heap.size w' w'') (hs : cs.size = 2) : SO w w'' := ⟨⟨cs, hh, hs⟩, h.bel.trans hb⟩

set_option maxRecDepth 100000 in
theorem option_ok (A : Option Addr) (c : Nat) (l : List Int) (k : Nat) (w : World) (y : By w.heap.size w A l.length c l) (hs : l.length ≤ 140737488355328) (hb : ¬ optBad l k) :
    Calls Try.prog 65 #[.slice A l.length c, .int .i64 (k : Int)] w fun e w' => (∃ p : Kd, e = .returned (.tuple #[.agg #[.int .u8 p.1, kdV p], .int .i64 ((k + optN l k : Nat) : Int), .bool true]) ∧ Hid ((p.1, p.2.2.2) = (l.getD k 0, optD l k)) ∧ OwnB w' w.heap.size (kdV p) p.2.2.2) ∧ Below w.heap.size w w' := by
  have hN : Has (w.alloc (.cells #[.int .u8 0, .slice none 0 0] 114)) w.heap.size (.cells #[.int .u8 0, .slice none 0 0] 114 (0, 0)) := Has.newAt rfl
  have hB : Below w.heap.size w (w.alloc (.cells #[.int .u8 0, .slice none 0 0] 114)) := (Below.refl _ _).alloc (Nat.le_refl _) _
  have y' := y.below hB (Nat.le_refl _)
  obtain ⟨n, hn⟩ : ∃ n, l.length = n := ⟨_, rfl⟩
  have hlen := (optD_len hb).1
  unfold optBad at hb
  rw [hn] at hb hs y y' ⊢
  have hin := y.rng
  obtain ⟨b, off, hA, hbl, -⟩ := y.row.at_ (by omega)
  subst hA
  have d0 := y'.atO (k := k) (by omega)
  have d0w := y.atO (k := k) (by omega)
  have d1 := y'.atO (k := k + 1) (by omega)
  have r0 := getD_rng4 hin k
  have r1 := getD_rng4 hin (k + 1)
  obtain ⟨x0, hx0⟩ : ∃ x, l.getD k 0 = x := ⟨_, rfl⟩
  obtain ⟨x1, hx1⟩ : ∃ x : Nat, l.getD (k + 1) 0 = (x : Int) := ⟨(l.getD (k + 1) 0).toNat, by omega⟩
  have hN' : optN l k = x1 := by unfold optN; rw [hx1]; omega
  rw [hx0] at d0 d0w r0 ⊢
  rw [hx1] at d1 r1 hb
  rw [hN'] at hlen ⊢
  obtain ⟨A', c', hsl, yd⟩ := By.mid y 25 Try.underlying25 (by kernel_rfl) (k := k + 2) (m := k + x1) (by omega) (by omega)
  have hD : (l.take (k + x1)).drop (k + 2) = optD l k := by unfold optD; rw [hN']
  rw [hD] at yd
  generalize optD l k = D at hlen yd ⊢
  have hDl : k + x1 - (k + 2) = D.length := by omega
  rw [hDl] at hsl yd
  have z0 : (k : Int) < (n : Int) := by omega
  have z1 : (k : Int) + 1 < (n : Int) := by omega
  have z2 : ¬ ((n : Int) - (k : Int) < 2) := by omega
  have z3 : ¬ ((x1 : Int) < 2) := by omega
  have z4 : ¬ ((n : Int) - (k : Int) < x1) := by omega
  have hDs : D.length ≤ 140737488355328 := by omega
  clear hb y y' hn hlen hN' hD hDl
  go_enter Try.func65, Try.ntmps65
  go_wp2
  have hS0 : SO w (w.alloc (.cells #[.int .u8 0, .slice none 0 0] 114)) := ⟨⟨_, hN, rfl⟩, hB⟩
  refine wp_region_held_drew (S := SO w) (by kernel_rfl) (hS0.keep (below_drew _ _)) (fun hS => ?_)
  -- REGION 4
  refine te 0 (.slice (some ⟨b, off, none⟩) n c) hS rfl (by intro _ _; exact rfl) ?_
  simp only [lay]
  refine te 1 (.int .i64 (k : Int)) hS rfl (by intro _ _; exact rfl) ?_
  simp only [lay]
  refine te 2 (.pointer (some ⟨b, off + k, none⟩)) hS rfl (by intro _ _; exact ex_index (by exact rfl) Try.underlying25 (by kernel_rfl) (by exact rfl) (by exact rfl) (by omega)) ?_
  simp only [lay]
  refine te 3 (.int .u8 x0) hS rfl (by intro _ h; exact ex_cell (by exact rfl) Try.underlying5 rfl (by exact rfl) (h.bel.cell (p := ⟨b, off + k, none⟩) hbl ▸ d0w)) ?_
  simp only [lay]
  refine te 4 (.slice (some ⟨b, off, none⟩) n c) hS rfl (by intro _ _; exact rfl) ?_
  simp only [lay]
  refine te 5 (.int .i64 (k : Int)) hS rfl (by intro _ _; exact rfl) ?_
  simp only [lay]
  refine te 6 (.int .i64 ((k + 2 : Nat) : Int)) hS rfl (by intro _ _; exact ex_bin (by exact rfl) (by exact rfl) (by exact rfl) (by decide) (add2_i64 _ _ (by omega) _)) ?_
  simp only [lay]
  refine te 7 (.int .i64 ((k + x1 : Nat) : Int)) hS rfl (by intro _ _; exact rfl) ?_
  simp only [lay]
  refine te 8 (.slice A' D.length c') hS rfl (by intro w' _; exact ex_slice (by exact rfl) (by exact rfl) (hsl w')) ?_
  simp only [lay]
  refine te 11 (.int .i64 ((k + x1 : Nat) : Int)) hS rfl (by intro _ _; exact rfl) ?_
  simp only [lay]
  refine tk_callx (i := 9) (fun v w' => OwnB w' (w.heap.size + 1) v D) (by kernel_rfl) rfl (by kernel_rfl) (by exact ex_call (by exact rfl) Try.func51 (by kernel_rfl) (by kernel_rfl) (by simp only [List.map_toArray, List.map_cons, List.map_nil] <;> rfl)) (by refine (clone_any A' c' D _ ((yd.below hS.bel (Nat.le_refl _)).more hS.bel.size) hDs).mono ?_; rintro e w' ⟨v, h1, h2, h3⟩; exact ⟨v, h1, h2.more hS.gt, hS.keep h3⟩) ?_
  rintro v3 W3 ho3 hS3
  obtain ⟨A3, k3, rfl, _⟩ := own_shape ho3.own
  simp only [lay]
  refine te 10 (.agg #[.int .u8 x0, .slice A3 D.length k3]) hS3 rfl (by intro _ _; go_simp) ?_
  simp only [lay]
  obtain ⟨old, hold, hold2⟩ := hS3.has
  refine tk_store (i := 12) (by kernel_rfl) rfl (by kernel_rfl) rfl rfl rfl hold opt_info hold2 (by simp [Value.oneCell']) (hS3.store hold.setRow_same below_setRow' rfl) ?_
  have hS4 := hS3.store hold.setRow_same (cs := #[.int .u8 x0, .slice A3 D.length k3]) below_setRow' rfl
  simp only [lay]
  refine te 13 (.int .i64 ((k + x1 : Nat) : Int)) hS4 rfl (by intro _ _; exact rfl) ?_
  simp only [lay]
  refine te 14 (.bool true) hS4 rfl (by intro _ _; exact rfl) ?_
  simp only [lay]
  refine wpAnyH_done (by kernel_rfl) ?_ _
  have hH4 := hold.setRow_same (cs' := #[.int .u8 x0, .slice A3 D.length k3])
  have ho4 := (ho3.setRow (g := w.heap.size) (cs := #[.int .u8 x0, .slice A3 D.length k3]) (Nat.lt_succ_self _)).more (Nat.le_succ _)
  go_wp2
  exact bodyPost_ret (res_cell3 Try.results65 rfl (hH4.load (P := Try.prog) 114 Try.underlying114 rfl opt_info) rfl rfl) rfl ⟨⟨(x0, A3, k3, D), rfl, Lib.hid rfl, ho4⟩, hS4.bel⟩
  -- END 4
end Go.Proofs.Ytijnifbpbgckgaa
