/-
  Lemmas and walks for the row of TofourPackets,TofourMessages,TofourInside (part 27 of 42).
-/
import Derived.Test.YtjnphelfloiadaaFpAG
import Derived.Test.YtjnphelfloiadaaFpAQ
import Derived.Test.YtjnphelfloiadaaFpAR
import Derived.Test.YtjnphelfloiadaaFpAS
import Derived.Test.YtjnphelfloiadaaFpAU
import Derived.Test.YtjnphelfloiadaaFpAW
import Derived.Test.YtjnphelfloiadaaFpAZ
import Derived.Laws.OwnMore
set_option linter.unusedVariables false
set_option linter.unusedSimpArgs false
namespace Go.Proofs.Ytjnphelfloiadaa
open Go.RowKit Go.Shelf

set_option maxRecDepth 100000 in
theorem rpart6_any (A : Option Addr) (c : Nat) (l : List Int) (w : World) (hy : By w.heap.size w A l.length c l) :
  Calls Try.prog 55 #[.slice A l.length c] w fun e w' => Told6 w.heap.size w' (got6 false l) ((g6 false l).pat : Int) (g6 false l).err e ∧ Below w.heap.size w w' := by
 have hV : Has (w.alloc (.cells z6cells 28)) w.heap.size (.cells z6cells 28 (0, 0)) := Has.newAt rfl
 have hB : Below w.heap.size w (w.alloc (.cells z6cells 28)) := (Below.refl _ _).alloc (Nat.le_refl _) _
 have hc := Lib.hid (rparse6_false A c l (w.alloc (.cells z6cells 28)) ((hy.below hB (Nat.le_refl _)).more hB.size))
 go_enter Try.func55, Try.ntmps55
 go_wp2_with fail
 refine hc.out.mono ?_
 rintro e w1 ⟨⟨p, a, s, rfl, h1, h2, h3⟩, hb⟩
 have hV := hV.below hb hV.lt
 have hlt : w.heap.size < (w.alloc (.cells z6cells 28)).heap.size := by simp
 clear hc
 go_wp2_with (refine wpList_store_row rfl 28 (.tmp 2) (.tmp 7) rfl w.heap.size _ rfl rfl 28 _ hV v6_info rfl (D6.cells_one _ _) ?_)
 exact bodyPost_ret (res_cell3 Try.results55 rfl (hV.setRow_same.load (P := Try.prog) 28 Try.underlying28 rfl v6_info) rfl rfl) rfl
  ⟨⟨p, a, s, rfl, h1, h2, (h3.setRow hlt).more hB.size⟩, hB.trans ((hb.mono hB.size).trans below_setRow')⟩
theorem write_err (d : D4) (p : W4) (w : World) (hl : d.ol.length ≤ 9223372036854775807) (hl2 : d.bl.length ≤ 9223372036854775807) (h0 : d.check ≠ 0) :
  Calls Try.prog 51 #[.agg (d.cells p)] w fun e w' => e = .returned (.tuple #[.slice none 0 0, .int .i64 d.check]) ∧ Below w.heap.size w w' := by
 have hB : Below w.heap.size w (w.alloc (.cells (d.cells p) 35)) := (Below.refl _ _).alloc (Nat.le_refl _) _
 have hcH := Lib.hid (size_any d p (w.alloc (.cells (d.cells p) 35)) hl hl2)
 have hcsH := Lib.hid (d.check_cases.resolve_left h0)
 clear h0
 go_enter Try.func51, Try.ntmps51
 go_wp2_with (refine wpList_load_row rfl 35 (.tmp 1) rfl w.heap.size rfl 35 (d.cells p) (0, 0) _ (World.alloc_heap_new _ _) Try.underlying35 rfl v4_info ?_)
 refine hcH.out.mono ?_
 rintro e w1 ⟨⟨q, r, s, rfl, hq⟩, hb1⟩
 clear hcH
 have hq2 : s = 45 ∨ s = 2 := by rw [hq.out.2.2]; exact hcsH.out
 rcases hq2 with rfl | rfl
 ·go_wp2
  go_ret2
  exact ⟨by rw [← hq.out.2.2]; rfl, hB.trans (hb1.mono hB.size)⟩
 ·go_wp2
  go_ret2
  exact ⟨by rw [← hq.out.2.2]; rfl, hB.trans (hb1.mono hB.size)⟩

theorem write_any (d : D4) (p : W4) (w : World) (hR : Rd4 w.heap.size w d p) :
  Calls Try.prog 51 #[.agg (d.cells p)] w fun e w' => ∃ v s, e = .returned (.tuple #[v, .int .i64 s]) ∧ Hid (s = d.check) ∧ OwnB w' w.heap.size v d.write ∧ Below w.heap.size w w' := by
 have b1 := Nat.le_trans hR.opt.cap hR.opt.big
 have b2 := Nat.le_trans hR.body.cap hR.body.big
 by_cases h0 : d.check = 0
 ·refine (write_ok d p w hR h0).mono ?_
  rintro e w' ⟨v, rfl, ho, hb⟩
  refine ⟨v, 0, rfl, Lib.hid h0.symm, ?_, hb⟩
  unfold D4.write
  rw [if_pos h0]
  exact ho
 ·refine (write_err d p w b1 b2 h0).mono ?_
  rintro e w' ⟨rfl, hb⟩
  refine ⟨_, _, rfl, Lib.hid rfl, ?_, hb⟩
  unfold D4.write
  rw [if_neg h0]
  exact OwnB.nil _ _
theorem OwnB.lit4 (w : World) (l : List Int) (n : Nat) (hl : InB l) (hn : n = l.length) (base : Nat) (hb : base ≤ w.heap.size) (hm : n ≤ 9223372036854775807) : OwnB (w.alloc (.cells (u8s l).toArray 5)) base (.slice (some ⟨w.heap.size, 0, none⟩) n n) l := by
 subst hn
 refine ⟨?_, hl⟩
 have h := World.ownsRow_lit (e := 5) (size := 1) w (u8s l).toArray l.length hb hm (by simp [u8s])
 simpa using h
theorem InB.pair {a b : Int} (ha : 0 ≤ a ∧ a ≤ 255) (hb : 0 ≤ b ∧ b ≤ 255) : InB [a, b] := fun x hx => by
 simp only [List.mem_cons, List.not_mem_nil, or_false] at hx
 omega

theorem two_any (n : Int) (h0 : 0 ≤ n) (h1 : n < 65536) (w : World) :
  Calls Try.prog 85 #[.int .i64 n] w fun e w' => ∃ A c, e = .returned (.slice A 2 c) ∧ By w'.heap.size w' A 2 c [n / 256, n % 256] ∧ Below w.heap.size w w' := by
 have hr : InB [n / 256, n % 256] := InB.pair (by omega) (by omega)
 go_enter Try.func85, Try.ntmps85
 go_wp2
 go_ret
 exact ⟨_, _, rfl, By.blk (t := 5) (fz := (0, 0)) (Has.newAt rfl) (Nat.le_refl _) hr (by simp) rfl rfl, (Below.refl _ _).alloc (Nat.le_refl _) _⟩

theorem D4.src_by {d : D4} (hd : d.ok) {p : W4} {w : World} {g : Nat} {t : TypeId} {fz : Nat × Nat} (h : Has w g (.cells (d.cells p) t fz)) : By w.heap.size w (some ⟨g, 7, none⟩) 4 4 d.src :=
 ⟨⟨rfl, Nat.le_refl _, fun _ => ⟨g, 7, rfl, h.lt, fun j hj => by
  match j, hj with
  | 0, _ => exact h.cell 7 rfl
  | 1, _ => exact h.cell 8 rfl
  | 2, _ => exact h.cell 9 rfl
  | 3, _ => exact h.cell 10 rfl⟩⟩, hd.src, by decide⟩
theorem D4.dst_by {d : D4} (hd : d.ok) {p : W4} {w : World} {g : Nat} {t : TypeId} {fz : Nat × Nat} (h : Has w g (.cells (d.cells p) t fz)) : By w.heap.size w (some ⟨g, 11, none⟩) 4 4 d.dst :=
 ⟨⟨rfl, Nat.le_refl _, fun _ => ⟨g, 11, rfl, h.lt, fun j hj => by
  match j, hj with
  | 0, _ => exact h.cell 11 rfl
  | 1, _ => exact h.cell 12 rfl
  | 2, _ => exact h.cell 13 rfl
  | 3, _ => exact h.cell 14 rfl⟩⟩, hd.dst, by decide⟩

structure Hd (w : World) (d : D4) (p : W4) (x : World) (v : Value) (l : List Int) : Prop where
 own : OwnB x (w.heap.size + 1) v l
 has : Has x w.heap.size (.cells (d.cells p) 35 (0, 0))
 bel : Below w.heap.size w x
 big : w.heap.size + 1 ≤ x.heap.size
theorem Hd.call {w : World} {d : D4} {p : W4} {x x' : World} {v : Value} {l : List Int} (h : Hd w d p x v l) (hb : Below x.heap.size x x') : Hd w d p x' v l :=
 ⟨h.own.below hb, h.has.below hb h.has.lt, h.bel.trans (hb.mono h.bel.size), Nat.le_trans h.big hb.size⟩
theorem Hd.alloc {w : World} {d : D4} {p : W4} {x : World} {v : Value} {l : List Int} (h : Hd w d p x v l) (o : Obj) : Hd w d p (x.alloc o) v l := h.call ((Below.refl _ _).alloc (Nat.le_refl _) o)
theorem Hd.app {w : World} {d : D4} {p : W4} {x x' : World} {v v' : Value} {l l' : List Int} (h : Hd w d p x v l) (ho : OwnB x' (w.heap.size + 1) v' l') (hg : x.grownBy x' v.ownBlock) : Hd w d p x' v' l' := by
 have hb := below_app h.own hg h.big
 exact ⟨ho, h.has.below hb (by omega), h.bel.trans (hb.mono (by omega)), Nat.le_trans h.big hg.size⟩

set_option maxRecDepth 100000 in
set_option maxHeartbeats 1000000 in
theorem rhead4_ok (d : D4) (p : W4) (w : World) (hR : Rd4 w.heap.size w d p) (h0 : d.check = 0) (s : Int) (hs : 0 ≤ s ∧ s < 65536) :
  Calls Try.prog 56 #[.agg (d.cells p), .int .i64 s] w fun e w' => ∃ v, e = .returned v ∧ OwnB w' w.heap.size v (d.first s ++ d.ol) ∧ Below w.heap.size w w' := by
 obtain ⟨h1, h2, h3, h4⟩ := d.ok_of_check h0
 have hB : Below w.heap.size w (w.alloc (.cells (d.cells p) 35)) := (Below.refl _ _).alloc (Nat.le_refl _) _
 have hH : Has (w.alloc (.cells (d.cells p) 35)) w.heap.size (.cells (d.cells p) 35 (0, 0)) := Has.newAt rfl
 have hW : (w.alloc (.cells (d.cells p) 35)).heap.size = w.heap.size + 1 := by simp
 obtain ⟨O, hO⟩ : ∃ O : Nat, d.ol.length = O := ⟨_, rfl⟩
 obtain ⟨M, hM⟩ : ∃ M : Nat, d.bl.length = M := ⟨_, rfl⟩
 have hO2 : O ≤ 40 := hO ▸ h2
 have hM2 : M ≤ 65515 := by omega
 have hOM := Lib.hid (show O + M ≤ 65515 by omega)
 obtain ⟨T, hT⟩ : ∃ T : Int, (20 + (O : Int)).tdiv 4 = T := ⟨_, rfl⟩
 have hT2 : T = (20 + (O : Int)) / 4 := by rw [← hT, Int.tdiv_eq_ediv_of_nonneg (by omega)]
 have hT3 : 5 ≤ T ∧ T ≤ 15 := by omega
 have hT2H := Lib.hid hT2
 have c0 := hH.cell 0 (v := .int .u8 d.tos) rfl
 have c1 := hH.cell 1 (v := .int .u16 d.id) rfl
 have c9 := hH.cell 15 (v := .slice p.oA O p.oc) (by rw [← hO]; rfl)
 have hr0 : InB [64 + T, d.tos] := InB.pair (by omega) hR.ok.tos
 have own0 : OwnB ((w.alloc (.cells (d.cells p) 35)).alloc (.cells #[.int .u8 (64 + T), .int .u8 d.tos] 5)) (w.heap.size + 1) (.slice (some ⟨w.heap.size + 1, 0, none⟩) 2 2) [64 + T, d.tos] := by
  have h := OwnB.lit4 (w.alloc (.cells (d.cells p) 35)) [64 + T, d.tos] 2 hr0 rfl (w.heap.size + 1) (by simp) (by decide)
  rw [hW] at h
  exact h
 have hB0 : Below w.heap.size w ((w.alloc (.cells (d.cells p) 35)).alloc (.cells #[.int .u8 (64 + T), .int .u8 d.tos] 5)) := hB.alloc (by simp) _
 have hH0 : Has ((w.alloc (.cells (d.cells p) 35)).alloc (.cells #[.int .u8 (64 + T), .int .u8 d.tos] 5)) w.heap.size (.cells (d.cells p) 35 (0, 0)) := hH.alloc
 have c10 := hH0.cell 16 (v := .slice p.bA M p.bc) (by rw [← hM]; rfl)
 have hOH := Lib.hid hO
 have hMH := Lib.hid hM
 have h0H := Lib.hid h0
 clear hO hM h0 h2 h3 h4 hT2
 go_enter Try.func56, Try.ntmps56
 go_wp2_with fail
 refine (two_any (20 + (O : Int) + M) (by omega) (by have := hOM.out; omega) _).mono ?_
 rintro e w1 ⟨A1, k1, rfl, y1, hb1⟩
 have s1 := (Hd.mk own0 hH0 hB0 (by simp)).call hb1
 have rid := hR.ok.id
 clear own0 hb1 hH0 hB0 hH hB c0 c9 c10
 go_wp2_with (at_builtin; refine wpList_appB _ rfl _ _ _ rfl Try.underlying26 info8 (w.heap.size + 1) _ _ rfl s1.own _ A1 2 k1 _ rfl y1 (by simp) s1.big ?_; intro v2 w2 own2 hg2 hat2; have s2 := s1.app own2 hg2; clear s1 own2 hg2 hat2 y1; have c1 := s2.has.cell 1 (v := .int .u16 d.id) rfl)
 refine (two_any d.id rid.1 rid.2 _).mono ?_
 rintro e w3 ⟨A3, k3, rfl, y3, hb3⟩
 have s3 := s2.call hb3
 clear s2 c1 hb3
 cases hdf : d.df <;> cases hmf : d.mf
 all_goals
  go_wp2_with (at_builtin; (refine wpList_appB _ rfl _ _ _ rfl Try.underlying26 info8 (w.heap.size + 1) _ _ rfl s3.own _ A3 2 k3 _ rfl y3 (by simp [D4.src, D4.dst]; try omega) s3.big ?_; intro v4 w4 own4 hg4 hat4; have s4 := s3.app own4 hg4; clear own4 hg4 hat4; have c4 := s4.has.cell 4 (v := .int .i64 d.off) rfl; have c2 := s4.has.cell 2 (v := .bool d.df) rfl; have c3 := s4.has.cell 3 (v := .bool d.mf) rfl; rw [hdf] at c2; rw [hmf] at c3))
  refine (two_any _ ?_ ?_ _).mono ?_
  ·omega
  ·omega
  rintro e w5 ⟨A5, k5, rfl, y5, hb5⟩
  have s5 := s4.call hb5
  clear s3 y3 s4 c2 c3 c4 hb5
  go_wp2_with (at_builtin; first
   | (refine wpList_appB _ rfl _ _ _ rfl Try.underlying26 info8 (w.heap.size + 1) _ _ rfl s5.own _ A5 2 k5 _ rfl y5 (by simp [D4.src, D4.dst]; try omega) s5.big ?_; intro v6 w6 own6 hg6 hat6; have s6 := s5.app own6 hg6; clear own6 hg6 hat6; have c5 := s6.has.cell 5 (v := .int .u8 d.ttl) rfl; have c6 := s6.has.cell 6 (v := .int .u8 d.proto) rfl)
   | (refine wpList_appB _ rfl _ _ _ rfl Try.underlying26 info8 (w.heap.size + 1) _ _ rfl (s6.alloc _).own _ (some ⟨w6.heap.size, 0, none⟩) 2 2 _ rfl (By.blk (l := [d.ttl, d.proto]) (t := 5) (fz := (0, 0)) (Has.newAt rfl) (Nat.le_refl _) (InB.pair hR.ok.ttl hR.ok.proto) (by simp) rfl rfl) (by simp [D4.src, D4.dst]; try omega) (s6.alloc _).big ?_; intro v7 w7 own7 hg7 hat7; have s7 := (s6.alloc _).app own7 hg7; clear own7 hg7 hat7))
  refine (two_any s hs.1 hs.2 _).mono ?_
  rintro e w8 ⟨A8, k8, rfl, y8, hb8⟩
  have s8 := s7.call hb8
  clear s5 s6 s7 c5 c6 hb8 y5
  go_wp2_with (at_builtin; first
   | (refine wpList_appB _ rfl _ _ _ rfl Try.underlying26 info8 (w.heap.size + 1) _ _ rfl s8.own _ A8 2 k8 _ rfl y8 (by simp [D4.src, D4.dst]; try omega) s8.big ?_; intro v9 w9 own9 hg9 hat9; have s9 := s8.app own9 hg9; clear own9 hg9 hat9)
   | (refine wpList_appB _ rfl _ _ _ rfl Try.underlying26 info8 (w.heap.size + 1) _ _ rfl s9.own _ (some ⟨w.heap.size, 7, none⟩) 4 4 _ rfl (D4.src_by hR.ok s9.has) (by simp [D4.src, D4.dst]; try omega) s9.big ?_; intro v10 w10 own10 hg10 hat10; have s10 := s9.app own10 hg10; clear own10 hg10 hat10)
   | (refine wpList_appB _ rfl _ _ _ rfl Try.underlying26 info8 (w.heap.size + 1) _ _ rfl s10.own _ (some ⟨w.heap.size, 11, none⟩) 4 4 _ rfl (D4.dst_by hR.ok s10.has) (by simp [D4.src, D4.dst]; try omega) s10.big ?_; intro v11 w11 own11 hg11 hat11; have s11 := s10.app own11 hg11; clear own11 hg11 hat11; have c15 := s11.has.cell 15 (v := .slice p.oA O p.oc) (by rw [← hOH.out]; rfl))
   | (refine wpList_appB _ rfl _ _ _ rfl Try.underlying26 info8 (w.heap.size + 1) _ _ rfl s11.own _ p.oA O p.oc _ rfl (hOH.out ▸ hR.opt.below s11.bel (Nat.le_refl _)) (by simp [D4.src, D4.dst]; try omega) s11.big ?_; intro v12 w12 own12 hg12 hat12; have s12 := s11.app own12 hg12; clear own12 hg12 hat12))
  go_ret
  have hl : [64 + T, d.tos] ++ [(20 + (O : Int) + M) / 256, (20 + (O : Int) + M) % 256] ++ [d.id / 256, d.id % 256] ++ [d.offw / 256, d.offw % 256] ++ [d.ttl, d.proto] ++ [s / 256, s % 256] ++ d.src ++ d.dst ++ d.ol = d.first s ++ d.ol := by
   simp [D4.first, D4.src, D4.dst, D4.hl, hT2H.out, hOH.out, hMH.out]
  have ho : d.offw = d.off + (if d.df then 16384 else 0) + (if d.mf then 8192 else 0) := rfl
  rw [hdf, hmf] at ho
  simp at ho
  rw [← hl, ho]
  exact ⟨_, rfl, s12.own.more (by omega), s12.bel⟩
theorem Own6.to {w w' : World} {base : Nat} {D : D6} {p : W6} (h : Own6 w base D p) (b : Below w.heap.size w w') : Own6 w' base D p := h.below b
theorem ppart6_x {A : Option Addr} {n c : Nat} {l : List Int} {w : World} (y : By w.heap.size w A n c l) :
  Calls Try.prog 48 #[.slice A n c] w fun e w' => ∃ v, e = .returned v ∧ (∃ p, v = .tuple #[.agg ((got6 false l).cells p), .int .i64 ((g6 false l).pat : Int), .int .i64 (g6 false l).err] ∧ Own6 w' w.heap.size (got6 false l) p) ∧ Below w.heap.size w w' := by
 obtain rfl := y.len
 refine (ppart6_any A c l w y).mono fun e w' h => ?_
 obtain ⟨⟨p, a', s', rfl, ha, hs, ho⟩, hb⟩ := h
 exact ⟨_, rfl, ⟨p, by rw [ha.out, hs.out], ho⟩, hb⟩
theorem rpart6_x {A : Option Addr} {n c : Nat} {l : List Int} {w : World} (y : By w.heap.size w A n c l) :
  Calls Try.prog 55 #[.slice A n c] w fun e w' => ∃ v, e = .returned v ∧ (∃ p, v = .tuple #[.agg ((got6 false l).cells p), .int .i64 ((g6 false l).pat : Int), .int .i64 (g6 false l).err] ∧ Own6 w' w.heap.size (got6 false l) p) ∧ Below w.heap.size w w' := by
 obtain rfl := y.len
 refine (rpart6_any A c l w y).mono fun e w' h => ?_
 obtain ⟨⟨p, a', s', rfl, ha, hs, ho⟩, hb⟩ := h
 exact ⟨_, rfl, ⟨p, by rw [ha.out, hs.out], ho⟩, hb⟩
theorem size6_x {d : D6} {p : W6} {w : World} (hR : Rd6 w.heap.size w d p) (h0 : d.check = 0) :
  Calls Try.prog 49 #[.agg (d.cells p)] w fun e w' => ∃ v, e = .returned v ∧ v = .tuple #[.int .i64 d.all, .int .i64 (d.ahead : Int), .int .i64 0] ∧ Below w.heap.size w w' := by
 refine (size6_any d p w hR).mono fun e w' h => ?_
 obtain ⟨⟨q, r, s, rfl, hq⟩, hb⟩ := h
 have e2 : d.headI = (d.ahead : Int) := by unfold D6.headI; rw [if_pos h0]
 exact ⟨_, rfl, by rw [hq.out.1, hq.out.2.1, hq.out.2.2, e2, h0], hb⟩
theorem write4_x {d : D4} {p : W4} {w : World} (hR : Rd4 w.heap.size w d p) (h0 : d.check = 0) :
  Calls Try.prog 51 #[.agg (d.cells p)] w fun e w' => ∃ v, e = .returned v ∧ (∃ u, v = .tuple #[u, .int .i64 0] ∧ OwnB w' w.heap.size u d.write) ∧ Below w.heap.size w w' := by
 refine (write_any d p w hR).mono fun e w' h => ?_
 obtain ⟨u, s, rfl, hs, ho, hb⟩ := h
 exact ⟨_, rfl, ⟨u, by rw [hs.out, h0], ho⟩, hb⟩
theorem rhead4_x {d : D4} {p : W4} {w : World} (hR : Rd4 w.heap.size w d p) (h0 : d.check = 0) (hl : d.ol = []) :
  Calls Try.prog 56 #[.agg (d.cells p), .int .i64 0] w fun e w' => ∃ v, e = .returned v ∧ OwnB w' w.heap.size v (d.first 0) ∧ Below w.heap.size w w' := by
 refine (rhead4_ok d p w hR h0 0 (by decide)).mono fun e w' h => ?_
 obtain ⟨u, rfl, ho, hb⟩ := h
 rw [hl, List.append_nil] at ho
 exact ⟨_, rfl, ho, hb⟩
theorem of1 {g n c : Nat} {A : Option Addr} {l : List Int} {w : World} (h : Has w g (.cells #[.slice A n c] 26 (0, 0))) (y : By w.heap.size w A n c l) :
  Calls Try.prog 53 #[.slice (some ⟨g, 0, none⟩) 1 1] w fun e w' => ∃ v, e = .returned v ∧ (∃ q, v = .int .u16 q ∧ q = 65535 - sumw l ∧ 0 ≤ q ∧ q < 65536) ∧ Below w.heap.size w w' := by
 obtain rfl := y.len
 have hs := sumw_rng _ y.rng
 have hf : flat [(A, c, l)] = l := by simp [flat]
 refine (of_any (some ⟨g, 0, none⟩) 1 [(A, c, l)] w (Parts.of1 (A, c, l) h.lt (h.cell 0 rfl) y)).mono fun e w' h => ?_
 rw [hf] at h
 exact ⟨_, h.1, ⟨_, rfl, rfl, by omega, by omega⟩, h.2⟩
theorem rof1 {g n c : Nat} {A : Option Addr} {l : List Int} {w : World} (h : Has w g (.cells #[.slice A n c] 26 (0, 0))) (y : By w.heap.size w A n c l) (hb : n ≤ 8796093022208) :
  Calls Try.prog 57 #[.slice (some ⟨g, 0, none⟩) 1 1] w fun e w' => ∃ v, e = .returned v ∧ (∃ q, v = .int .u16 q ∧ q = 65535 - sumw l ∧ 0 ≤ q ∧ q < 65536) ∧ Below w.heap.size w w' := by
 obtain rfl := y.len
 have hs := sumw_rng _ y.rng
 have hf : flat [(A, c, l)] = l := by simp [flat]
 refine (rof_any (some ⟨g, 0, none⟩) 1 [(A, c, l)] w (Parts.of1 (A, c, l) h.lt (h.cell 0 rfl) y) (by rw [hf]; exact hb)).mono fun e w' h => ?_
 rw [hf] at h
 exact ⟨_, h.1, ⟨_, rfl, rfl, by omega, by omega⟩, h.2⟩
theorem iparse6_x {a b : List Int} (ha : a.length = 16) (hb : b.length = 16) (ra : InB a) (rb : InB b) {A : Option Addr} {n c : Nat} {l : List Int} {w : World} (y : By w.heap.size w A n c l) :
  Calls Try.prog 32 #[.agg (u8s (l16 a)).toArray, .agg (u8s (l16 b)).toArray, .slice A n c] w fun e w' => ∃ v, e = .returned v ∧ (∃ A' c', v = .tuple #[.agg ((parse7 l (pse6 a b l.length 58)).cells A' c'), .int .i64 (perr7 l (pse6 a b l.length 58))] ∧ (parse7 l (pse6 a b l.length 58)).ok ∧ OwnB w' w.heap.size (.slice A' (parse7 l (pse6 a b l.length 58)).bl.length c') (parse7 l (pse6 a b l.length 58)).bl) ∧ Below w.heap.size w w' := by
 obtain rfl := y.len
 rw [u8s_16 ha, u8s_16 hb]
 refine (iparse6_any a b ha hb ra rb A c l w y).mono fun e w' h => ?_
 obtain ⟨⟨A', c', s', rfl, hs, hk, ho⟩, hb⟩ := h
 exact ⟨_, rfl, ⟨A', c', by rw [hs.out], hk, ho⟩, hb⟩
theorem iwrite4_x {d : D7} {A : Option Addr} {c : Nat} {w : World} (hR : Rd7 w.heap.size w d A c) :
  Calls Try.prog 33 #[.agg (d.cells A c)] w fun e w' => ∃ v, e = .returned v ∧ (∃ u, v = .tuple #[u, .int .i64 d.err] ∧ OwnB w' w.heap.size u (d.write [])) ∧ Below w.heap.size w w' := by
 refine (iwrite4_any d A c w hR).mono fun e w' h => ?_
 obtain ⟨u, s', rfl, hs, ho, hB⟩ := h
 exact ⟨_, rfl, ⟨u, by rw [hs.out], ho⟩, hB⟩
theorem head18_rd0 {w : World} {d : D6} (hd : d.ok) {s t : List Int} (hE : E4ok s t) : Rd4 w.heap.size w (head18 d s t []) ⟨none, 0, none, 0⟩ := ⟨head18_ok hd hE, By.nil _ _ none (Nat.zero_le _), By.nil _ _ none (Nat.zero_le _)⟩
end Go.Proofs.Ytjnphelfloiadaa
