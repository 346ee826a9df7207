/-
  Lemmas and walks for the row of TofourTells (part 23 of 37).
-/
import Derived.Test.YtjnphelfloiadaaFtAF
import Derived.Test.YtjnphelfloiadaaFtAG
import Derived.Test.YtjnphelfloiadaaFtAI
import Derived.Test.YtjnphelfloiadaaFtAK
import Derived.Test.YtjnphelfloiadaaFtAP
import Derived.Test.YtjnphelfloiadaaFtAQ
import Derived.Test.YtjnphelfloiadaaFtAR
import Derived.Test.YtjnphelfloiadaaFtAV
import Derived.Laws.OwnMore
set_option linter.unusedVariables false
set_option linter.unusedSimpArgs false
namespace Go.Proofs.Ytjnphelfloiadaa
open Go.RowKit Go.Shelf

set_option maxRecDepth 100000 in
theorem rpart6_any (A : Option Addr) (c : Nat) (l : List Int) (w : World) (hy : By w.heap.size w A l.length c l) :
  Calls Try.prog 55 #[.slice A l.length c] w fun e w' => Told6 w.heap.size w' (got6 false l) ((g6 false l).pat : Int) (g6 false l).err e ∧ Below w.heap.size w w' := by
 have hV : Has (w.alloc (.cells z6cells 28)) w.heap.size (.cells z6cells 28 (0, 0)) := Has.newAt rfl
 have hB : Below w.heap.size w (w.alloc (.cells z6cells 28)) := (Below.refl _ _).alloc (Nat.le_refl _) _
 have hc := Lib.hid (rparse6_false A c l (w.alloc (.cells z6cells 28)) ((hy.below hB (Nat.le_refl _)).more hB.size))
 go_enter Try.func55, Try.ntmps55
 go_wp2_with fail
 refine hc.out.mono ?_
 rintro e w1 ⟨⟨p, a, s, rfl, h1, h2, h3⟩, hb⟩
 have hV := hV.below hb hV.lt
 have hlt : w.heap.size < (w.alloc (.cells z6cells 28)).heap.size := by simp
 clear hc
 go_wp2_with (refine wpList_store_row rfl 28 (.tmp 2) (.tmp 7) rfl w.heap.size _ rfl rfl 28 _ hV v6_info rfl (D6.cells_one _ _) ?_)
 exact bodyPost_ret (res_cell3 Try.results55 rfl (hV.setRow_same.load (P := Try.prog) 28 Try.underlying28 rfl v6_info) rfl rfl) rfl
  ⟨⟨p, a, s, rfl, h1, h2, (h3.setRow hlt).more hB.size⟩, hB.trans ((hb.mono hB.size).trans below_setRow')⟩
end Go.Proofs.Ytjnphelfloiadaa
namespace Go.Proofs.Ytjnphelfloiadaa
open Go.RowKit Go.Shelf

theorem write_err (d : D4) (p : W4) (w : World) (hl : d.ol.length ≤ 9223372036854775807) (hl2 : d.bl.length ≤ 9223372036854775807) (h0 : d.check ≠ 0) :
  Calls Try.prog 51 #[.agg (d.cells p)] w fun e w' => e = .returned (.tuple #[.slice none 0 0, .int .i64 d.check]) ∧ Below w.heap.size w w' := by
 have hB : Below w.heap.size w (w.alloc (.cells (d.cells p) 35)) := (Below.refl _ _).alloc (Nat.le_refl _) _
 have hcH := Lib.hid (size_any d p (w.alloc (.cells (d.cells p) 35)) hl hl2)
 have hcsH := Lib.hid (d.check_cases.resolve_left h0)
 clear h0
 go_enter Try.func51, Try.ntmps51
 go_wp2_with (refine wpList_load_row rfl 35 (.tmp 1) rfl w.heap.size rfl 35 (d.cells p) (0, 0) _ (World.alloc_heap_new _ _) Try.underlying35 rfl v4_info ?_)
 refine hcH.out.mono ?_
 rintro e w1 ⟨⟨q, r, s, rfl, hq⟩, hb1⟩
 clear hcH
 have hq2 : s = 45 ∨ s = 2 := by rw [hq.out.2.2]; exact hcsH.out
 rcases hq2 with rfl | rfl
 ·go_wp2
  go_ret2
  exact ⟨by rw [← hq.out.2.2]; rfl, hB.trans (hb1.mono hB.size)⟩
 ·go_wp2
  go_ret2
  exact ⟨by rw [← hq.out.2.2]; rfl, hB.trans (hb1.mono hB.size)⟩

/-- what Write answers -/
theorem write_any (d : D4) (p : W4) (w : World) (hR : Rd4 w.heap.size w d p) :
  Calls Try.prog 51 #[.agg (d.cells p)] w fun e w' => ∃ v s, e = .returned (.tuple #[v, .int .i64 s]) ∧ Hid (s = d.check) ∧ OwnB w' w.heap.size v d.write ∧ Below w.heap.size w w' := by
 have b1 := Nat.le_trans hR.opt.cap hR.opt.big
 have b2 := Nat.le_trans hR.body.cap hR.body.big
 by_cases h0 : d.check = 0
 ·refine (write_ok d p w hR h0).mono ?_
  rintro e w' ⟨v, rfl, ho, hb⟩
  refine ⟨v, 0, rfl, Lib.hid h0.symm, ?_, hb⟩
  unfold D4.write
  rw [if_pos h0]
  exact ho
 ·refine (write_err d p w b1 b2 h0).mono ?_
  rintro e w' ⟨rfl, hb⟩
  refine ⟨_, _, rfl, Lib.hid rfl, ?_, hb⟩
  unfold D4.write
  rw [if_neg h0]
  exact OwnB.nil _ _
end Go.Proofs.Ytjnphelfloiadaa
namespace Go.Proofs.Ytjnphelfloiadaa
open Go.RowKit Go.Shelf

/-- where Head stands: its own bytes so far, the datagram's block, what lay before -/
structure Hd (w : World) (d : D4) (p : W4) (x : World) (v : Value) (l : List Int) : Prop where
 own : OwnB x (w.heap.size + 1) v l
 has : Has x w.heap.size (.cells (d.cells p) 35 (0, 0))
 bel : Below w.heap.size w x
 big : w.heap.size + 1 ≤ x.heap.size
theorem Hd.call {w : World} {d : D4} {p : W4} {x x' : World} {v : Value} {l : List Int} (h : Hd w d p x v l) (hb : Below x.heap.size x x') : Hd w d p x' v l :=
 ⟨h.own.below hb, h.has.below hb h.has.lt, h.bel.trans (hb.mono h.bel.size), Nat.le_trans h.big hb.size⟩
theorem Hd.alloc {w : World} {d : D4} {p : W4} {x : World} {v : Value} {l : List Int} (h : Hd w d p x v l) (o : Obj) : Hd w d p (x.alloc o) v l := h.call ((Below.refl _ _).alloc (Nat.le_refl _) o)
theorem Hd.app {w : World} {d : D4} {p : W4} {x x' : World} {v v' : Value} {l l' : List Int} (h : Hd w d p x v l) (ho : OwnB x' (w.heap.size + 1) v' l') (hg : x.grownBy x' v.ownBlock) : Hd w d p x' v' l' := by
 have hb := below_app h.own hg h.big
 exact ⟨ho, h.has.below hb (by omega), h.bel.trans (hb.mono (by omega)), Nat.le_trans h.big hg.size⟩

end Go.Proofs.Ytjnphelfloiadaa
namespace Go.Proofs.Ytjnphelfloiadaa
open Go.RowKit Go.Shelf

theorem Own6.to {w w' : World} {base : Nat} {D : D6} {p : W6} (h : Own6 w base D p) (b : Below w.heap.size w w') : Own6 w' base D p := h.below b
theorem ppart6_x {A : Option Addr} {n c : Nat} {l : List Int} {w : World} (y : By w.heap.size w A n c l) :
  Calls Try.prog 48 #[.slice A n c] w fun e w' => ∃ v, e = .returned v ∧ (∃ p, v = .tuple #[.agg ((got6 false l).cells p), .int .i64 ((g6 false l).pat : Int), .int .i64 (g6 false l).err] ∧ Own6 w' w.heap.size (got6 false l) p) ∧ Below w.heap.size w w' := by
 obtain rfl := y.len
 refine (ppart6_any A c l w y).mono fun e w' h => ?_
 obtain ⟨⟨p, a', s', rfl, ha, hs, ho⟩, hb⟩ := h
 exact ⟨_, rfl, ⟨p, by rw [ha.out, hs.out], ho⟩, hb⟩
theorem rpart6_x {A : Option Addr} {n c : Nat} {l : List Int} {w : World} (y : By w.heap.size w A n c l) :
  Calls Try.prog 55 #[.slice A n c] w fun e w' => ∃ v, e = .returned v ∧ (∃ p, v = .tuple #[.agg ((got6 false l).cells p), .int .i64 ((g6 false l).pat : Int), .int .i64 (g6 false l).err] ∧ Own6 w' w.heap.size (got6 false l) p) ∧ Below w.heap.size w w' := by
 obtain rfl := y.len
 refine (rpart6_any A c l w y).mono fun e w' h => ?_
 obtain ⟨⟨p, a', s', rfl, ha, hs, ho⟩, hb⟩ := h
 exact ⟨_, rfl, ⟨p, by rw [ha.out, hs.out], ho⟩, hb⟩
theorem size6_x {d : D6} {p : W6} {w : World} (hR : Rd6 w.heap.size w d p) (h0 : d.check = 0) :
  Calls Try.prog 49 #[.agg (d.cells p)] w fun e w' => ∃ v, e = .returned v ∧ v = .tuple #[.int .i64 d.all, .int .i64 (d.ahead : Int), .int .i64 0] ∧ Below w.heap.size w w' := by
 refine (size6_any d p w hR).mono fun e w' h => ?_
 obtain ⟨⟨q, r, s, rfl, hq⟩, hb⟩ := h
 have e2 : d.headI = (d.ahead : Int) := by unfold D6.headI; rw [if_pos h0]
 exact ⟨_, rfl, by rw [hq.out.1, hq.out.2.1, hq.out.2.2, e2, h0], hb⟩
theorem write4_x {d : D4} {p : W4} {w : World} (hR : Rd4 w.heap.size w d p) (h0 : d.check = 0) :
  Calls Try.prog 51 #[.agg (d.cells p)] w fun e w' => ∃ v, e = .returned v ∧ (∃ u, v = .tuple #[u, .int .i64 0] ∧ OwnB w' w.heap.size u d.write) ∧ Below w.heap.size w w' := by
 refine (write_any d p w hR).mono fun e w' h => ?_
 obtain ⟨u, s, rfl, hs, ho, hb⟩ := h
 exact ⟨_, rfl, ⟨u, by rw [hs.out, h0], ho⟩, hb⟩
theorem of1 {g n c : Nat} {A : Option Addr} {l : List Int} {w : World} (h : Has w g (.cells #[.slice A n c] 26 (0, 0))) (y : By w.heap.size w A n c l) :
  Calls Try.prog 53 #[.slice (some ⟨g, 0, none⟩) 1 1] w fun e w' => ∃ v, e = .returned v ∧ (∃ q, v = .int .u16 q ∧ q = 65535 - sumw l ∧ 0 ≤ q ∧ q < 65536) ∧ Below w.heap.size w w' := by
 obtain rfl := y.len
 have hs := sumw_rng _ y.rng
 have hf : flat [(A, c, l)] = l := by simp [flat]
 refine (of_any (some ⟨g, 0, none⟩) 1 [(A, c, l)] w (Parts.of1 (A, c, l) h.lt (h.cell 0 rfl) y)).mono fun e w' h => ?_
 rw [hf] at h
 exact ⟨_, h.1, ⟨_, rfl, rfl, by omega, by omega⟩, h.2⟩
theorem iparse6_x {a b : List Int} (ha : a.length = 16) (hb : b.length = 16) (ra : InB a) (rb : InB b) {A : Option Addr} {n c : Nat} {l : List Int} {w : World} (y : By w.heap.size w A n c l) :
  Calls Try.prog 32 #[.agg (u8s (l16 a)).toArray, .agg (u8s (l16 b)).toArray, .slice A n c] w fun e w' => ∃ v, e = .returned v ∧ (∃ A' c', v = .tuple #[.agg ((parse7 l (pse6 a b l.length 58)).cells A' c'), .int .i64 (perr7 l (pse6 a b l.length 58))] ∧ (parse7 l (pse6 a b l.length 58)).ok ∧ OwnB w' w.heap.size (.slice A' (parse7 l (pse6 a b l.length 58)).bl.length c') (parse7 l (pse6 a b l.length 58)).bl) ∧ Below w.heap.size w w' := by
 obtain rfl := y.len
 rw [u8s_16 ha, u8s_16 hb]
 refine (iparse6_any a b ha hb ra rb A c l w y).mono fun e w' h => ?_
 obtain ⟨⟨A', c', s', rfl, hs, hk, ho⟩, hb⟩ := h
 exact ⟨_, rfl, ⟨A', c', by rw [hs.out], hk, ho⟩, hb⟩
theorem iwrite4_x {d : D7} {A : Option Addr} {c : Nat} {w : World} (hR : Rd7 w.heap.size w d A c) :
  Calls Try.prog 33 #[.agg (d.cells A c)] w fun e w' => ∃ v, e = .returned v ∧ (∃ u, v = .tuple #[u, .int .i64 d.err] ∧ OwnB w' w.heap.size u (d.write [])) ∧ Below w.heap.size w w' := by
 refine (iwrite4_any d A c w hR).mono fun e w' h => ?_
 obtain ⟨u, s', rfl, hs, ho, hB⟩ := h
 exact ⟨_, rfl, ⟨u, by rw [hs.out], ho⟩, hB⟩
theorem head18_rd0 {w : World} {d : D6} (hd : d.ok) {s t : List Int} (hE : E4ok s t) : Rd4 w.heap.size w (head18 d s t []) ⟨none, 0, none, 0⟩ := ⟨head18_ok hd hE, By.nil _ _ none (Nat.zero_le _), By.nil _ _ none (Nat.zero_le _)⟩
end Go.Proofs.Ytjnphelfloiadaa
namespace Go.Proofs.Ytjnphelfloiadaa
open Go.RowKit Go.Shelf

/-- a panic with an error's number -/
def Fault18 (s : Int) : Ending := .panicked [{ v := .iface 36 (.int .i64 s), recovered := false }]
def side18 (d : D6) : Ending := if routed18 d.hs = true then Fault18 170 else if wrong18 d.pro = true then Fault18 171 else .returned (.tuple #[])
theorem must18_no (w : World) : Calls Try.prog 28 #[.int .i64 0] w fun e w' => e = .returned (.tuple #[]) ∧ w = w' := by
 go_enter Try.func28, Try.ntmps28
 go_wp2
 go_end0
 exact ⟨rfl, rfl⟩
theorem must18_yes (s : Int) (h : s ≠ 0) (w : World) : Calls Try.prog 28 #[.int .i64 s] w fun e w' => e = Fault18 s ∧ w = w' := by
 have hb : (s != 0) = true := by simpa using h
 go_enter Try.func28, Try.ntmps28
 go_wp2
 exact ⟨rfl, rfl, rfl⟩
theorem routed_cons (h : Int × List Int) (t : List (Int × List Int)) : routed18 (h :: t) = (rt18 h || routed18 t) := rfl
theorem okH_hd18 {k : Nat} {h : Int × List Int} {t : List (Int × List Int)} (ho : okH k (h :: t) = true) : 6 ≤ h.2.length ∧ okH (k + 1) t = true := by
 rw [okH_cons, Bool.and_eq_true] at ho
 refine ⟨?_, ho.2⟩
 have hb := ho.1
 unfold badH at hb
 simp only [Bool.not_eq_true', Bool.or_eq_false_iff, decide_eq_false_iff_not] at hb
 omega

set_option maxRecDepth 100000 in
set_option maxHeartbeats 4000000 in
theorem side18_any (d : D6) (p : W6) (w : World) (hR : Rd6 w.heap.size w d p) (hok : okH 0 d.hs = true) :
  Calls Try.prog 30 #[.agg (d.cells p)] w fun e w' => Hid (e = side18 d) ∧ Below w.heap.size w w' := by
 obtain ⟨hA, hc, ps, bA, bc⟩ := p
 have hB : Below w.heap.size w (w.alloc (.cells (d.cells ⟨hA, hc, ps, bA, bc⟩) 28)) := (Below.refl _ _).alloc (Nat.le_refl _) _
 have hH : Has (w.alloc (.cells (d.cells ⟨hA, hc, ps, bA, bc⟩) 28)) w.heap.size (.cells (d.cells ⟨hA, hc, ps, bA, bc⟩) 28 (0, 0)) := Has.newAt rfl
 obtain ⟨W1, hW1⟩ : ∃ W, w.alloc (.cells (d.cells ⟨hA, hc, ps, bA, bc⟩) 28) = W := ⟨_, rfl⟩
 obtain ⟨E, hE⟩ : ∃ E, side18 d = E := ⟨_, rfl⟩
 rw [hE]
 obtain ⟨V, hV⟩ : ∃ V, routed18 d.hs = V := ⟨_, rfl⟩
 obtain ⟨P, hP⟩ : ∃ P, d.pro = P := ⟨_, rfl⟩
 unfold side18 at hE
 rw [hV, hP] at hE
 obtain ⟨M, hM⟩ : ∃ M, d.hs.length = M := ⟨_, rfl⟩
 have K := hR.hd.below hB (Nat.le_refl _)
 have hkl : kdL ps = d.hs := hR.hl
 dsimp only at K
 rw [hW1] at hB hH K
 have c35 := hH.cell 35 (v := .slice hA d.hs.length hc) rfl
 rw [hM] at K c35
 have hMc := Nat.le_trans K.cap K.big
 have hMn := K.len
 have hV0 : Hid (routed18 (d.hs.drop 0) = V) := Lib.hid (by rw [List.drop_zero, hV])
 have hO0 : Hid (okH 0 (d.hs.drop 0) = true) := Lib.hid (by rw [List.drop_zero]; exact hok)
 have hMH := Lib.hid hM
 have hMnH := Lib.hid hMn
 have hEH := Lib.hid hE
 have hPH := Lib.hid hP
 clear hV hM hMn hE hP hok
 go_enter Try.func30, Try.ntmps30
 go_wp2
 go_loopw [7] (fun i wr => ∃ k : Nat, k ≤ M ∧ i = .int .i64 k ∧ Hid (routed18 (d.hs.drop k) = V) ∧ Hid (okH k (d.hs.drop k) = true) ∧ Below W1.heap.size W1 wr) (fun i _ => M - (intOf i).toNat)
 case atStart => exact ⟨0, Nat.zero_le _, rfl, hV0, hO0, Below.refl _ _⟩
 case round =>
  obtain ⟨k, hk, rfl, hV, hO, hBr⟩ := hrel
  rename_i wr _
  have hBw := hB.trans (hBr.mono hB.size)
  have hH1 := hH.below hBr hH.lt
  by_cases hkM : k < M
  case neg =>
   have hge : ¬ ((k : Int) < (M : Int)) := by omega
   obtain rfl : V = false := by rw [← hV.out, List.drop_of_length_le (by rw [hMH.out]; omega)]; rfl
   have c40 := hH1.cell 40 (v := .int .u8 d.pro) rfl
   rw [hPH.out] at c40
   have hE2 := hEH.out
   rw [if_neg (by decide)] at hE2
   clear K hV hV0 hO hO0 hR hH hkM hkl hEH
   by_cases h0 : P = 0
   ·subst h0
    obtain rfl := hE2
    go_wp2
    exact ⟨rfl, Lib.hid rfl, hBw⟩
   by_cases h1 : P = 1
   ·subst h1
    obtain rfl := hE2
    go_wp2
    exact ⟨rfl, Lib.hid rfl, hBw⟩
   by_cases h43 : P = 43
   ·subst h43
    obtain rfl := hE2
    go_wp2
    exact ⟨rfl, Lib.hid rfl, hBw⟩
   by_cases h44 : P = 44
   ·subst h44
    obtain rfl := hE2
    go_wp2
    exact ⟨rfl, Lib.hid rfl, hBw⟩
   by_cases h60 : P = 60
   ·subst h60
    obtain rfl := hE2
    go_wp2
    exact ⟨rfl, Lib.hid rfl, hBw⟩
   have b0 : (P == 0) = false := by simpa using h0
   have b1 : (P == 1) = false := by simpa using h1
   have b43 : (P == 43) = false := by simpa using h43
   have b44 : (P == 44) = false := by simpa using h44
   have b60 : (P == 60) = false := by simpa using h60
   rw [if_neg (by unfold wrong18; simp [h0, h1, h43, h44, h60])] at hE2
   obtain rfl := hE2
   go_wp2
   go_end0
   exact ⟨Lib.hid rfl, hBw⟩
  case pos =>
  have hkz : (k : Int) < (M : Int) := by omega
  obtain ⟨⟨pk, pA, pc, pl⟩, hp⟩ : ∃ p', ps[k]? = some p' := ⟨ps[k]'(by rw [hMnH.out]; exact hkM), List.getElem?_eq_getElem _⟩
  have hdk := drop_kd hkl hp
  obtain ⟨b1, o1, hA1, hb1, hr1, hr2, yP, e0, e1, hld⟩ := K.loadHead hp
  have hld := hld wr (hBr.mono hB.size)
  subst hA1
  have hV2 := hV.out
  have hO2 := hO.out
  rw [hdk, routed_cons] at hV2
  rw [hdk] at hO2
  obtain ⟨h6, hO3⟩ := okH_hd18 hO2
  dsimp only at hr1 hr2 yP hld hV2 h6
  have hml := Nat.le_trans yP.cap yP.big
  obtain ⟨m, hm⟩ : ∃ m, pl.length = m := ⟨_, rfl⟩
  rw [hm] at hld yP hml h6
  obtain ⟨b2, o2, hA2⟩ := yP.form (k := 1) (by omega)
  subst hA2
  obtain ⟨W4, hW4, hH4, hX⟩ := head_var wr pk (some ⟨b2, o2, none⟩) m pc
  have c0 := hH4.cell 0 (v := .int .u8 pk) rfl
  have c1 := hH4.cell 1 (v := .slice (some ⟨b2, o2, none⟩) m pc) rfl
  have hB4 := hBr.trans (hX.mono hBr.size)
  have hB5 := hBw.trans (hX.mono hBw.size)
  have hN : Has (wr.alloc (.cells #[.int .u8 0, .slice none 0 0] 108)) wr.heap.size (.cells #[.int .u8 0, .slice none 0 0] 108 (0, 0)) := Has.newAt rfl
  have yQ := yP.below hB4 hB.size
  have c2 := yQ.atE (k := 1) rfl (by omega)
  obtain ⟨x, hx⟩ : ∃ x, pl.getD 1 0 = x := ⟨_, rfl⟩
  rw [hx] at c2
  have hrt : rt18 (pk, pl) = (decide (pk = 43) && decide (x ≠ 0)) := by rw [← hx]; rfl
  rw [hrt] at hV2
  have h1m : (1 : Int) < (m : Int) := by omega
  have h1n : 1 < m := by omega
  have hV2H := Lib.hid hV2
  have hO3H := Lib.hid hO3
  clear hp hdk hV hV0 hO hO0 hO2 hO3 hrt hm K yP yQ e0 e1 hR hkl hV2 hx
  by_cases h43 : pk = 43
  ·subst h43
   by_cases hx : x = 0
   ·have hVn : Hid (routed18 (d.hs.drop (k + 1)) = V) := Lib.hid (by rw [← hV2H.out]; simp [hx])
    subst hx
    clear hV2H
    go_wp2_with (first | (refine wl (.pointer (some ⟨b1, o1 + k * 2, none⟩)) (by kernel_rfl) (by exact ex_index2 (by exact rfl) Try.underlying25 (by kernel_rfl) (by exact rfl) (by exact rfl) hkM) ?_) | (refine wl (.agg #[.int .u8 43, .slice (some ⟨b2, o2, none⟩) m pc]) (by kernel_rfl) (by exact ex_loadAt (by exact rfl) (by exact rfl) hld) ?_) | (refine wpList_store_row rfl 108 (.tmp 3) (.tmp 10) rfl wr.heap.size _ rfl rfl 108 _ hN head_info rfl (by simp [Value.oneCell']) ?_))
    go_roundw
    case rel => exact ⟨k + 1, by omega, by go_num, hVn, hO3H, hB4⟩
    case measure => simp [intOf]; omega
   ·obtain rfl : V = true := by rw [← hV2H.out]; simp [hx]
    have hE2 := hEH.out
    rw [if_pos rfl] at hE2
    obtain rfl := hE2
    have hx0 : (x != 0) = true := by simpa using hx
    have hx1 : (x == 0) = false := by simpa using hx
    clear hV2H hEH
    go_wp2_with (first | (refine wl (.pointer (some ⟨b1, o1 + k * 2, none⟩)) (by kernel_rfl) (by exact ex_index2 (by exact rfl) Try.underlying25 (by kernel_rfl) (by exact rfl) (by exact rfl) hkM) ?_) | (refine wl (.agg #[.int .u8 43, .slice (some ⟨b2, o2, none⟩) m pc]) (by kernel_rfl) (by exact ex_loadAt (by exact rfl) (by exact rfl) hld) ?_) | (refine wpList_store_row rfl 108 (.tmp 3) (.tmp 10) rfl wr.heap.size _ rfl rfl 108 _ hN head_info rfl (by simp [Value.oneCell']) ?_))
    exact ⟨rfl, Lib.hid rfl, hB5⟩
  ·have hVn : Hid (routed18 (d.hs.drop (k + 1)) = V) := Lib.hid (by rw [← hV2H.out]; simp [h43])
   have hp0 : (pk == 43) = false := by simpa using h43
   clear hV2H
   go_wp2_with (first | (refine wl (.pointer (some ⟨b1, o1 + k * 2, none⟩)) (by kernel_rfl) (by exact ex_index2 (by exact rfl) Try.underlying25 (by kernel_rfl) (by exact rfl) (by exact rfl) hkM) ?_) | (refine wl (.agg #[.int .u8 pk, .slice (some ⟨b2, o2, none⟩) m pc]) (by kernel_rfl) (by exact ex_loadAt (by exact rfl) (by exact rfl) hld) ?_) | (refine wpList_store_row rfl 108 (.tmp 3) (.tmp 10) rfl wr.heap.size _ rfl rfl 108 _ hN head_info rfl (by simp [Value.oneCell']) ?_))
   go_roundw
   case rel => exact ⟨k + 1, by omega, by go_num, hVn, hO3H, hB4⟩
   case measure => simp [intOf]; omega

end Go.Proofs.Ytjnphelfloiadaa
namespace Go.Proofs.Ytjnphelfloiadaa
open Go.RowKit Go.Shelf
attribute [local irreducible] wpList Code.wp Oper.wp wpOp wpAnyH

theorem res_tt {P : Program} {fn : Func} {tmps : Array Value} {a b : Nat} {v u : Value} {w : World} (hr : fn.results = #[.tmp a, .tmp b]) (hx : tmps.getD a undef = v) (hb : tmps.getD b undef = u) : (results fn tmps).run P w = .ok (.tuple #[v, u]) w := by
 rw [Array.getD_eq_getD_getElem?] at hx hb
 simp [results, hr, hx, hb]
/-- a row of its own and a number -/
def TwoR (r : List Int × Int) (base : Nat) (w' : World) (e : Ending) : Prop := ∃ v, e = .returned (.tuple #[v, .int .i64 r.2]) ∧ OwnB w' base v r.1
theorem TwoR.ok {r : List Int × Int} {base : Nat} {w' : World} {v : Value} {l : List Int} {k : Int} (h : r = (l, k)) (hO : OwnB w' base v l) : TwoR r base w' (.returned (.tuple #[v, .int .i64 k])) := by
 subst h
 exact ⟨v, rfl, hO⟩
end Go.Proofs.Ytjnphelfloiadaa
