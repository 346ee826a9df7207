/-
  Lemmas and walks for the row of TofourPackets,TofourMessages,TofourInside (part 17 of 42).
-/
import Derived.Test.YtjnphelfloiadaaFpAB
import Derived.Test.YtjnphelfloiadaaFpAC
import Derived.Test.YtjnphelfloiadaaFpAE
import Derived.Test.YtjnphelfloiadaaFpAG
import Derived.Test.YtjnphelfloiadaaFpAH
import Derived.Test.YtjnphelfloiadaaFpAI
import Derived.Test.YtjnphelfloiadaaFpAL
import Derived.Test.YtjnphelfloiadaaFpAM
import Derived.Test.YtjnphelfloiadaaFpAO
import Derived.Test.YtjnphelfloiadaaFpAP
import Derived.StillTailTactics
import Derived.Deep.RegionWith
import Derived.Lib.SliceRun
set_option linter.unusedVariables false
set_option linter.unusedSimpArgs false
namespace Go.Proofs.Ytjnphelfloiadaa
open Go.RowKit Go.Shelf

theorem Own6.setRow {w : World} {base g : Nat} {cs : Array Value} {D : D6} {p : W6} (h : Own6 w base D p) (hg : g < base) : Own6 (w.setRow g cs) base D p :=
 ⟨h.ok, h.own.but6 (But6.setRow g w cs) hg, h.hl, h.body.but6 (But6.setRow g w cs) hg⟩
theorem Own6.more {w : World} {base base' : Nat} {D : D6} {p : W6} (h : Own6 w base D p) (hb : base' ≤ base) : Own6 w base' D p := ⟨h.ok, h.own.more hb, h.hl, h.body.more hb⟩
theorem Own6.below {w w' : World} {base : Nat} {D : D6} {p : W6} (h : Own6 w base D p) (hb : Below w.heap.size w w') : Own6 w' base D p := ⟨h.ok, h.own.below hb, h.hl, h.body.below hb⟩
set_option maxRecDepth 100000 in
theorem ppart6_any (A : Option Addr) (c : Nat) (l : List Int) (w : World) (hy : By w.heap.size w A l.length c l) :
  Calls Try.prog 48 #[.slice A l.length c] w fun e w' => Told6 w.heap.size w' (got6 false l) ((g6 false l).pat : Int) (g6 false l).err e ∧ Below w.heap.size w w' := by
 have hV : Has (w.alloc (.cells z6cells 28)) w.heap.size (.cells z6cells 28 (0, 0)) := Has.newAt rfl
 have hB : Below w.heap.size w (w.alloc (.cells z6cells 28)) := (Below.refl _ _).alloc (Nat.le_refl _) _
 have hc := Lib.hid (read6_false A c l (w.alloc (.cells z6cells 28)) ((hy.below hB (Nat.le_refl _)).more hB.size))
 go_enter Try.func48, Try.ntmps48
 go_wp2_with fail
 refine hc.out.mono ?_
 rintro e w1 ⟨⟨p, a, s, rfl, h1, h2, h3⟩, hb⟩
 have hV := hV.below hb hV.lt
 have hlt : w.heap.size < (w.alloc (.cells z6cells 28)).heap.size := by simp
 clear hc
 go_wp2_with (refine wpList_store_row rfl 28 (.tmp 2) (.tmp 7) rfl w.heap.size _ rfl rfl 28 _ hV v6_info rfl (D6.cells_one _ _) ?_)
 exact bodyPost_ret (res_cell3 Try.results48 rfl (hV.setRow_same.load (P := Try.prog) 28 Try.underlying28 rfl v6_info) rfl rfl) rfl
  ⟨⟨p, a, s, rfl, h1, h2, (h3.setRow hlt).more hB.size⟩, hB.trans ((hb.mono hB.size).trans below_setRow')⟩
structure E6ok (s t : List Int) : Prop where
 sL : s.length = 16
 s : InB s
 tL : t.length = 16
 t : InB t
theorem Rd4.to {w w' : World} {d : D4} {p : W4} (h : Rd4 w.heap.size w d p) (b : Below w.heap.size w w') : Rd4 w'.heap.size w' d p := (h.below b (Nat.le_refl _)).more b.size
theorem Rd7.to {w w' : World} {d : D7} {A : Option Addr} {c : Nat} (h : Rd7 w.heap.size w d A c) (b : Below w.heap.size w w') : Rd7 w'.heap.size w' d A c := (h.below b (Nat.le_refl _)).more b.size
end Go.Proofs.Ytjnphelfloiadaa
namespace Go.Proofs.Ytjnphelfloiadaa
open Go.ChangeShapes Go.WideShapes Go.ChangeAt Go.RowKit Go.Shelf

section
variable {H : Type} {enc : TypeId × Value → H} {W : World} {base : Nat} {spare : Nat → Bool} {held : Bool}
theorem two_parts {l p q : List Value} {n : Nat} (hl : l.length = n + n) (h1 : p = (l.drop 0).take n) (h2 : q = (l.drop n).take n) : l = p ++ q := by
 subst h1 h2
 rw [List.drop_zero, List.take_of_length_le (l := l.drop n) (by rw [List.length_drop]; omega), List.take_append_drop]
end
end Go.Proofs.Ytjnphelfloiadaa
namespace Go.Proofs.Ytjnphelfloiadaa
open Go.RowKit

structure E4ok (s t : List Int) : Prop where
 sL : s.length = 4
 s : InB s
 tL : t.length = 4
 t : InB t
def e4c (s t : List Int) : Array Value := #[.int .u8 (s.getD 0 0), .int .u8 (s.getD 1 0), .int .u8 (s.getD 2 0), .int .u8 (s.getD 3 0), .int .u8 (t.getD 0 0), .int .u8 (t.getD 1 0), .int .u8 (t.getD 2 0), .int .u8 (t.getD 3 0)]
def pro18 (p : Int) : Int := if p = 58 then 1 else p
def wrong18 (p : Int) : Bool := decide (p = 0 ∨ p = 1 ∨ p = 43 ∨ p = 44 ∨ p = 60)
def rt18 (h : Int × List Int) : Bool := decide (h.1 = 43) && decide (h.2.getD 1 0 ≠ 0)
def routed18 : List (Int × List Int) → Bool
 | [] => false
 | h :: t => rt18 h || routed18 t
def D6.part (d : D6) : Bool := d.frag && (d.more || decide (0 < d.off))
def head18 (d : D6) (s t bl : List Int) : D4 := ⟨d.cls, if d.frag then d.id % 65536 else 0, !d.frag, if d.frag then d.more else false, if d.frag then d.off else 0, d.hop, pro18 d.pro, s.getD 0 0, s.getD 1 0, s.getD 2 0, s.getD 3 0, t.getD 0 0, t.getD 1 0, t.getD 2 0, t.getD 3 0, [], bl⟩
def from18 (d : D6) : List Int := d.src ++ d.dst
def to18 (s t : List Int) : List Int := s ++ t ++ List.replicate 24 0
def body18 (d : D6) (s t : List Int) : List Int × Int :=
 if 0 < d.off then (d.bl, 0)
 else if d.pro = 6 then (if d.bl.length < 20 then ([], 173) else (carry17 false (from18 d) (to18 s t) d.bl 16, 0))
 else if d.pro = 17 then
  (if d.bl.length < 8 then ([], 173)
  else if d.bl.getD 6 0 = 0 ∧ d.bl.getD 7 0 = 0 then ([], 172)
  else (carry17 true (from18 d) (to18 s t) d.bl 6, 0))
 else (d.bl, 0)
def ptr18 (n : Int) : Int × Bool :=
 if n ≤ 1 then (n, true) else if n = 4 ∨ n = 5 then (2, true) else if n = 6 then (9, true) else if n = 7 then (8, true) else if 8 ≤ n ∧ n < 24 then (12, true) else if 24 ≤ n ∧ n < 40 then (16, true) else (0, false)
def mtu18 (n : Int) : Int := if n < 88 then 68 else if 65555 < n then 65535 else n - 20
def kind18 (m : D7) : (Int × Int × Int) × Bool :=
 if m.ty = 128 then ((8, m.code, m.rest), true) else if m.ty = 129 then ((0, m.code, m.rest), true)
 else if m.ty = 1 then (if m.code = 0 ∨ m.code = 2 ∨ m.code = 3 then ((3, 1, 0), true) else if m.code = 1 then ((3, 10, 0), true) else if m.code = 4 then ((3, 3, 0), true) else ((0, 0, 0), false))
 else if m.ty = 2 then (if m.code = 0 then ((3, 4, mtu18 m.rest), true) else ((0, 0, 0), false))
 else if m.ty = 3 then ((11, m.code, 0), true)
 else if m.ty = 4 then (if m.code = 0 then (if (ptr18 m.rest).2 then ((12, 0, (ptr18 m.rest).1 * 16777216), true) else ((0, 0, 0), false)) else if m.code = 1 then ((3, 2, 0), true) else ((0, 0, 0), false))
 else ((0, 0, 0), false)
def one18 (b : Int) : Int := if b = 128 then 8 else 0
def told18 (d : D6) (s t : List Int) (n : Int) : List Int :=
 if 0 < d.off then d.bl
 else if d.pro = 6 ∧ 18 ≤ d.bl.length then carry17 false (from18 d) (to18 s t) d.bl 16
 else if d.pro = 17 ∧ 8 ≤ d.bl.length ∧ ¬ (d.bl.getD 6 0 = 0 ∧ d.bl.getD 7 0 = 0) then carry17 true (from18 d) (to18 s t) d.bl 6
 else if d.pro = 58 ∧ 4 ≤ d.bl.length then
  put17 (d.bl.set 0 (one18 (d.bl.getD 0 0))) 2 (updateS (two17 d.bl 2) (d.bl.take 2 ++ from18 d ++ [0, 0, n / 256, n % 256, 0, 58]) ([one18 (d.bl.getD 0 0), d.bl.getD 1 0] ++ List.replicate 38 0)).1
 else d.bl
def said18 (l : List Int) : Int := said6 l - ((got6 false l).ahead - 40)
def none18 (l : List Int) : Bool := decide ((g6 false l).err ≠ 0) || (decide ((got6 false l).off = 0) && (decide ((got6 false l).pro = 58) && (decide (0 < (got6 false l).bl.length) && (decide ((got6 false l).bl.getD 0 0 ≠ 128) && decide ((got6 false l).bl.getD 0 0 ≠ 129)))))
def sum18 (h : List Int) : List Int := put17 (put17 h 10 0) 10 (65535 - sumw (put17 h 10 0))
def inside18 (l : List Int) (s t : List Int) : List Int × Int :=
 if none18 l then ([], 176) else if routed18 (got6 false l).hs then ([], 170) else if wrong18 (got6 false l).pro then ([], 171)
 else (sum18 (put17 ((head18 (got6 false l) s t []).first 0) 2 (min (said18 l + 20) 65535)) ++ told18 (got6 false l) s t (said18 l), 0)
def msg18 (m : D7) (s t : List Int) : D7 × Int :=
 if (kind18 m).2 = false then (zero7, 175) else if 65527 < m.bl.length then (zero7, 2)
 else if 128 ≤ m.ty then (⟨(kind18 m).1.1, (kind18 m).1.2.1, (kind18 m).1.2.2, m.bl⟩, 0)
 else if (inside18 m.bl s t).2 ≠ 0 then (zero7, (inside18 m.bl s t).2)
 else (⟨(kind18 m).1.1, (kind18 m).1.2.1, (kind18 m).1.2.2, (inside18 m.bl s t).1.take 548⟩, 0)
def ps18 (d : D6) : List Int := pse6 d.src d.dst d.bl.length 58
def icmp18 (d : D6) (s t : List Int) : List Int × Int :=
 if d.part then ([], 174) else if perr7 d.bl (ps18 d) ≠ 0 then ([], perr7 d.bl (ps18 d))
 else if (msg18 (parse7 d.bl (ps18 d)) s t).2 ≠ 0 then ([], (msg18 (parse7 d.bl (ps18 d)) s t).2)
 else ((msg18 (parse7 d.bl (ps18 d)) s t).1.write [], 0)
def any18 (d : D6) (s t s' t' : List Int) : List Int × Int := if d.pro = 58 then icmp18 d s' t' else body18 d s t
def zero18 : D4 := ⟨0, 0, false, false, 0, 0, 0, 0, 0, 0, 0, 0, 0, 0, 0, [], []⟩
def pack18 (d : D6) (s t s' t' : List Int) : D4 × Int :=
 if d.check ≠ 0 then (zero18, d.check) else if routed18 d.hs then (zero18, 170) else if wrong18 d.pro then (zero18, 171)
 else if (any18 d s t s' t').2 ≠ 0 then (zero18, (any18 d s t s' t').2)
 else if (head18 d s t (any18 d s t s' t').1).check ≠ 0 then (zero18, 2) else (head18 d s t (any18 d s t s' t').1, 0)
theorem from18_len {d : D6} (h : d.ok) : (from18 d).length = 32 := by simp [from18, h.srcL, h.dstL]
theorem to18_len {s t : List Int} (h : E4ok s t) : (to18 s t).length = 32 := by simp [to18, h.sL, h.tL]
end Go.Proofs.Ytjnphelfloiadaa
namespace Go.Proofs.Ytjnphelfloiadaa
open Go.RowKit Go.Shelf

def Fault18 (s : Int) : Ending := .panicked [{ v := .iface 36 (.int .i64 s), recovered := false }]
def side18 (d : D6) : Ending := if routed18 d.hs = true then Fault18 170 else if wrong18 d.pro = true then Fault18 171 else .returned (.tuple #[])
theorem must18_no (w : World) : Calls Try.prog 28 #[.int .i64 0] w fun e w' => e = .returned (.tuple #[]) ∧ w = w' := by
 go_enter Try.func28, Try.ntmps28
 go_wp2
 go_end0
 exact ⟨rfl, rfl⟩
theorem must18_yes (s : Int) (h : s ≠ 0) (w : World) : Calls Try.prog 28 #[.int .i64 s] w fun e w' => e = Fault18 s ∧ w = w' := by
 have hb : (s != 0) = true := by simpa using h
 go_enter Try.func28, Try.ntmps28
 go_wp2
 exact ⟨rfl, rfl, rfl⟩
theorem routed_cons (h : Int × List Int) (t : List (Int × List Int)) : routed18 (h :: t) = (rt18 h || routed18 t) := rfl
theorem okH_hd18 {k : Nat} {h : Int × List Int} {t : List (Int × List Int)} (ho : okH k (h :: t) = true) : 6 ≤ h.2.length ∧ okH (k + 1) t = true := by
 rw [okH_cons, Bool.and_eq_true] at ho
 refine ⟨?_, ho.2⟩
 have hb := ho.1
 unfold badH at hb
 simp only [Bool.not_eq_true', Bool.or_eq_false_iff, decide_eq_false_iff_not] at hb
 omega

set_option maxRecDepth 100000 in
set_option maxHeartbeats 4000000 in
theorem side18_any (d : D6) (p : W6) (w : World) (hR : Rd6 w.heap.size w d p) (hok : okH 0 d.hs = true) :
  Calls Try.prog 30 #[.agg (d.cells p)] w fun e w' => Hid (e = side18 d) ∧ Below w.heap.size w w' := by
 obtain ⟨hA, hc, ps, bA, bc⟩ := p
 have hB : Below w.heap.size w (w.alloc (.cells (d.cells ⟨hA, hc, ps, bA, bc⟩) 28)) := (Below.refl _ _).alloc (Nat.le_refl _) _
 have hH : Has (w.alloc (.cells (d.cells ⟨hA, hc, ps, bA, bc⟩) 28)) w.heap.size (.cells (d.cells ⟨hA, hc, ps, bA, bc⟩) 28 (0, 0)) := Has.newAt rfl
 obtain ⟨W1, hW1⟩ : ∃ W, w.alloc (.cells (d.cells ⟨hA, hc, ps, bA, bc⟩) 28) = W := ⟨_, rfl⟩
 obtain ⟨E, hE⟩ : ∃ E, side18 d = E := ⟨_, rfl⟩
 rw [hE]
 obtain ⟨V, hV⟩ : ∃ V, routed18 d.hs = V := ⟨_, rfl⟩
 obtain ⟨P, hP⟩ : ∃ P, d.pro = P := ⟨_, rfl⟩
 unfold side18 at hE
 rw [hV, hP] at hE
 obtain ⟨M, hM⟩ : ∃ M, d.hs.length = M := ⟨_, rfl⟩
 have K := hR.hd.below hB (Nat.le_refl _)
 have hkl : kdL ps = d.hs := hR.hl
 dsimp only at K
 rw [hW1] at hB hH K
 have c35 := hH.cell 35 (v := .slice hA d.hs.length hc) rfl
 rw [hM] at K c35
 have hMc := Nat.le_trans K.cap K.big
 have hMn := K.len
 have hV0 : Hid (routed18 (d.hs.drop 0) = V) := Lib.hid (by rw [List.drop_zero, hV])
 have hO0 : Hid (okH 0 (d.hs.drop 0) = true) := Lib.hid (by rw [List.drop_zero]; exact hok)
 have hMH := Lib.hid hM
 have hMnH := Lib.hid hMn
 have hEH := Lib.hid hE
 have hPH := Lib.hid hP
 clear hV hM hMn hE hP hok
 go_enter Try.func30, Try.ntmps30
 go_wp2
 go_loopw [7] (fun i wr => ∃ k : Nat, k ≤ M ∧ i = .int .i64 k ∧ Hid (routed18 (d.hs.drop k) = V) ∧ Hid (okH k (d.hs.drop k) = true) ∧ Below W1.heap.size W1 wr) (fun i _ => M - (intOf i).toNat)
 case atStart => exact ⟨0, Nat.zero_le _, rfl, hV0, hO0, Below.refl _ _⟩
 case round =>
  obtain ⟨k, hk, rfl, hV, hO, hBr⟩ := hrel
  rename_i wr _
  have hBw := hB.trans (hBr.mono hB.size)
  have hH1 := hH.below hBr hH.lt
  by_cases hkM : k < M
  case neg =>
   have hge : ¬ ((k : Int) < (M : Int)) := by omega
   obtain rfl : V = false := by rw [← hV.out, List.drop_of_length_le (by rw [hMH.out]; omega)]; rfl
   have c40 := hH1.cell 40 (v := .int .u8 d.pro) rfl
   rw [hPH.out] at c40
   have hE2 := hEH.out
   rw [if_neg (by decide)] at hE2
   clear K hV hV0 hO hO0 hR hH hkM hkl hEH
   by_cases h0 : P = 0
   ·subst h0
    obtain rfl := hE2
    go_wp2
    exact ⟨rfl, Lib.hid rfl, hBw⟩
   by_cases h1 : P = 1
   ·subst h1
    obtain rfl := hE2
    go_wp2
    exact ⟨rfl, Lib.hid rfl, hBw⟩
   by_cases h43 : P = 43
   ·subst h43
    obtain rfl := hE2
    go_wp2
    exact ⟨rfl, Lib.hid rfl, hBw⟩
   by_cases h44 : P = 44
   ·subst h44
    obtain rfl := hE2
    go_wp2
    exact ⟨rfl, Lib.hid rfl, hBw⟩
   by_cases h60 : P = 60
   ·subst h60
    obtain rfl := hE2
    go_wp2
    exact ⟨rfl, Lib.hid rfl, hBw⟩
   have b0 : (P == 0) = false := by simpa using h0
   have b1 : (P == 1) = false := by simpa using h1
   have b43 : (P == 43) = false := by simpa using h43
   have b44 : (P == 44) = false := by simpa using h44
   have b60 : (P == 60) = false := by simpa using h60
   rw [if_neg (by unfold wrong18; simp [h0, h1, h43, h44, h60])] at hE2
   obtain rfl := hE2
   go_wp2
   go_end0
   exact ⟨Lib.hid rfl, hBw⟩
  case pos =>
  have hkz : (k : Int) < (M : Int) := by omega
  obtain ⟨⟨pk, pA, pc, pl⟩, hp⟩ : ∃ p', ps[k]? = some p' := ⟨ps[k]'(by rw [hMnH.out]; exact hkM), List.getElem?_eq_getElem _⟩
  have hdk := drop_kd hkl hp
  obtain ⟨b1, o1, hA1, hb1, hr1, hr2, yP, e0, e1, hld⟩ := K.loadHead hp
  have hld := hld wr (hBr.mono hB.size)
  subst hA1
  have hV2 := hV.out
  have hO2 := hO.out
  rw [hdk, routed_cons] at hV2
  rw [hdk] at hO2
  obtain ⟨h6, hO3⟩ := okH_hd18 hO2
  dsimp only at hr1 hr2 yP hld hV2 h6
  have hml := Nat.le_trans yP.cap yP.big
  obtain ⟨m, hm⟩ : ∃ m, pl.length = m := ⟨_, rfl⟩
  rw [hm] at hld yP hml h6
  obtain ⟨b2, o2, hA2⟩ := yP.form (k := 1) (by omega)
  subst hA2
  obtain ⟨W4, hW4, hH4, hX⟩ := head_var wr pk (some ⟨b2, o2, none⟩) m pc
  have c0 := hH4.cell 0 (v := .int .u8 pk) rfl
  have c1 := hH4.cell 1 (v := .slice (some ⟨b2, o2, none⟩) m pc) rfl
  have hB4 := hBr.trans (hX.mono hBr.size)
  have hB5 := hBw.trans (hX.mono hBw.size)
  have hN : Has (wr.alloc (.cells #[.int .u8 0, .slice none 0 0] 108)) wr.heap.size (.cells #[.int .u8 0, .slice none 0 0] 108 (0, 0)) := Has.newAt rfl
  have yQ := yP.below hB4 hB.size
  have c2 := yQ.atE (k := 1) rfl (by omega)
  obtain ⟨x, hx⟩ : ∃ x, pl.getD 1 0 = x := ⟨_, rfl⟩
  rw [hx] at c2
  have hrt : rt18 (pk, pl) = (decide (pk = 43) && decide (x ≠ 0)) := by rw [← hx]; rfl
  rw [hrt] at hV2
  have h1m : (1 : Int) < (m : Int) := by omega
  have h1n : 1 < m := by omega
  have hV2H := Lib.hid hV2
  have hO3H := Lib.hid hO3
  clear hp hdk hV hV0 hO hO0 hO2 hO3 hrt hm K yP yQ e0 e1 hR hkl hV2 hx
  by_cases h43 : pk = 43
  ·subst h43
   by_cases hx : x = 0
   ·have hVn : Hid (routed18 (d.hs.drop (k + 1)) = V) := Lib.hid (by rw [← hV2H.out]; simp [hx])
    subst hx
    clear hV2H
    go_wp2_with (first | (refine wl (.pointer (some ⟨b1, o1 + k * 2, none⟩)) (by kernel_rfl) (by exact ex_index2 (by rfl) Try.underlying25 (by kernel_rfl) (by rfl) (by rfl) hkM) ?_) | (refine wl (.agg #[.int .u8 43, .slice (some ⟨b2, o2, none⟩) m pc]) (by kernel_rfl) (by exact ex_loadAt (by rfl) (by rfl) hld) ?_) | (refine wpList_store_row rfl 108 (.tmp 3) (.tmp 10) rfl wr.heap.size _ rfl rfl 108 _ hN head_info rfl (by simp [Value.oneCell']) ?_))
    go_roundw
    case rel => exact ⟨k + 1, by omega, by go_num, hVn, hO3H, hB4⟩
    case measure => simp [intOf]; omega
   ·obtain rfl : V = true := by rw [← hV2H.out]; simp [hx]
    have hE2 := hEH.out
    rw [if_pos rfl] at hE2
    obtain rfl := hE2
    have hx0 : (x != 0) = true := by simpa using hx
    have hx1 : (x == 0) = false := by simpa using hx
    clear hV2H hEH
    go_wp2_with (first | (refine wl (.pointer (some ⟨b1, o1 + k * 2, none⟩)) (by kernel_rfl) (by exact ex_index2 (by rfl) Try.underlying25 (by kernel_rfl) (by rfl) (by rfl) hkM) ?_) | (refine wl (.agg #[.int .u8 43, .slice (some ⟨b2, o2, none⟩) m pc]) (by kernel_rfl) (by exact ex_loadAt (by rfl) (by rfl) hld) ?_) | (refine wpList_store_row rfl 108 (.tmp 3) (.tmp 10) rfl wr.heap.size _ rfl rfl 108 _ hN head_info rfl (by simp [Value.oneCell']) ?_))
    exact ⟨rfl, Lib.hid rfl, hB5⟩
  ·have hVn : Hid (routed18 (d.hs.drop (k + 1)) = V) := Lib.hid (by rw [← hV2H.out]; simp [h43])
   have hp0 : (pk == 43) = false := by simpa using h43
   clear hV2H
   go_wp2_with (first | (refine wl (.pointer (some ⟨b1, o1 + k * 2, none⟩)) (by kernel_rfl) (by exact ex_index2 (by rfl) Try.underlying25 (by kernel_rfl) (by rfl) (by rfl) hkM) ?_) | (refine wl (.agg #[.int .u8 pk, .slice (some ⟨b2, o2, none⟩) m pc]) (by kernel_rfl) (by exact ex_loadAt (by rfl) (by rfl) hld) ?_) | (refine wpList_store_row rfl 108 (.tmp 3) (.tmp 10) rfl wr.heap.size _ rfl rfl 108 _ hN head_info rfl (by simp [Value.oneCell']) ?_))
   go_roundw
   case rel => exact ⟨k + 1, by omega, by go_num, hVn, hO3H, hB4⟩
   case measure => simp [intOf]; omega

set_option maxRecDepth 100000 in
set_option maxHeartbeats 4000000 in
theorem rrouted18_any (d : D6) (p : W6) (w : World) (hR : Rd6 w.heap.size w d p) (hok : okH 0 d.hs = true) :
  Calls Try.prog 37 #[.agg (d.cells p)] w fun e w' => Tru (routed18 d.hs) e ∧ Below w.heap.size w w' := by
 obtain ⟨hA, hc, ps, bA, bc⟩ := p
 have hB : Below w.heap.size w (w.alloc (.cells (d.cells ⟨hA, hc, ps, bA, bc⟩) 28)) := (Below.refl _ _).alloc (Nat.le_refl _) _
 have hH : Has (w.alloc (.cells (d.cells ⟨hA, hc, ps, bA, bc⟩) 28)) w.heap.size (.cells (d.cells ⟨hA, hc, ps, bA, bc⟩) 28 (0, 0)) := Has.newAt rfl
 obtain ⟨W1, hW1⟩ : ∃ W, w.alloc (.cells (d.cells ⟨hA, hc, ps, bA, bc⟩) 28) = W := ⟨_, rfl⟩
 obtain ⟨V, hV⟩ : ∃ V, routed18 d.hs = V := ⟨_, rfl⟩
 rw [hV]
 obtain ⟨M, hM⟩ : ∃ M, d.hs.length = M := ⟨_, rfl⟩
 have K := hR.hd.below hB (Nat.le_refl _)
 have hkl : kdL ps = d.hs := hR.hl
 dsimp only at K
 rw [hW1] at hB hH K
 have c35 := hH.cell 35 (v := .slice hA d.hs.length hc) rfl
 rw [hM] at K c35
 have hMc := Nat.le_trans K.cap K.big
 have hMn := K.len
 have hV0 : Hid (routed18 (d.hs.drop 0) = V) := Lib.hid (by rw [List.drop_zero, hV])
 have hO0 : Hid (okH 0 (d.hs.drop 0) = true) := Lib.hid (by rw [List.drop_zero]; exact hok)
 have hMH := Lib.hid hM
 have hMnH := Lib.hid hMn
 clear hV hM hMn hok
 go_enter Try.func37, Try.ntmps37
 go_wp2
 go_loop [3] (fun i => ∃ k : Nat, k ≤ M ∧ i = .int .i64 k ∧ Hid (routed18 (d.hs.drop k) = V) ∧ Hid (okH k (d.hs.drop k) = true)) (fun i => M - (intOf i).toNat)
 case atStart => exact ⟨0, Nat.zero_le _, rfl, hV0, hO0⟩
 case round =>
  obtain ⟨k, hk, rfl, hV, hO⟩ := hrel
  by_cases hkM : k < M
  case neg =>
   have hge : ¬ ((k : Int) < (M : Int)) := by omega
   obtain rfl : V = false := by rw [← hV.out, List.drop_of_length_le (by rw [hMH.out]; omega)]; rfl
   clear K hV hV0 hO hO0 hR hH hkM hkl
   go_wp2
   go_ret
   exact ⟨Tru.mk rfl, hB⟩
  case pos =>
  have hkz : (k : Int) < (M : Int) := by omega
  obtain ⟨⟨pk, pA, pc, pl⟩, hp⟩ : ∃ p', ps[k]? = some p' := ⟨ps[k]'(by rw [hMnH.out]; exact hkM), List.getElem?_eq_getElem _⟩
  have hdk := drop_kd hkl hp
  obtain ⟨b1, o1, hA1, hb1, hr1, hr2, yP, e0, e1, hld⟩ := K.loadHead hp
  subst hA1
  have hV2 := hV.out
  have hO2 := hO.out
  rw [hdk, routed_cons] at hV2
  rw [hdk] at hO2
  obtain ⟨h6, hO3⟩ := okH_hd18 hO2
  dsimp only at hr1 hr2 yP hV2 h6 e0 e1
  have hml := Nat.le_trans yP.cap yP.big
  obtain ⟨m, hm⟩ : ∃ m, pl.length = m := ⟨_, rfl⟩
  rw [hm] at yP hml h6 e1
  obtain ⟨b2, o2, hA2⟩ := yP.form (k := 1) (by omega)
  subst hA2
  have c2 := yP.atE (k := 1) rfl (by omega)
  obtain ⟨x, hx⟩ : ∃ x, pl.getD 1 0 = x := ⟨_, rfl⟩
  rw [hx] at c2
  have hrt : rt18 (pk, pl) = (decide (pk = 43) && decide (x ≠ 0)) := by rw [← hx]; rfl
  rw [hrt] at hV2
  have h1m : (1 : Int) < (m : Int) := by omega
  have h1n : 1 < m := by omega
  have hV2H := Lib.hid hV2
  have hO3H := Lib.hid hO3
  clear hp hdk hV hV0 hO hO0 hO2 hO3 hrt hm K yP hld hR hkl hV2 hx
  by_cases h43 : pk = 43
  ·subst h43
   by_cases hx : x = 0
   ·have hVn : Hid (routed18 (d.hs.drop (k + 1)) = V) := Lib.hid (by rw [← hV2H.out]; simp [hx])
    subst hx
    clear hV2H
    go_wp2
    go_round
    case rel => exact ⟨k + 1, by omega, by go_num, hVn, hO3H⟩
    case measure => simp [intOf]; omega
   ·obtain rfl : V = true := by rw [← hV2H.out]; simp [hx]
    have hx0 : (x != 0) = true := by simpa using hx
    have hx1 : (x == 0) = false := by simpa using hx
    clear hV2H
    go_wp2
    go_ret
    exact ⟨Tru.mk rfl, hB⟩
  ·have hVn : Hid (routed18 (d.hs.drop (k + 1)) = V) := Lib.hid (by rw [← hV2H.out]; simp [h43])
   have hp0 : (pk == 43) = false := by simpa using h43
   clear hV2H
   go_wp2
   go_round
   case rel => exact ⟨k + 1, by omega, by go_num, hVn, hO3H⟩
   case measure => simp [intOf]; omega
theorem pseudo6_ok (a b : List Int) (ha : a.length = 16) (hb : b.length = 16) (ra : InB a) (rb : InB b) (p n : Int) (hp0 : 0 ≤ p) (hp1 : p ≤ 255) (h0 : 0 ≤ n) (h1 : n ≤ 65535) (w : World) :
    Calls Try.prog 67 #[.agg (u8s a).toArray, .agg (u8s b).toArray, .int .u8 p, .int .i64 n] w fun e w' => ∃ v, e = .returned (.tuple #[v, .int .i64 0]) ∧ OwnB w' w.heap.size v (a ++ b ++ [0, 0, n / 256, n % 256, 0, 0, 0, p]) ∧ Below w.heap.size w w' := by
    go_enter Try.func67, Try.ntmps67
    go_wp2
    have hr4 : InB [0, 0, IntKind.u8.wrap (n / 256), IntKind.u8.wrap n, 0, 0, 0, p] := fun x hx => by
      simp only [IntKind.wrap_u8, List.mem_cons, List.not_mem_nil, or_false] at hx
      omega
    have hb1 : Below w.heap.size w ((((w.alloc (.cells (u8s a).toArray 24)).alloc (.cells (u8s b).toArray 24)).alloc (.cells (u8s [0, 0, IntKind.u8.wrap (n / 256), IntKind.u8.wrap n, 0, 0, 0, p]).toArray 5)).alloc (.cells #[Value.slice (some ⟨w.heap.size, 0, none⟩) 16 16, Value.slice (some ⟨w.heap.size + 1, 0, none⟩) 16 16, Value.slice (some ⟨w.heap.size + 1 + 1, 0, none⟩) 8 8] 26)).drew :=
      (((((Below.refl _ w).alloc (Nat.le_refl _) _).alloc (by simp) _).alloc (by simp; omega) _).alloc (by simp; omega) _).drew
    go_region_with (go_at_call 81; (refine (concat_any _ _ [(some ⟨w.heap.size, 0, none⟩, 16, a), (some ⟨w.heap.size + 1, 0, none⟩, 16, b), (some ⟨w.heap.size + 1 + 1, 0, none⟩, 8, [0, 0, IntKind.u8.wrap (n / 256), IntKind.u8.wrap n, 0, 0, 0, p])] _
      (Parts.blk (t := 26) (fz := (0, 0)) (by simp only [List.map_cons, List.map_nil, ha, hb]; repeat (first | exact Has.newAt (by simp) | refine Has.drew ?_ | refine Has.alloc ?_)) (Nat.le_refl _) rfl
        (all3 (By.blk (t := 24) (fz := (0, 0)) (by repeat (first | exact Has.newAt (by simp) | refine Has.drew ?_ | refine Has.alloc ?_)) (Nat.le_refl _) ra (show a.length ≤ _ by omega) rfl (by simp [ha]))
         (By.blk (t := 24) (fz := (0, 0)) (by repeat (first | exact Has.newAt (by simp) | refine Has.drew ?_ | refine Has.alloc ?_)) (Nat.le_refl _) rb (show b.length ≤ _ by omega) rfl (by simp [hb]))
         (By.blk (t := 5) (fz := (0, 0)) (by repeat (first | exact Has.newAt (by simp) | refine Has.drew ?_ | refine Has.alloc ?_)) (Nat.le_refl _) hr4 (by simp) rfl rfl)) (by simp)) (by simp [flat]; omega)).mono ?_); rintro e w' ⟨v, rfl, hown, hb2⟩; obtain ⟨A', c', rfl, _⟩ := own_shape hown.own)
    go_wp2
    go_ret2
    refine ⟨_, rfl, ?_, hb1.trans (hb2.mono hb1.size)⟩
    have he : flat [(some ⟨w.heap.size, 0, none⟩, 16, a), (some ⟨w.heap.size + 1, 0, none⟩, 16, b), (some ⟨w.heap.size + 1 + 1, 0, none⟩, 8, [0, 0, IntKind.u8.wrap (n / 256), IntKind.u8.wrap n, 0, 0, 0, p])] = a ++ b ++ [0, 0, n / 256, n % 256, 0, 0, 0, p] := by
      simp only [flat, List.map_cons, List.map_nil, List.flatten_cons, List.flatten_nil, IntKind.wrap_u8, List.append_nil, List.append_assoc]
      rw [show n / 256 % 256 = n / 256 from by omega]
    rw [← he]
    exact hown.more hb1.size
theorem icmp_info : (Try.prog.info? 43).map (·.size) = some 4 := by kernel_rfl

theorem long7_any (d : D7) (A : Option Addr) (c : Nat) (w : World) (hb : d.bl.length ≤ 9223372036854775807) :
  Calls Try.prog 69 #[.agg (d.cells A c)] w fun e w' => ∃ q : Bool, e = .returned (.bool q) ∧ Hid (q = decide (65527 < d.bl.length)) ∧ Below w.heap.size w w' := by
 unfold D7.cells
 go_enter Try.func69, Try.ntmps69
 go_wp2
 go_ret
 exact ⟨_, rfl, Lib.hid (decide_eq_decide.2 (by omega)), (Below.refl _ _).alloc (Nat.le_refl _) _⟩

set_option maxRecDepth 100000 in
theorem write7_any (d : D7) (A : Option Addr) (c : Nat) (Ap : Option Addr) (cp : Nat) (ps : List Int) (w : World) (hR : Rd7 w.heap.size w d A c) (hp : By w.heap.size w Ap ps.length cp ps) (h0 : d.bl.length ≤ 65527) :
  Calls Try.prog 70 #[.agg (d.cells A c), .slice Ap ps.length cp] w fun e w' => ∃ v, e = .returned v ∧ OwnB w' w.heap.size v (d.bytes ps) ∧ Below w.heap.size w w' := by
 have r1 := hR.ok.ty
 have r2 := hR.ok.code
 have r3 := hR.ok.rest
 have hB : Below w.heap.size w (w.alloc (.cells (d.cells A c) 43)) := (Below.refl _ _).alloc (Nat.le_refl _) _
 have hH : Has (w.alloc (.cells (d.cells A c) 43)) w.heap.size (.cells (d.cells A c) 43 (0, 0)) := Has.newAt rfl
 unfold D7.cells
 go_enter Try.func70, Try.ntmps70
 go_wp2_with fail
 refine (of_new [(Ap, cp, ps), (some ⟨w.heap.size + 1, 0, none⟩, 8, d.first 0), (A, c, d.bl)] 3 (by simp only [List.map_cons, List.map_nil]; exact Has.newAt (by simp)) rfl
  (all3 (By.more (B := w.heap.size) (by repeat (first | exact hp | refine By.alloc ?_ (by simp; try omega) _)) (by simp; try omega))
   (By.blk (t := 5) (fz := (0, 0)) (by repeat (first | exact Has.newAt (by simp) | refine Has.alloc ?_)) (Nat.le_refl _) (d.first_rng hR.ok (by decide)) (by simp [D7.first]) rfl rfl)
   (By.more (B := w.heap.size) (by repeat (first | exact hR.body | refine By.alloc ?_ (by simp; try omega) _)) (by simp; try omega))) (by simp)).mono ?_
 rintro e w5 ⟨q, rfl, hq, hq2, hb5⟩
 have hA : Has w5 (w.heap.size + 1) (.cells (u8s (d.first 0)).toArray 5 (0, 0)) := Has.below (by repeat (first | exact Has.newAt (by simp) | refine Has.alloc ?_)) hb5 (by simp; try omega)
 have hH5 := (hH.alloc.alloc).below hb5 (by simp; try omega)
 have hBD : Below w.heap.size w w5 := Below.trans (by repeat (first | exact Below.refl _ _ | refine Below.alloc ?_ (by simp; try omega) _)) (hb5.mono (by simp; try omega))
 have hqs : q = d.sum ps := by rw [hq.out]; simp [flat, D7.sum]
 have hA9 := (hA.setCell 2 (.int .u8 (q / 256))).setCell 3 (.int .u8 (q % 256))
 have hBE := Lib.hid (below_setCell (below_setCell hBD (Nat.le_succ _) 2 (.int .u8 (q / 256))) (Nat.le_succ _) 3 (.int .u8 (q % 256)))
 have e9 : ((u8s (d.first 0)).toArray.setIfInBounds 2 (.int .u8 (q / 256))).setIfInBounds 3 (.int .u8 (q % 256)) = (u8s (d.first q)).toArray := rfl
 rw [e9] at hA9
 have own := Lib.hid (OwnB.blk (n := 8) hA9 (Nat.le_succ w.heap.size) rfl (d.first_rng hR.ok hq2) (by simp [D7.first]))
 have yB := Lib.hid (hR.body.below hBE.out (Nat.le_refl _))
 have d2 := hA.cell 2 (v := .int .u8 0) rfl
 have d3 := hA.cell 3 (v := .int .u8 0) rfl
 have f2 := hA.free 2
 have f3 := hA.free 3
 have c3 := hH5.cell 3 (v := .slice A d.bl.length c) rfl
 have hs := Lib.hid hBE.out.size
 have hqsH := Lib.hid hqs
 clear hq hqs hA hA9 e9 hb5 hB hH hH5 hBD
 go_wp2_with (at_builtin; refine wpList_appB _ rfl _ _ _ rfl Try.underlying26 info8 w.heap.size _ (d.first q) rfl own.out _ A d.bl.length c d.bl rfl yB.out (by simp [D7.first]; omega) hs.out ?_; intro v' w7 own7 hg hat; have hbel := below_app own.out hg hs.out; obtain ⟨A', c', rfl, _⟩ := own_shape own7.own; clear d2 d3 f2 f3 c3)
 go_ret
 refine ⟨_, rfl, ?_, hBE.out.trans hbel⟩
 rw [D7.bytes, ← hqsH.out]
 rw [List.length_append] at own7
 exact own7

theorem iwrite4_any (d : D7) (A : Option Addr) (c : Nat) (w : World) (hR : Rd7 w.heap.size w d A c) :
  Calls Try.prog 33 #[.agg (d.cells A c)] w fun e w' => ∃ v s, e = .returned (.tuple #[v, .int .i64 s]) ∧ Hid (s = d.err) ∧ OwnB w' w.heap.size v (d.write []) ∧ Below w.heap.size w w' := by
 have hb := Nat.le_trans hR.body.cap hR.body.big
 have hB : Below w.heap.size w (w.alloc (.cells (d.cells A c) 43)) := (Below.refl _ _).alloc (Nat.le_refl _) _
 have hH : Has (w.alloc (.cells (d.cells A c) 43)) w.heap.size (.cells (d.cells A c) 43 (0, 0)) := Has.newAt rfl
 by_cases h0 : 65527 < d.bl.length
 ·have e1 : d.err = 2 := if_pos h0
  have e2 : d.write [] = [] := if_pos h0
  rw [e1, e2]
  have h0H := Lib.hid h0
  clear e1 e2 h0
  go_enter Try.func33, Try.ntmps33
  go_wp2_with (refine wpList_load_row rfl 43 (.tmp 1) rfl w.heap.size rfl 43 (d.cells A c) (0, 0) _ (World.alloc_heap_new _ _) Try.underlying43 rfl icmp_info ?_)
  refine (long7_any d A c _ hb).mono ?_
  rintro e w1 ⟨q, rfl, hq, hb1⟩
  obtain rfl : q = true := hq.out.trans (decide_eq_true h0H.out)
  go_wp2
  go_ret2
  exact ⟨_, _, rfl, Lib.hid rfl, OwnB.nil _ _, hB.trans (hb1.mono hB.size)⟩
 ·have e1 : d.err = 0 := if_neg h0
  have e2 : d.write [] = d.bytes [] := if_neg h0
  rw [e1, e2]
  have h0H := Lib.hid h0
  clear e1 e2 h0
  go_enter Try.func33, Try.ntmps33
  go_wp2_with (refine wpList_load_row rfl 43 (.tmp 1) rfl w.heap.size rfl 43 (d.cells A c) (0, 0) _ (World.alloc_heap_new _ _) Try.underlying43 rfl icmp_info ?_)
  refine (long7_any d A c _ hb).mono ?_
  rintro e w1 ⟨q, rfl, hq, hb1⟩
  obtain rfl : q = false := hq.out.trans (decide_eq_false h0H.out)
  have hH1 := hH.below hb1 hH.lt
  have hB1 := hB.trans (hb1.mono hB.size)
  clear hq hb1 hB hH
  have hR1 := (hR.below hB1 (Nat.le_refl _)).more (B' := w1.heap.size) hB1.size
  go_wp2_with (refine wpList_load_row rfl 43 (.tmp 1) rfl w.heap.size rfl 43 (d.cells A c) (0, 0) _ hH1 Try.underlying43 rfl icmp_info ?_)
  refine (write7_any d A c none 0 [] w1 hR1 (By.nil _ _ _ (by decide)) (by have := h0H.out; omega)).mono ?_
  rintro e w2 ⟨v, rfl, ho, hb2⟩
  obtain ⟨A', c', rfl, _⟩ := own_shape ho.own
  have ho2 := ho.more (base' := w.heap.size) hB1.size
  clear ho
  go_wp2
  go_ret2
  exact ⟨_, _, rfl, Lib.hid rfl, ho2, hB1.trans (hb2.mono hB1.size)⟩
end Go.Proofs.Ytjnphelfloiadaa
