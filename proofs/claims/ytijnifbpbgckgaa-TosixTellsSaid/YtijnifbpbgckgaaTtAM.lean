/-
  Lemmas and walks for the row of TosixTells (part 13 of 39).
-/
import Derived.Test.YtijnifbpbgckgaaTtAB
import Derived.Test.YtijnifbpbgckgaaTtAC
import Derived.Test.YtijnifbpbgckgaaTtAG
import Derived.Test.YtijnifbpbgckgaaTtAI
import Derived.Test.YtijnifbpbgckgaaTtAJ
import Derived.Test.YtijnifbpbgckgaaTtAK
import Derived.Test.YtijnifbpbgckgaaTtAL
import Derived.StillTailTactics
import Derived.Deep.RegionWith
import Derived.Lib.SliceRun
set_option linter.unusedVariables false
set_option linter.unusedSimpArgs false
namespace Go.Proofs.Ytijnifbpbgckgaa
open Go.RowKit

def two17 (l : List Int) (k : Nat) : Int := l.getD k 0 * 256 + l.getD (k + 1) 0
def put17 (b : List Int) (k : Nat) (n : Int) : List Int := (b.set k (n / 256)).set (k + 1) (n % 256)
def fix17 (udp : Bool) (n : Int) : Int := if n = 0 ∧ udp = true then 65535 else n
/-- a body whose checksum at a place is carried over -/
def carry17 (udp : Bool) (f t b : List Int) (k : Nat) : List Int := put17 b k (fix17 udp (updateS (two17 b k) f t).1)
def pro17 (p : Int) : Int := if p = 1 then 58 else p
def wrong17 (p : Int) : Bool := decide (p = 0 ∨ p = 43 ∨ p = 44 ∨ p = 58 ∨ p = 60)
def D4.part (d : D4) : Bool := d.mf || decide (0 < d.off)
def head17 (d : D4) (s t bl : List Int) : D6 := ⟨d.tos, 0, d.ttl, s, t, [], d.part, if d.part then d.id else 0, if d.part then d.off else 0, d.mf, pro17 d.proto, bl⟩
def from17 (d : D4) : List Int := d.src ++ d.dst ++ List.replicate 24 0
/-- a datagram's body on the other side, or why there is none -/
def body17 (d : D4) (s t : List Int) : List Int × Int :=
  if 0 < d.off then (d.bl, 0)
  else if d.proto = 6 then (if d.bl.length < 20 then ([], 173) else (carry17 false (from17 d) (s ++ t) d.bl 16, 0))
  else if d.proto = 17 then
    (if d.bl.length < 8 then ([], 173)
    else if d.bl.getD 6 0 = 0 ∧ d.bl.getD 7 0 = 0 then
      (if d.mf = true then ([], 172) else if two17 d.bl 4 ≠ d.bl.length then ([], 173) else (put17 d.bl 6 (fix17 true (65535 - sumw (pse6 s t d.bl.length 17 ++ d.bl))), 0))
    else (carry17 true (from17 d) (s ++ t) d.bl 6, 0))
  else (d.bl, 0)
def ptr17 (n : Int) : Int × Bool :=
  if n < 2 then (n, true) else if n < 4 then (4, true) else if n = 8 then (7, true) else if n = 9 then (6, true) else if 12 ≤ n ∧ n < 16 then (8, true) else if 16 ≤ n ∧ n < 20 then (24, true) else (0, false)
def mtu17 (n : Int) : Int := if n < 1260 then 1280 else n + 20
def unr17 (c : Int) : Int × Bool :=
  if c = 0 ∨ c = 1 ∨ c = 5 ∨ c = 6 ∨ c = 7 ∨ c = 8 ∨ c = 11 ∨ c = 12 then (0, true) else if c = 9 ∨ c = 10 ∨ c = 13 ∨ c = 15 then (1, true) else if c = 3 then (4, true) else (0, false)
/-- type, code and rest of a message on the other side -/
def kind17 (m : D7) : (Int × Int × Int) × Bool :=
  if m.ty = 8 then ((128, m.code, m.rest), true) else if m.ty = 0 then ((129, m.code, m.rest), true)
  else if m.ty = 3 then (if m.code = 2 then ((4, 1, 6), true) else if m.code = 4 then ((2, 0, mtu17 (m.rest % 65536)), true) else ((1, (unr17 m.code).1, 0), (unr17 m.code).2))
  else if m.ty = 11 then ((3, m.code, 0), true)
  else if m.ty = 12 then ((4, 0, (ptr17 (m.rest / 16777216)).1), (ptr17 (m.rest / 16777216)).2 && decide (m.code = 0 ∨ m.code = 2))
  else ((0, 0, 0), false)
/-- the body of a packet of which an error tells, as far as it is there -/
def told17 (d : D4) (s t : List Int) (n : Int) : List Int :=
  if 0 < d.off then d.bl
  else if d.proto = 6 ∧ 18 ≤ d.bl.length then carry17 false (from17 d) (s ++ t) d.bl 16
  else if d.proto = 17 ∧ 8 ≤ d.bl.length ∧ ¬ (d.bl.getD 6 0 = 0 ∧ d.bl.getD 7 0 = 0) then carry17 true (from17 d) (s ++ t) d.bl 6
  else if d.proto = 1 ∧ 4 ≤ d.bl.length then
    put17 (d.bl.set 0 (if d.bl.getD 0 0 = 8 then 128 else 129)) 2 (updateS (two17 d.bl 2) (d.bl.take 2 ++ List.replicate 38 0) ([if d.bl.getD 0 0 = 8 then 128 else 129, d.bl.getD 1 0] ++ s ++ t ++ [0, 0, n / 256, n % 256, 0, 58])).1
  else d.bl
def said17 (l : List Int) : Int := tot4 l - 20 - (of4 l).ol.length
/-- is an inner packet none? -/
def none17 (l : List Int) : Bool := decide (pe4 true l ≠ 0) || (decide ((of4 l).off = 0) && (decide ((of4 l).proto = 1) && (decide (0 < (of4 l).bl.length) && (decide ((of4 l).bl.getD 0 0 ≠ 0) && decide ((of4 l).bl.getD 0 0 ≠ 8)))))
def inside17 (l : List Int) (s t : List Int) : List Int × Int :=
  if none17 l then ([], 176) else if wrong17 (of4 l).proto then ([], 171)
  else (put17 (head17 (of4 l) s t []).bytes 4 (min (said17 l + ((head17 (of4 l) s t []).bytes.length - 40)) 65535) ++ told17 (of4 l) s t (said17 l), 0)
def msg17 (m : D7) (s t : List Int) : D7 × Int :=
  if (kind17 m).2 = false then (zero7, 175) else if 65527 < m.bl.length then (zero7, 2)
  else if 128 ≤ (kind17 m).1.1 then (⟨(kind17 m).1.1, (kind17 m).1.2.1, (kind17 m).1.2.2, m.bl⟩, 0)
  else if (inside17 m.bl s t).2 ≠ 0 then (zero7, (inside17 m.bl s t).2)
  else (⟨(kind17 m).1.1, (kind17 m).1.2.1, (kind17 m).1.2.2, (inside17 m.bl s t).1.take 1232⟩, 0)
/-- a message's body on the other side, or why there is none -/
def icmp17 (d : D4) (s t s' t' : List Int) : List Int × Int :=
  if d.part then ([], 174) else if perr7 d.bl [] ≠ 0 then ([], perr7 d.bl [])
  else if (msg17 (parse7 d.bl []) s' t').2 ≠ 0 then ([], (msg17 (parse7 d.bl []) s' t').2)
  else ((msg17 (parse7 d.bl []) s' t').1.write (pse6 s t (8 + (msg17 (parse7 d.bl []) s' t').1.bl.length) 58), 0)
def any17 (d : D4) (s t s' t' : List Int) : List Int × Int := if d.proto = 1 then icmp17 d s t s' t' else body17 d s t
def pack17 (d : D4) (s t s' t' : List Int) : D6 × Int :=
  if d.check ≠ 0 then (zero6, d.check) else if routOf d.ol then (zero6, 170) else if wrong17 d.proto then (zero6, 171)
  else if (any17 d s t s' t').2 ≠ 0 then (zero6, (any17 d s t s' t').2)
  else if (head17 d s t (any17 d s t s' t').1).check ≠ 0 then (zero6, 2) else (head17 d s t (any17 d s t s' t').1, 0)
/-- of which packet a datagram tells: its addresses, whether it tells of one, the error -/
def tells17 (d : D4) : (List Int × List Int) × Bool × Int :=
  if d.check ≠ 0 then (([0, 0, 0, 0], [0, 0, 0, 0]), false, d.check)
  else if d.part = true ∨ d.proto ≠ 1 then (([0, 0, 0, 0], [0, 0, 0, 0]), false, 0)
  else if perr7 d.bl [] ≠ 0 ∨ ((parse7 d.bl []).ty ≠ 3 ∧ (parse7 d.bl []).ty ≠ 11 ∧ (parse7 d.bl []).ty ≠ 12) then (([0, 0, 0, 0], [0, 0, 0, 0]), false, 0)
  else if pe4 true (parse7 d.bl []).bl ≠ 0 then (([0, 0, 0, 0], [0, 0, 0, 0]), false, 0)
  else (((of4 (parse7 d.bl []).bl).src, (of4 (parse7 d.bl []).bl).dst), true, 0)

theorem wrong17_eq (p : Int) : wrong17 p = (decide (p = 0) || (decide (p = 43) || (decide (p = 44) || (decide (p = 58) || decide (p = 60))))) := by
  unfold wrong17
  rw [Bool.eq_iff_iff]
  simp
theorem fix17_rng {udp : Bool} {n : Int} (h : 0 ≤ n ∧ n < 65536) : 0 ≤ fix17 udp n ∧ fix17 udp n < 65536 := by unfold fix17; split <;> omega
theorem put17_len (b : List Int) (k : Nat) (n : Int) : (put17 b k n).length = b.length := by simp [put17]
theorem InB.set {l : List Int} (h : InB l) (k : Nat) {n : Int} (hn : 0 ≤ n ∧ n ≤ 255) : InB (l.set k n) := by
  intro x hx
  rcases List.mem_or_eq_of_mem_set hx with h1 | rfl
  · exact h x h1
  · exact hn
theorem carry17_len (udp : Bool) (f t b : List Int) (k : Nat) : (carry17 udp f t b k).length = b.length := put17_len _ _ _
theorem from17_len (d : D4) : (from17 d).length = 32 := by simp [from17, D4.src, D4.dst]
end Go.Proofs.Ytijnifbpbgckgaa
namespace Go.Proofs.Ytijnifbpbgckgaa
open Go.RowKit Go.Shelf

def pZ6 : W6 := ⟨none, 0, [], none, 0⟩
/-- a datagram whose heads and bytes lie in memory of the call's own -/
structure Own6 (w : World) (base : Nat) (D : D6) (p : W6) : Prop where
  ok : D.ok
  own : OwnK w base 93 (.slice p.hA D.hs.length p.hc) p.ps
  hl : kdL p.ps = D.hs
  body : OwnB w base (.slice p.bA D.bl.length p.bc) D.bl
theorem own6_zero (w : World) (base : Nat) : Own6 w base zero6 pZ6 := ⟨zero6_ok, OwnK.nil _ _ _, rfl, OwnB.nil _ _⟩
theorem own_by6 {w : World} {base n : Nat} {A : Option Addr} {c : Nat} {l : List Int} (h : OwnB w base (.slice A n c) l) : By w.heap.size w A n c l := by
  obtain ⟨A', c', e, y⟩ := h.by_
  injection e with e1 e2 e3
  subst e1 e2 e3
  exact y
theorem Own6.rd {w : World} {base : Nat} {D : D6} {p : W6} (h : Own6 w base D p) : Rd6 w.heap.size w D p := by
  refine ⟨h.ok, h.hl, ?_, own_by6 h.body⟩
  obtain ⟨A, c, e, K⟩ := h.own.kds
  have hn : p.ps.length = D.hs.length := by rw [← h.hl, kdL_len]
  injection e with e1 e2 e3
  rw [hn] at K
  rw [e1, e3]
  exact K
theorem Own6.setRow {w : World} {base g : Nat} {cs : Array Value} {D : D6} {p : W6} (h : Own6 w base D p) (hg : g < base) : Own6 (w.setRow g cs) base D p :=
  ⟨h.ok, h.own.but6 (But6.setRow g w cs) hg, h.hl, h.body.but6 (But6.setRow g w cs) hg⟩
theorem Own6.more {w : World} {base base' : Nat} {D : D6} {p : W6} (h : Own6 w base D p) (hb : base' ≤ base) : Own6 w base' D p := ⟨h.ok, h.own.more hb, h.hl, h.body.more hb⟩
theorem Own6.below {w w' : World} {base : Nat} {D : D6} {p : W6} (h : Own6 w base D p) (hb : Below w.heap.size w w') : Own6 w' base D p := ⟨h.ok, h.own.below hb, h.hl, h.body.below hb⟩
end Go.Proofs.Ytijnifbpbgckgaa
namespace Go.Proofs.Ytijnifbpbgckgaa
open Go.RowKit Go.Shelf

/-- the cells of an api.Ends6 -/
def ends6 (s t : List Int) : Array Value :=
  #[.int .u8 (s.getD 0 0), .int .u8 (s.getD 1 0), .int .u8 (s.getD 2 0), .int .u8 (s.getD 3 0), .int .u8 (s.getD 4 0), .int .u8 (s.getD 5 0), .int .u8 (s.getD 6 0), .int .u8 (s.getD 7 0), .int .u8 (s.getD 8 0), .int .u8 (s.getD 9 0), .int .u8 (s.getD 10 0), .int .u8 (s.getD 11 0), .int .u8 (s.getD 12 0), .int .u8 (s.getD 13 0), .int .u8 (s.getD 14 0), .int .u8 (s.getD 15 0),
    .int .u8 (t.getD 0 0), .int .u8 (t.getD 1 0), .int .u8 (t.getD 2 0), .int .u8 (t.getD 3 0), .int .u8 (t.getD 4 0), .int .u8 (t.getD 5 0), .int .u8 (t.getD 6 0), .int .u8 (t.getD 7 0), .int .u8 (t.getD 8 0), .int .u8 (t.getD 9 0), .int .u8 (t.getD 10 0), .int .u8 (t.getD 11 0), .int .u8 (t.getD 12 0), .int .u8 (t.getD 13 0), .int .u8 (t.getD 14 0), .int .u8 (t.getD 15 0)]
structure E6ok (s t : List Int) : Prop where
  sL : s.length = 16
  s : InB s
  tL : t.length = 16
  t : InB t
theorem Rd4.to {w w' : World} {d : D4} {p : W4} (h : Rd4 w.heap.size w d p) (b : Below w.heap.size w w') : Rd4 w'.heap.size w' d p := (h.below b (Nat.le_refl _)).more b.size
theorem Rd7.to {w w' : World} {d : D7} {A : Option Addr} {c : Nat} (h : Rd7 w.heap.size w d A c) (b : Below w.heap.size w w') : Rd7 w'.heap.size w' d A c := (h.below b (Nat.le_refl _)).more b.size
end Go.Proofs.Ytijnifbpbgckgaa
namespace Go.Proofs.Ytijnifbpbgckgaa
open Go.RowKit Go.Shelf

theorem pseudo6_ok (a b : List Int) (ha : a.length = 16) (hb : b.length = 16) (ra : InB a) (rb : InB b) (p n : Int) (hp0 : 0 ≤ p) (hp1 : p ≤ 255) (h0 : 0 ≤ n) (h1 : n ≤ 65535) (w : World) :
    Calls Try.prog 69 #[.agg (u8s a).toArray, .agg (u8s b).toArray, .int .u8 p, .int .i64 n] w fun e w' => ∃ v, e = .returned (.tuple #[v, .int .i64 0]) ∧ OwnB w' w.heap.size v (a ++ b ++ [0, 0, n / 256, n % 256, 0, 0, 0, p]) ∧ Below w.heap.size w w' := by
    go_enter Try.func69, Try.ntmps69
    go_wp2
    have hr4 : InB [0, 0, IntKind.u8.wrap (n / 256), IntKind.u8.wrap n, 0, 0, 0, p] := fun x hx => by
      simp only [IntKind.wrap_u8, List.mem_cons, List.not_mem_nil, or_false] at hx
      omega
    have hb1 : Below w.heap.size w ((((w.alloc (.cells (u8s a).toArray 29)).alloc (.cells (u8s b).toArray 29)).alloc (.cells (u8s [0, 0, IntKind.u8.wrap (n / 256), IntKind.u8.wrap n, 0, 0, 0, p]).toArray 5)).alloc (.cells #[Value.slice (some ⟨w.heap.size, 0, none⟩) 16 16, Value.slice (some ⟨w.heap.size + 1, 0, none⟩) 16 16, Value.slice (some ⟨w.heap.size + 1 + 1, 0, none⟩) 8 8] 25)).drew :=
      (((((Below.refl _ w).alloc (Nat.le_refl _) _).alloc (by simp) _).alloc (by simp; omega) _).alloc (by simp; omega) _).drew
    go_region_with (go_at_call 87; (refine (concat_any _ _ [(some ⟨w.heap.size, 0, none⟩, 16, a), (some ⟨w.heap.size + 1, 0, none⟩, 16, b), (some ⟨w.heap.size + 1 + 1, 0, none⟩, 8, [0, 0, IntKind.u8.wrap (n / 256), IntKind.u8.wrap n, 0, 0, 0, p])] _
      (Parts.blk (t := 25) (fz := (0, 0)) (by simp only [List.map_cons, List.map_nil, ha, hb]; repeat (first | exact Has.newAt (by simp) | refine Has.drew ?_ | refine Has.alloc ?_)) (Nat.le_refl _) rfl
        (all3 (By.blk (t := 29) (fz := (0, 0)) (by repeat (first | exact Has.newAt (by simp) | refine Has.drew ?_ | refine Has.alloc ?_)) (Nat.le_refl _) ra (show a.length ≤ _ by omega) rfl (by simp [ha]))
         (By.blk (t := 29) (fz := (0, 0)) (by repeat (first | exact Has.newAt (by simp) | refine Has.drew ?_ | refine Has.alloc ?_)) (Nat.le_refl _) rb (show b.length ≤ _ by omega) rfl (by simp [hb]))
         (By.blk (t := 5) (fz := (0, 0)) (by repeat (first | exact Has.newAt (by simp) | refine Has.drew ?_ | refine Has.alloc ?_)) (Nat.le_refl _) hr4 (by simp) rfl rfl)) (by simp)) (by simp [flat]; omega)).mono ?_); rintro e w' ⟨v, rfl, hown, hb2⟩; obtain ⟨A', c', rfl, _⟩ := own_shape hown.own)
    go_wp2
    go_ret2
    refine ⟨_, rfl, ?_, hb1.trans (hb2.mono hb1.size)⟩
    have he : flat [(some ⟨w.heap.size, 0, none⟩, 16, a), (some ⟨w.heap.size + 1, 0, none⟩, 16, b), (some ⟨w.heap.size + 1 + 1, 0, none⟩, 8, [0, 0, IntKind.u8.wrap (n / 256), IntKind.u8.wrap n, 0, 0, 0, p])] = a ++ b ++ [0, 0, n / 256, n % 256, 0, 0, 0, p] := by
      simp only [flat, List.map_cons, List.map_nil, List.flatten_cons, List.flatten_nil, IntKind.wrap_u8, List.append_nil, List.append_assoc]
      rw [show n / 256 % 256 = n / 256 from by omega]
    rw [← he]
    exact hown.more hb1.size
end Go.Proofs.Ytijnifbpbgckgaa
namespace Go.Proofs.Ytijnifbpbgckgaa
open Go.RowKit Go.Shelf

theorem icmp_info : (Try.prog.info? 46).map (·.size) = some 4 := by kernel_rfl

theorem long7_any (d : D7) (A : Option Addr) (c : Nat) (w : World) (hb : d.bl.length ≤ 9223372036854775807) :
    Calls Try.prog 68 #[.agg (d.cells A c)] w fun e w' => ∃ q : Bool, e = .returned (.bool q) ∧ Hid (q = decide (65527 < d.bl.length)) ∧ Below w.heap.size w w' := by
  unfold D7.cells
  go_enter Try.func68, Try.ntmps68
  go_wp2
  go_ret
  exact ⟨_, rfl, Lib.hid (decide_eq_decide.2 (by omega)), (Below.refl _ _).alloc (Nat.le_refl _) _⟩

set_option maxRecDepth 100000 in
theorem write7_any (d : D7) (A : Option Addr) (c : Nat) (Ap : Option Addr) (cp : Nat) (ps : List Int) (w : World) (hR : Rd7 w.heap.size w d A c) (hp : By w.heap.size w Ap ps.length cp ps) (h0 : d.bl.length ≤ 65527) :
    Calls Try.prog 70 #[.agg (d.cells A c), .slice Ap ps.length cp] w fun e w' => ∃ v, e = .returned v ∧ OwnB w' w.heap.size v (d.bytes ps) ∧ Below w.heap.size w w' := by
  have r1 := hR.ok.ty
  have r2 := hR.ok.code
  have r3 := hR.ok.rest
  have hB : Below w.heap.size w (w.alloc (.cells (d.cells A c) 46)) := (Below.refl _ _).alloc (Nat.le_refl _) _
  have hH : Has (w.alloc (.cells (d.cells A c) 46)) w.heap.size (.cells (d.cells A c) 46 (0, 0)) := Has.newAt rfl
  unfold D7.cells
  go_enter Try.func70, Try.ntmps70
  go_wp2_with fail
  refine (of_new [(Ap, cp, ps), (some ⟨w.heap.size + 1, 0, none⟩, 8, d.first 0), (A, c, d.bl)] 3 (by simp only [List.map_cons, List.map_nil]; exact Has.newAt (by simp)) rfl
    (all3 (By.more (B := w.heap.size) (by repeat (first | exact hp | refine By.alloc ?_ (by simp; try omega) _)) (by simp; try omega))
      (By.blk (t := 5) (fz := (0, 0)) (by repeat (first | exact Has.newAt (by simp) | refine Has.alloc ?_)) (Nat.le_refl _) (d.first_rng hR.ok (by decide)) (by simp [D7.first]) rfl rfl)
      (By.more (B := w.heap.size) (by repeat (first | exact hR.body | refine By.alloc ?_ (by simp; try omega) _)) (by simp; try omega))) (by simp)).mono ?_
  rintro e w5 ⟨q, rfl, hq, hq2, hb5⟩
  have hA : Has w5 (w.heap.size + 1) (.cells (u8s (d.first 0)).toArray 5 (0, 0)) := Has.below (by repeat (first | exact Has.newAt (by simp) | refine Has.alloc ?_)) hb5 (by simp; try omega)
  have hH5 := (hH.alloc.alloc).below hb5 (by simp; try omega)
  have hBD : Below w.heap.size w w5 := Below.trans (by repeat (first | exact Below.refl _ _ | refine Below.alloc ?_ (by simp; try omega) _)) (hb5.mono (by simp; try omega))
  have hqs : q = d.sum ps := by rw [hq.out]; simp [flat, D7.sum]
  have hA9 := (hA.setCell 2 (.int .u8 (q / 256))).setCell 3 (.int .u8 (q % 256))
  have hBE := Lib.hid (below_setCell (below_setCell hBD (Nat.le_succ _) 2 (.int .u8 (q / 256))) (Nat.le_succ _) 3 (.int .u8 (q % 256)))
  have e9 : ((u8s (d.first 0)).toArray.setIfInBounds 2 (.int .u8 (q / 256))).setIfInBounds 3 (.int .u8 (q % 256)) = (u8s (d.first q)).toArray := rfl
  rw [e9] at hA9
  have own := Lib.hid (OwnB.blk (n := 8) hA9 (Nat.le_succ w.heap.size) rfl (d.first_rng hR.ok hq2) (by simp [D7.first]))
  have yB := Lib.hid (hR.body.below hBE.out (Nat.le_refl _))
  have d2 := hA.cell 2 (v := .int .u8 0) rfl
  have d3 := hA.cell 3 (v := .int .u8 0) rfl
  have f2 := hA.free 2
  have f3 := hA.free 3
  have c3 := hH5.cell 3 (v := .slice A d.bl.length c) rfl
  have hs := Lib.hid hBE.out.size
  have hqsH := Lib.hid hqs
  clear hq hqs hA hA9 e9 hb5 hB hH hH5 hBD
  go_wp2_with (at_builtin; refine wpList_appB _ rfl _ _ _ rfl Try.underlying25 info8 w.heap.size _ (d.first q) rfl own.out _ A d.bl.length c d.bl rfl yB.out (by simp [D7.first]; omega) hs.out ?_; intro v' w7 own7 hg hat; have hbel := below_app own.out hg hs.out; obtain ⟨A', c', rfl, _⟩ := own_shape own7.own; clear d2 d3 f2 f3 c3)
  go_ret
  refine ⟨_, rfl, ?_, hBE.out.trans hbel⟩
  rw [D7.bytes, ← hqsH.out]
  rw [List.length_append] at own7
  exact own7

end Go.Proofs.Ytijnifbpbgckgaa
