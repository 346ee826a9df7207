/-
  Lemmas and walks for the row of TofourRight,TofourLong (part 21 of 33).
-/
import Derived.Test.YtjnphelfloiadaaFrAD
import Derived.Test.YtjnphelfloiadaaFrAF
import Derived.Test.YtjnphelfloiadaaFrAP
import Derived.Test.YtjnphelfloiadaaFrAQ
import Derived.Test.YtjnphelfloiadaaFrAR
import Derived.Test.YtjnphelfloiadaaFrAS
import Derived.Test.YtjnphelfloiadaaFrAT
import Derived.Laws.OwnMore
set_option linter.unusedVariables false
set_option linter.unusedSimpArgs false
namespace Go.Proofs.Ytjnphelfloiadaa
open Go.ChangeShapes Go.WideShapes Go.ChangeAt Go.RowKit Go.Shelf

section
variable {H : Type} {enc : TypeId × Value → H} {W : World} {base : Nat} {spare : Nat → Bool} {held : Bool}
theorem l4_eq {a : List Int} (h : a.length = 4) : l4 a = a := by
 match a, h with
 | [_, _, _, _], _ => rfl
set_option maxRecDepth 100000 in
theorem open_ends4 {v : Value} {d : DataW H} {p : List MemPlace} {r : Reach} {b0 : Nat} (hv : Value.okWide Try.prog W r b0 32 v) (h : DataW.Trod enc Try.prog W base spare held 32 v d p) :
  ∃ s t, v = .agg (e4c s t) ∧ E4ok s t := by
 have ht := Try.underlying32
 simp only [Value.okWide, ht] at hv
 obtain ⟨cs, rfl, _⟩ := hv
 obtain ⟨fuel, hf⟩ := h
 have hlen : cs.toList.length = 8 := (struct_len ht hf).trans (by kernel_rfl)
 have hk : ∃ m, _ := field_at ht hf
 obtain ⟨m, g⟩ := hk
 obtain ⟨y0, e0⟩ := g 0 _ 4 rfl (by kernel_rfl)
 obtain ⟨y1, e1⟩ := g 1 _ 4 rfl (by kernel_rfl)
 obtain ⟨a, q0, n0, r0⟩ := trod_u8s Try.underlying30 Try.underlying5 (by kernel_rfl) (by kernel_rfl) e0
 obtain ⟨b, q1, n1, r1⟩ := trod_u8s Try.underlying30 Try.underlying5 (by kernel_rfl) (by kernel_rfl) e1
 refine ⟨a, b, ?_, ⟨n0, r0, n1, r1⟩⟩
 have hl := two_parts (n := 4) hlen q0.symm q1.symm
 show Value.agg cs = Value.agg (u8s (l4 a) ++ u8s (l4 b)).toArray
 rw [l4_eq n0, l4_eq n1, ← Array.toArray_toList (xs := cs), hl]
end
end Go.Proofs.Ytjnphelfloiadaa
namespace Go.Proofs.Ytjnphelfloiadaa
open Go.RowKit

/-- what the first bytes of a datagram are, where they are some -/
theorem got6_part {l : List Int} (hB : InB l) (h : (g6 false l).err = 0) : (got6 false l).check = 0 ∧ (got6 false l).ahead + (got6 false l).bl.length = l.length ∧ 40 ≤ (got6 false l).ahead ∧ (0 ≤ said18 l ∧ said18 l < 65536) ∧ 40 ≤ l.length := by
 have hG := g6_gok hB h
 obtain ⟨h1, h2, h3, h4, _⟩ := g6_ok h
 have hok := of6_ok hB h
 have b4 := getD_byte hB 4
 have b5 := getD_byte hB 5
 have b1 := getD_byte hB 1
 have b2 := getD_byte hB 2
 have b3 := getD_byte hB 3
 have hs6 : said6 l ≤ 65535 := by unfold said6; omega
 have hps := hG.pos
 have hle := hG.le
 have ht := hG.tail hB
 unfold said18 got6
 rw [if_pos h]
 have hah : (of6 l (g6 false l)).ahead = (g6 false l).pos := by
  have e : (of6 l (g6 false l)).frag = (g6 false l).frag := rfl
  unfold D6.ahead
  rw [e]
  simp only [of6]
  simp only [hsz] at hps
  cases hf : (g6 false l).frag <;> simp only [hf, if_true, Bool.false_eq_true, if_false] at hps ⊢ <;> omega
 have hbl : (of6 l (g6 false l)).bl.length = l.length - (g6 false l).pos := by simp [of6]
 have h40 : 40 ≤ (of6 l (g6 false l)).ahead := by unfold D6.ahead; omega
 have hlab : (of6 l (g6 false l)).lab < 1048576 := by simp only [of6]; omega
 have htl : (of6 l (g6 false l)).tail = true := by
  have e : (of6 l (g6 false l)).frag = (g6 false l).frag := rfl
  unfold D6.tail
  rw [e]
  cases hf : (g6 false l).frag with
  | true =>
   rw [hf, if_pos rfl] at ht
   rw [if_pos rfl]
   exact decide_eq_true ht
  | false =>
   rw [hf, if_neg (by simp)] at ht
   rw [if_neg (by simp)]
   exact decide_eq_true ht
 have hri : (of6 l (g6 false l)).right = true := by
  unfold D6.right
  rw [htl, decide_eq_true hlab]
  have e1 : (of6 l (g6 false l)).hs = (g6 false l).hs := rfl
  rw [e1, hG.okh, decide_eq_true hG.len]
  rfl
 refine ⟨?_, by omega, h40, by omega, h1⟩
 unfold D6.check
 rw [hri, if_neg (by decide), if_neg (by omega)]
/-- what holds of a datagram that may be -/
theorem check18 {d : D6} (h : d.check = 0) : okH 0 d.hs = true ∧ (0 ≤ d.off ∧ d.off ≤ 8191) ∧ d.bl.length ≤ 65535 := by
 obtain ⟨hr, hl⟩ := D6.ok_of_check h
 obtain ⟨-, -, ho, ht⟩ := D6.right_true hr
 refine ⟨ho, ?_, by omega⟩
 unfold D6.tail at ht
 split at ht
 ·exact of_decide_eq_true ht
 ·have := of_decide_eq_true ht
  omega
theorem pro18_rng {p : Int} (h : 0 ≤ p ∧ p ≤ 255) : 0 ≤ pro18 p ∧ pro18 p ≤ 255 := by unfold pro18; split <;> omega
theorem four_rng {s : List Int} (hL : s.length = 4) (h : InB s) : InB [s.getD 0 0, s.getD 1 0, s.getD 2 0, s.getD 3 0] := by
 match s, hL with
 | [_, _, _, _], _ => exact h
theorem head18_ok {d : D6} (hd : d.ok) {s t bl : List Int} (hE : E4ok s t) : (head18 d s t bl).ok := by
 have h1 := hd.id
 have h2 := hd.off
 refine ⟨hd.cls, ?_, ?_, hd.hop, pro18_rng hd.pro, four_rng hE.sL hE.s, four_rng hE.tL hE.t⟩
 ·show 0 ≤ (if d.frag then d.id % 65536 else 0) ∧ (if d.frag then d.id % 65536 else 0) < 65536
  split <;> omega
 ·show -9223372036854775808 ≤ (if d.frag then d.off else 0) ∧ (if d.frag then d.off else 0) ≤ 9223372036854775807
  split <;> omega
theorem head18_check {d : D6} (h : 0 ≤ d.off ∧ d.off ≤ 8191) (s t bl : List Int) : (head18 d s t bl).check = if 65515 < bl.length then 2 else 0 := by
 have e : (head18 d s t bl).off = if d.frag then d.off else 0 := rfl
 have e1 : (head18 d s t bl).ol = [] := rfl
 have e2 : (head18 d s t bl).bl = bl := rfl
 have h0 : ¬ ((head18 d s t bl).off < 0 ∨ (head18 d s t bl).off > 8191 ∨ (head18 d s t bl).ol.length > 40 ∨ (head18 d s t bl).ol.length % 4 ≠ 0) := by
  rw [e, e1]
  simp only [List.length_nil]
  split <;> omega
 unfold D4.check
 rw [if_neg h0, e1, e2]
 simp only [List.length_nil, Nat.sub_zero]
theorem head18_write {d : D6} (h : 0 ≤ d.off ∧ d.off ≤ 8191) (s t : List Int) : (head18 d s t []).write = (head18 d s t []).first (head18 d s t []).sum := by
 have hc : (head18 d s t []).check = 0 := by rw [head18_check h, if_neg (by simp)]
 unfold D4.write D4.bytes
 rw [if_pos hc]
 have e1 : (head18 d s t []).ol = [] := rfl
 have e2 : (head18 d s t []).bl = [] := rfl
 rw [e1, e2, List.append_nil, List.append_nil]
/-- the bytes of the sum do not matter where they are set anew -/
theorem sum18_any (d : D4) (q N : Int) : put17 (put17 (d.first q) 2 N) 10 0 = put17 (put17 (d.first 0) 2 N) 10 0 := rfl
theorem none18_iff {l : List Int} : none18 l = true ↔ ((g6 false l).err ≠ 0 ∨ ((got6 false l).off = 0 ∧ (got6 false l).pro = 58 ∧ 0 < (got6 false l).bl.length ∧ (got6 false l).bl.getD 0 0 ≠ 128 ∧ (got6 false l).bl.getD 0 0 ≠ 129)) := by
 simp only [none18, Bool.or_eq_true, Bool.and_eq_true, decide_eq_true_eq]
theorem inside18_none {l s t : List Int} (h : none18 l = true) : inside18 l s t = ([], 176) := by rw [inside18, if_pos h]
theorem inside18_route {l s t : List Int} (h : none18 l = false) (h1 : routed18 (got6 false l).hs = true) : inside18 l s t = ([], 170) := by rw [inside18, if_neg (by rw [h]; decide), if_pos h1]
theorem inside18_wrong {l s t : List Int} (h : none18 l = false) (h0 : routed18 (got6 false l).hs = false) (h1 : wrong18 (got6 false l).pro = true) : inside18 l s t = ([], 171) := by rw [inside18, if_neg (by rw [h]; decide), if_neg (by rw [h0]; decide), if_pos h1]
theorem inside18_ok {l s t : List Int} {D : D6} (hD : got6 false l = D) (h : none18 l = false) (h0 : routed18 D.hs = false) (h1 : wrong18 D.pro = false) : inside18 l s t = (sum18 (put17 ((head18 D s t []).first 0) 2 (min (said18 l + 20) 65535)) ++ told18 D s t (said18 l), 0) := by
 subst hD
 rw [inside18, if_neg (by rw [h]; decide), if_neg (by rw [h0]; decide), if_neg (by rw [h1]; decide)]
theorem ptr18_rng {n : Int} (h : 0 ≤ n) : 0 ≤ (ptr18 n).1 ∧ (ptr18 n).1 ≤ 255 := by
 unfold ptr18
 repeat' split
 all_goals (simp only []; omega)
theorem mtu18_rng (n : Int) : 0 ≤ mtu18 n ∧ mtu18 n < 65536 := by
 unfold mtu18
 split
 ·decide
 ·split
  ·decide
  ·omega
theorem kind18_ok {m : D7} (hm : m.ok) (bl : List Int) : (⟨(kind18 m).1.1, (kind18 m).1.2.1, (kind18 m).1.2.2, bl⟩ : D7).ok := by
 have h1 := hm.rest
 have h2 := hm.code
 have h3 := mtu18_rng m.rest
 have h4 := ptr18_rng h1.1
 refine ⟨?_, ?_, ?_⟩
 all_goals (show 0 ≤ _ ∧ _)
 all_goals unfold kind18
 all_goals repeat' split
 all_goals (simp only []; omega)
theorem msg18_ok {m : D7} {s t : List Int} (hm : m.ok) : (msg18 m s t).1.ok := by
 unfold msg18
 repeat' split
 all_goals first | exact zero7_ok | exact kind18_ok hm _
theorem msg18_len {m : D7} {s t : List Int} : (msg18 m s t).1.bl.length ≤ 65527 := by
 unfold msg18
 split
 ·exact Nat.zero_le _
 ·split
  ·exact Nat.zero_le _
  ·split
   ·simp only []; omega
   ·split
    ·exact Nat.zero_le _
    ·simp only [List.length_take]; omega
end Go.Proofs.Ytjnphelfloiadaa
namespace Go.Proofs.Ytjnphelfloiadaa
open Go.RowKit

section
variable {P : Program}
theorem arrN_equal (t e : TypeId) (n : Nat) (ht : P.underlying t = some (.array n e)) (he : P.underlying e = some (.int .u8)) (hs : (P.info? e).map (·.size) = some 1) (a b : List Int) (ha : a.length = n) (hb : b.length = n) (w : World) :
  (Op.equalIn 10000 t (.agg (u8s a).toArray) (.agg (u8s b).toArray)).run P w = .ok (decide (a = b)) w := by
 have hsz : (sizeOf e).run P w = .ok 1 w := by
  cases hq : P.info? e with
  | none => simp [hq] at hs
  | some i => simp [hq] at hs; simp [sizeOf, typeInfo, hq, hs]
 have hi : ∀ a b : Int, (Op.equalIn 9999 e (.int .u8 a) (.int .u8 b)).run P w = .ok (a == b) w := fun a b => run_equalIn_int w 9998 e .u8 .u8 a b he
 rw [show (10000 : Nat) = 9999 + 1 from rfl]
 unfold Op.equalIn
 have hagg : (isAgg e).run P w = .ok false w := by
  unfold isAgg
  rw [Sem.run_bind, run_underlying he w]
  rfl
 have hp : ∀ (cs : List Int) (i : Nat), i < cs.length → (part e (u8s cs).toArray i).run P w = .ok (.int .u8 (cs.getD i 0)) w := fun cs i hx => by
  have : (u8s cs)[i]? = some (.int .u8 (cs.getD i 0)) := by simp [u8s, hx, List.getD]
  simp [part, hagg, this]
 have key : ∀ (m i : Nat), i + m = n → (forIn (List.range' i m) ((none : Option Bool), ()) fun i (_ : Option Bool × Unit) => do
    let x ← part e (u8s a).toArray i
    let y ← part e (u8s b).toArray i
    let z ← Op.equalIn 9999 e x y
    if z = false then pure (ForInStep.done (some false, ())) else pure (ForInStep.yield (none, ()))).run P w = .ok (if a.drop i = b.drop i then (none, ()) else (some false, ())) w := by
  intro m
  induction m with
  | zero =>
   intro i hi
   rw [List.drop_of_length_le (by omega), List.drop_of_length_le (by omega)]
   simp
  | succ m ih =>
   intro i hin
   have ea : a.drop i = a.getD i 0 :: a.drop (i + 1) := by
    rw [List.drop_eq_getElem_cons (by omega)]
    simp [List.getD, List.getElem?_eq_getElem (show i < a.length by omega)]
   have eb : b.drop i = b.getD i 0 :: b.drop (i + 1) := by
    rw [List.drop_eq_getElem_cons (by omega)]
    simp [List.getD, List.getElem?_eq_getElem (show i < b.length by omega)]
   rw [List.range'_succ, List.forIn_cons, ea, eb]
   simp only [Sem.run_bind, hp a i (by omega), hp b i (by omega), Result.andThen_ok, hi]
   by_cases hq : a.getD i 0 = b.getD i 0
   ·have h2 : (a.getD i 0 == b.getD i 0) = true := by simpa using hq
    rw [h2]
    simp only [Bool.true_eq_false, if_false, Sem.run_pure, Result.andThen_ok]
    rw [ih (i + 1) (by omega), hq]
    simp
   ·have h2 : (a.getD i 0 == b.getD i 0) = false := by simpa using hq
    rw [h2, if_neg (show ¬ (a.getD i 0 :: a.drop (i + 1) = b.getD i 0 :: b.drop (i + 1)) from fun h => hq (List.cons.inj h).1)]
    simp only [if_true, Sem.run_pure, Result.andThen_ok]
 have k0 := key n 0 (by omega)
 rw [List.drop_zero, List.drop_zero] at k0
 simp [run_underlying ht, hsz, Std.Legacy.Range.forIn_eq_forIn_range']
 rw [k0]
 by_cases hab : a = b <;> simp [hab]
theorem ex_ne_arrN {ρ : Operand → Value} {o : Oper} {t z e : TypeId} {x y : Operand} {n : Nat} {a b : List Int} {w : World} {q : Bool} (ho : o.op = .binOp .neq t x y z) (ht : P.underlying t = some (.array n e)) (he : P.underlying e = some (.int .u8)) (hs : (P.info? e).map (·.size) = some 1) (hg : P.eqGuardType P.depth t = false)
  (hx : ρ x = .agg (u8s a).toArray) (hy : ρ y = .agg (u8s b).toArray) (ha : a.length = n) (hb : b.length = n) (h : (!decide (a = b)) = q) : (execOp ρ o).run P w = .ok (.value (.bool q)) w := by
 have h1 := arrN_equal t e n ht he hs a b ha hb w
 subst h
 unfold execOp
 have h3 := run_eqGuard_agg (P := P) w .neq t x y (u8s a).toArray (u8s b).toArray hg
 have h2 : (binOp .neq t (.agg (u8s a).toArray) (.agg (u8s b).toArray)).run P w = .ok (.bool (!decide (a = b))) w := by
  have h4 : (Op.equal t (.agg (u8s a).toArray) (.agg (u8s b).toArray)).run P w = .ok (decide (a = b)) w := h1
  simp [binOp, h4]
 simp only [ho, hx, hy, Sem.run_bind, h3, Result.andThen_ok, h2, Sem.run_pure]
end
end Go.Proofs.Ytjnphelfloiadaa
namespace Go.Proofs.Ytjnphelfloiadaa
open Go.RowKit Go.Shelf

section
variable {P : Program}
end
section
variable {P : Program}
theorem ex_eq_bool6 {ρ : Operand → Value} {o : Oper} {t z : TypeId} {x y : Operand} {b b' q : Bool} {w : World} (ho : o.op = .binOp .eql t x y z) (ht : P.underlying t = some .bool) (hx : ρ x = .bool b) (hy : ρ y = .bool b') (h : (b == b') = q) : (execOp ρ o).run P w = .ok (.value (.bool q)) w := by
 rw [ex_eq_bool ho ht hx hy, h]
theorem ex_ne_bool6 {ρ : Operand → Value} {o : Oper} {t z : TypeId} {x y : Operand} {b b' q : Bool} {w : World} (ho : o.op = .binOp .neq t x y z) (ht : P.underlying t = some .bool) (hx : ρ x = .bool b) (hy : ρ y = .bool b') (h : (b != b') = q) : (execOp ρ o).run P w = .ok (.value (.bool q)) w := by
 have he : (Op.equal t (.bool b) (.bool b')).run P w = .ok (b == b') w := run_equalIn_bool w 9999 t b b' ht
 subst h
 unfold execOp
 simp [ho, hx, hy, eqGuard, binOp, he, bne]
end
end Go.Proofs.Ytjnphelfloiadaa
namespace Go.Proofs.Ytjnphelfloiadaa
open Go.RowKit Go.Shelf

structure K6 (w' : World) (g : Nat) (D : D6) (p : W6) : Prop where
 has : Has w' g (.cells (D.cells p) 28 (0, 0))
 rd : Rd6 w'.heap.size w' D p
theorem K6.below {w w' : World} {g : Nat} {D : D6} {p : W6} (h : K6 w g D p) (hb : Below w.heap.size w w') : K6 w' g D p := ⟨h.has.below hb h.has.lt, (h.rd.below hb (Nat.le_refl _)).more hb.size⟩
theorem K6.new (C : Array Value) {w : World} {D : D6} {p : W6} (hr : Rd6 w.heap.size w D p) : K6 ((w.alloc (.cells C 28)).setRow w.heap.size (D.cells p)) w.heap.size D p ∧ Below w.heap.size w ((w.alloc (.cells C 28)).setRow w.heap.size (D.cells p)) := by
 have hb : Below w.heap.size w ((w.alloc (.cells C 28)).setRow w.heap.size (D.cells p)) := ((Below.refl _ _).alloc (Nat.le_refl _) _).trans below_setRow'
 exact ⟨⟨(Has.newAt (o := .cells C 28) rfl).setRow_same, (hr.below hb (Nat.le_refl _)).more hb.size⟩, hb⟩
end Go.Proofs.Ytjnphelfloiadaa
namespace Go.Proofs.Ytjnphelfloiadaa
open Go.RowKit Go.Shelf

section
variable {P : Program}
end
def rdr (A : Option Addr) (N c : Nat) (k bad pos : Int) : Array Value := #[.slice A N c, .int .i64 k, .int .i64 bad, .int .i64 pos]
/-- the reference's reader in block gr at the k-th of bytes l that lie below B, and its datagram in block gv -/
structure RT (B G gr gv : Nat) (W0 w : World) (A : Option Addr) (N c k : Nat) (bad pos : Int) (D : D6) (p : W6) : Prop where
 rd : Has w gr (.cells (rdr A N c (k : Int) bad pos) 156 (0, 0))
 vv : Has w gv (.cells (D.cells p) 28 (0, 0))
 own : OwnK w G 108 (.slice p.hA D.hs.length p.hc) p.ps
 hl : kdL p.ps = D.hs
 bel : Below B W0 w
theorem RT.drew {B G gr gv : Nat} {W0 w : World} {A : Option Addr} {N c k : Nat} {bad pos : Int} {D : D6} {p : W6} (h : RT B G gr gv W0 w A N c k bad pos D p) : RT B G gr gv W0 w.drew A N c k bad pos D p := ⟨h.rd.drew, h.vv.drew, h.own.below (below_drew _ _), h.hl, h.bel.trans (below_drew _ _)⟩
end Go.Proofs.Ytjnphelfloiadaa
namespace Go.Proofs.Ytjnphelfloiadaa
open Go.RowKit Go.Shelf

section
variable {P : Program}
end
theorem RT.atOf {B G gr gv : Nat} {W0 w : World} {A : Option Addr} {N c k : Nat} {bad pos : Int} {D : D6} {p : W6} (h : RT B G gr gv W0 w A N c k bad pos D p) : atOf w gr = k := by
 unfold Go.Proofs.Ytjnphelfloiadaa.atOf
 rw [h.rd.cell 1 (v := .int .i64 (k : Int)) rfl]
 simp
end Go.Proofs.Ytjnphelfloiadaa
namespace Go.Proofs.Ytjnphelfloiadaa
open Go.RowKit Go.Shelf

theorem write_err (d : D4) (p : W4) (w : World) (hl : d.ol.length ≤ 9223372036854775807) (hl2 : d.bl.length ≤ 9223372036854775807) (h0 : d.check ≠ 0) :
  Calls Try.prog 51 #[.agg (d.cells p)] w fun e w' => e = .returned (.tuple #[.slice none 0 0, .int .i64 d.check]) ∧ Below w.heap.size w w' := by
 have hB : Below w.heap.size w (w.alloc (.cells (d.cells p) 35)) := (Below.refl _ _).alloc (Nat.le_refl _) _
 have hcH := Lib.hid (size_any d p (w.alloc (.cells (d.cells p) 35)) hl hl2)
 have hcsH := Lib.hid (d.check_cases.resolve_left h0)
 clear h0
 go_enter Try.func51, Try.ntmps51
 go_wp2_with (refine wpList_load_row rfl 35 (.tmp 1) rfl w.heap.size rfl 35 (d.cells p) (0, 0) _ (World.alloc_heap_new _ _) Try.underlying35 rfl v4_info ?_)
 refine hcH.out.mono ?_
 rintro e w1 ⟨⟨q, r, s, rfl, hq⟩, hb1⟩
 clear hcH
 have hq2 : s = 45 ∨ s = 2 := by rw [hq.out.2.2]; exact hcsH.out
 rcases hq2 with rfl | rfl
 ·go_wp2
  go_ret2
  exact ⟨by rw [← hq.out.2.2]; rfl, hB.trans (hb1.mono hB.size)⟩
 ·go_wp2
  go_ret2
  exact ⟨by rw [← hq.out.2.2]; rfl, hB.trans (hb1.mono hB.size)⟩

/-- what Write answers -/
theorem write_any (d : D4) (p : W4) (w : World) (hR : Rd4 w.heap.size w d p) :
  Calls Try.prog 51 #[.agg (d.cells p)] w fun e w' => ∃ v s, e = .returned (.tuple #[v, .int .i64 s]) ∧ Hid (s = d.check) ∧ OwnB w' w.heap.size v d.write ∧ Below w.heap.size w w' := by
 have b1 := Nat.le_trans hR.opt.cap hR.opt.big
 have b2 := Nat.le_trans hR.body.cap hR.body.big
 by_cases h0 : d.check = 0
 ·refine (write_ok d p w hR h0).mono ?_
  rintro e w' ⟨v, rfl, ho, hb⟩
  refine ⟨v, 0, rfl, Lib.hid h0.symm, ?_, hb⟩
  unfold D4.write
  rw [if_pos h0]
  exact ho
 ·refine (write_err d p w b1 b2 h0).mono ?_
  rintro e w' ⟨rfl, hb⟩
  refine ⟨_, _, rfl, Lib.hid rfl, ?_, hb⟩
  unfold D4.write
  rw [if_neg h0]
  exact OwnB.nil _ _
end Go.Proofs.Ytjnphelfloiadaa
namespace Go.Proofs.Ytjnphelfloiadaa
open Go.RowKit Go.Shelf

/-- where Head stands: its own bytes so far, the datagram's block, what lay before -/
structure Hd (w : World) (d : D4) (p : W4) (x : World) (v : Value) (l : List Int) : Prop where
 own : OwnB x (w.heap.size + 1) v l
 has : Has x w.heap.size (.cells (d.cells p) 35 (0, 0))
 bel : Below w.heap.size w x
 big : w.heap.size + 1 ≤ x.heap.size
theorem Hd.call {w : World} {d : D4} {p : W4} {x x' : World} {v : Value} {l : List Int} (h : Hd w d p x v l) (hb : Below x.heap.size x x') : Hd w d p x' v l :=
 ⟨h.own.below hb, h.has.below hb h.has.lt, h.bel.trans (hb.mono h.bel.size), Nat.le_trans h.big hb.size⟩
theorem Hd.alloc {w : World} {d : D4} {p : W4} {x : World} {v : Value} {l : List Int} (h : Hd w d p x v l) (o : Obj) : Hd w d p (x.alloc o) v l := h.call ((Below.refl _ _).alloc (Nat.le_refl _) o)
theorem Hd.app {w : World} {d : D4} {p : W4} {x x' : World} {v v' : Value} {l l' : List Int} (h : Hd w d p x v l) (ho : OwnB x' (w.heap.size + 1) v' l') (hg : x.grownBy x' v.ownBlock) : Hd w d p x' v' l' := by
 have hb := below_app h.own hg h.big
 exact ⟨ho, h.has.below hb (by omega), h.bel.trans (hb.mono (by omega)), Nat.le_trans h.big hg.size⟩

end Go.Proofs.Ytjnphelfloiadaa
namespace Go.Proofs.Ytjnphelfloiadaa
open Go.RowKit Go.Shelf

theorem Own6.to {w w' : World} {base : Nat} {D : D6} {p : W6} (h : Own6 w base D p) (b : Below w.heap.size w w') : Own6 w' base D p := h.below b
theorem ppart6_x {A : Option Addr} {n c : Nat} {l : List Int} {w : World} (y : By w.heap.size w A n c l) :
  Calls Try.prog 48 #[.slice A n c] w fun e w' => ∃ v, e = .returned v ∧ (∃ p, v = .tuple #[.agg ((got6 false l).cells p), .int .i64 ((g6 false l).pat : Int), .int .i64 (g6 false l).err] ∧ Own6 w' w.heap.size (got6 false l) p) ∧ Below w.heap.size w w' := by
 obtain rfl := y.len
 refine (ppart6_any A c l w y).mono fun e w' h => ?_
 obtain ⟨⟨p, a', s', rfl, ha, hs, ho⟩, hb⟩ := h
 exact ⟨_, rfl, ⟨p, by rw [ha.out, hs.out], ho⟩, hb⟩
theorem size6_x {d : D6} {p : W6} {w : World} (hR : Rd6 w.heap.size w d p) (h0 : d.check = 0) :
  Calls Try.prog 49 #[.agg (d.cells p)] w fun e w' => ∃ v, e = .returned v ∧ v = .tuple #[.int .i64 d.all, .int .i64 (d.ahead : Int), .int .i64 0] ∧ Below w.heap.size w w' := by
 refine (size6_any d p w hR).mono fun e w' h => ?_
 obtain ⟨⟨q, r, s, rfl, hq⟩, hb⟩ := h
 have e2 : d.headI = (d.ahead : Int) := by unfold D6.headI; rw [if_pos h0]
 exact ⟨_, rfl, by rw [hq.out.1, hq.out.2.1, hq.out.2.2, e2, h0], hb⟩
theorem write4_x {d : D4} {p : W4} {w : World} (hR : Rd4 w.heap.size w d p) (h0 : d.check = 0) :
  Calls Try.prog 51 #[.agg (d.cells p)] w fun e w' => ∃ v, e = .returned v ∧ (∃ u, v = .tuple #[u, .int .i64 0] ∧ OwnB w' w.heap.size u d.write) ∧ Below w.heap.size w w' := by
 refine (write_any d p w hR).mono fun e w' h => ?_
 obtain ⟨u, s, rfl, hs, ho, hb⟩ := h
 exact ⟨_, rfl, ⟨u, by rw [hs.out, h0], ho⟩, hb⟩
theorem of1 {g n c : Nat} {A : Option Addr} {l : List Int} {w : World} (h : Has w g (.cells #[.slice A n c] 26 (0, 0))) (y : By w.heap.size w A n c l) :
  Calls Try.prog 53 #[.slice (some ⟨g, 0, none⟩) 1 1] w fun e w' => ∃ v, e = .returned v ∧ (∃ q, v = .int .u16 q ∧ q = 65535 - sumw l ∧ 0 ≤ q ∧ q < 65536) ∧ Below w.heap.size w w' := by
 obtain rfl := y.len
 have hs := sumw_rng _ y.rng
 have hf : flat [(A, c, l)] = l := by simp [flat]
 refine (of_any (some ⟨g, 0, none⟩) 1 [(A, c, l)] w (Parts.of1 (A, c, l) h.lt (h.cell 0 rfl) y)).mono fun e w' h => ?_
 rw [hf] at h
 exact ⟨_, h.1, ⟨_, rfl, rfl, by omega, by omega⟩, h.2⟩
theorem iparse6_x {a b : List Int} (ha : a.length = 16) (hb : b.length = 16) (ra : InB a) (rb : InB b) {A : Option Addr} {n c : Nat} {l : List Int} {w : World} (y : By w.heap.size w A n c l) :
  Calls Try.prog 32 #[.agg (u8s (l16 a)).toArray, .agg (u8s (l16 b)).toArray, .slice A n c] w fun e w' => ∃ v, e = .returned v ∧ (∃ A' c', v = .tuple #[.agg ((parse7 l (pse6 a b l.length 58)).cells A' c'), .int .i64 (perr7 l (pse6 a b l.length 58))] ∧ (parse7 l (pse6 a b l.length 58)).ok ∧ OwnB w' w.heap.size (.slice A' (parse7 l (pse6 a b l.length 58)).bl.length c') (parse7 l (pse6 a b l.length 58)).bl) ∧ Below w.heap.size w w' := by
 obtain rfl := y.len
 rw [u8s_16 ha, u8s_16 hb]
 refine (iparse6_any a b ha hb ra rb A c l w y).mono fun e w' h => ?_
 obtain ⟨⟨A', c', s', rfl, hs, hk, ho⟩, hb⟩ := h
 exact ⟨_, rfl, ⟨A', c', by rw [hs.out], hk, ho⟩, hb⟩
theorem iwrite4_x {d : D7} {A : Option Addr} {c : Nat} {w : World} (hR : Rd7 w.heap.size w d A c) :
  Calls Try.prog 33 #[.agg (d.cells A c)] w fun e w' => ∃ v, e = .returned v ∧ (∃ u, v = .tuple #[u, .int .i64 d.err] ∧ OwnB w' w.heap.size u (d.write [])) ∧ Below w.heap.size w w' := by
 refine (iwrite4_any d A c w hR).mono fun e w' h => ?_
 obtain ⟨u, s', rfl, hs, ho, hB⟩ := h
 exact ⟨_, rfl, ⟨u, by rw [hs.out], ho⟩, hB⟩
theorem head18_rd0 {w : World} {d : D6} (hd : d.ok) {s t : List Int} (hE : E4ok s t) : Rd4 w.heap.size w (head18 d s t []) ⟨none, 0, none, 0⟩ := ⟨head18_ok hd hE, By.nil _ _ none (Nat.zero_le _), By.nil _ _ none (Nat.zero_le _)⟩
end Go.Proofs.Ytjnphelfloiadaa
