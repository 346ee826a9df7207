/-
  Lemmas and walks for the row of TofourTells (part 33 of 37).
-/
import Derived.Test.YtjnphelfloiadaaFtAA
import Derived.Test.YtjnphelfloiadaaFtAC
import Derived.Test.YtjnphelfloiadaaFtAD
import Derived.Test.YtjnphelfloiadaaFtAE
import Derived.Test.YtjnphelfloiadaaFtAP
import Derived.Test.YtjnphelfloiadaaFtAR
import Derived.Below
import Derived.LoopN
set_option linter.unusedVariables false
set_option linter.unusedSimpArgs false
namespace Go.Proofs.Ytjnphelfloiadaa
open Go.RowKit

/-- a UDP datagram's numbers and bytes -/
structure DU where
 (src dst : Int) (bl : List Int)
def DU.cells (u : DU) (A : Option Addr) (c : Nat) : Array Value := #[.int .u16 u.src, .int .u16 u.dst, .slice A u.bl.length c]
structure DU.ok (u : DU) : Prop where
 src : 0 ≤ u.src ∧ u.src < 65536
 dst : 0 ≤ u.dst ∧ u.dst < 65536
structure RdU (B : Nat) (w : World) (u : DU) (A : Option Addr) (c : Nat) : Prop where
 ok : u.ok
 body : By B w A u.bl.length c u.bl
theorem RdU.below {B B' : Nat} {w w' : World} {u : DU} {A : Option Addr} {c : Nat} (h : RdU B w u A c) (hb : Below B' w w') (hB : B ≤ B') : RdU B w' u A c := ⟨h.ok, h.body.below hb hB⟩
theorem RdU.more {B B' : Nat} {w : World} {u : DU} {A : Option Addr} {c : Nat} (h : RdU B w u A c) (hB : B ≤ B') : RdU B' w u A c := ⟨h.ok, h.body.more hB⟩
/-- a segment's numbers and bytes -/
structure DT where
 (src dst seq ack flags window urgent : Int) (ol bl : List Int)
structure WT where
 (oA : Option Addr) (oc : Nat) (bA : Option Addr) (bc : Nat)
def DT.cells (t : DT) (p : WT) : Array Value := #[.int .u16 t.src, .int .u16 t.dst, .int .u32 t.seq, .int .u32 t.ack, .int .u8 t.flags, .int .u16 t.window, .int .u16 t.urgent, .slice p.oA t.ol.length p.oc, .slice p.bA t.bl.length p.bc]
structure DT.ok (t : DT) : Prop where
 src : 0 ≤ t.src ∧ t.src < 65536
 dst : 0 ≤ t.dst ∧ t.dst < 65536
 seq : 0 ≤ t.seq ∧ t.seq < 4294967296
 ack : 0 ≤ t.ack ∧ t.ack < 4294967296
 flags : 0 ≤ t.flags ∧ t.flags ≤ 255
 window : 0 ≤ t.window ∧ t.window < 65536
 urgent : 0 ≤ t.urgent ∧ t.urgent < 65536
structure RdT (B : Nat) (w : World) (t : DT) (p : WT) : Prop where
 ok : t.ok
 opt : By B w p.oA t.ol.length p.oc t.ol
 body : By B w p.bA t.bl.length p.bc t.bl
theorem RdT.below {B B' : Nat} {w w' : World} {t : DT} {p : WT} (h : RdT B w t p) (hb : Below B' w w') (hB : B ≤ B') : RdT B w' t p := ⟨h.ok, h.opt.below hb hB, h.body.below hb hB⟩
theorem RdT.more {B B' : Nat} {w : World} {t : DT} {p : WT} (h : RdT B w t p) (hB : B ≤ B') : RdT B' w t p := ⟨h.ok, h.opt.more hB, h.body.more hB⟩

/-- the pseudo header of IPv4 -/
def pse4 (a b : List Int) (n p : Int) : List Int := a ++ b ++ [0, p, n / 256, n % 256]
/-- a UDP datagram's first eight bytes, with a checksum -/
def DU.first (u : DU) (s : Int) : List Int := [u.src / 256, u.src % 256, u.dst / 256, u.dst % 256, (8 + u.bl.length : Int) / 256, (8 + u.bl.length : Int) % 256, s / 256, s % 256]
def nz (s : Int) : Int := if s = 0 then 65535 else s
def DU.sum (u : DU) (ps : List Int) : Int := nz (65535 - sumw (ps ++ (u.first 0 ++ u.bl)))
def DU.bytes (u : DU) (ps : List Int) : List Int := u.first (u.sum ps) ++ u.bl
def DU.err (u : DU) : Int := if 65527 < u.bl.length then 2 else 0
def DU.write (u : DU) (ps : List Int) : List Int := if 65527 < u.bl.length then [] else u.bytes ps
theorem DU.first_rng {u : DU} (hu : u.ok) (h : u.bl.length ≤ 65527) {s : Int} (hs : 0 ≤ s ∧ s < 65536) : InB (u.first s) := by
 have h1 := hu.src; have h2 := hu.dst
 intro x hx
 simp only [DU.first, List.mem_cons, List.not_mem_nil, or_false] at hx
 rcases hx with rfl | rfl | rfl | rfl | rfl | rfl | rfl | rfl
 all_goals omega
/-- may a segment be -/
def DT.check (t : DT) : Int := if 64 ≤ t.flags ∨ 40 < t.ol.length ∨ t.ol.length % 4 ≠ 0 then 63 else if 65515 - t.ol.length < t.bl.length then 2 else 0
def DT.first (t : DT) (s : Int) : List Int :=
 [t.src / 256, t.src % 256, t.dst / 256, t.dst % 256, t.seq / 16777216, t.seq / 65536 % 256, t.seq / 256 % 256, t.seq % 256, t.ack / 16777216, t.ack / 65536 % 256, t.ack / 256 % 256, t.ack % 256,
  (20 + t.ol.length : Int) / 4 * 16, t.flags, t.window / 256, t.window % 256, s / 256, s % 256, t.urgent / 256, t.urgent % 256]
def DT.sum (t : DT) (ps : List Int) : Int := 65535 - sumw (ps ++ (t.first 0 ++ t.ol ++ t.bl))
def DT.bytes (t : DT) (ps : List Int) : List Int := t.first (t.sum ps) ++ t.ol ++ t.bl
def DT.write (t : DT) (ps : List Int) : List Int := if t.check = 0 then t.bytes ps else []

end Go.Proofs.Ytjnphelfloiadaa
namespace Go.Proofs.Ytjnphelfloiadaa
open Go.RowKit Go.Shelf

/-- an own row that grew: other own rows stand, and where it lies now -/
structure Grew (w w' : World) (v v' : Value) : Prop where
 keeps : ∀ (b2 : Nat) (v2 : Value) (l2 : List Int), OwnB w b2 v2 l2 → (v2.ownBlock = none ∨ v2.ownBlock ≠ v.ownBlock) → OwnB w' b2 v2 l2
 row : v'.ownBlock = v.ownBlock ∨ ∃ g, v'.ownBlock = some g ∧ w.heap.size ≤ g
 size : w.heap.size ≤ w'.heap.size
theorem Grew.refl (w : World) (v : Value) : Grew w w v v := ⟨fun _ _ _ h _ => h, .inl rfl, Nat.le_refl _⟩
theorem Grew.app {w w1 w2 : World} {v v1 v2 : Value} (h : Grew w w1 v v1) (o : Obj) (hg : (w1.alloc o).grownBy w2 v1.ownBlock) (hat : v2.ownBlock = v1.ownBlock ∨ v2.ownBlock = some (w1.alloc o).heap.size) : Grew w w2 v v2 := by
 have hs := hg.size
 simp at hs
 have hz := h.size
 refine ⟨fun b2 x l2 hx hne => ((h.keeps b2 x l2 hx hne).alloc o).grown hg ?_, ?_, by omega⟩
 ·rcases h.row with h1 | ⟨g, h1, hge⟩
  ·rw [h1]; exact hne
  ·rw [h1]
   right
   intro he
   have := (hx.base g he).2
   omega
 ·rcases hat with h2 | h2
  ·rw [h2]; exact h.row
  ·exact .inr ⟨_, h2, by simp; omega⟩
set_option maxRecDepth 100000 in
set_option maxHeartbeats 1000000 in
theorem put2_gr (base : Nat) (v : Value) (l : List Int) (x : Int) (h0 : 0 ≤ x) (h1 : x < 65536) (w : World) (ho : OwnB w base v l) (hb : base ≤ w.heap.size) (hl : l.length ≤ 1000000) :
  Calls Try.prog 76 #[v, .int .u64 x, .int .i64 2] w fun e w' => ∃ v', e = .returned v' ∧ OwnB w' base v' (l ++ [x / 256, x % 256]) ∧ Below base w w' ∧ Grew w w' v v' := by
 obtain ⟨A, c, rfl, _⟩ := own_shape ho.own
 go_enter Try.func76, Try.ntmps76
 go_wp2
 refine wp_loop_rounds 3 ?_
 have hG0 := Grew.refl w (.slice A l.length c)
 rw [rounds_succ]
 go_wp2_with (at_builtin; refine wpList_appB _ rfl _ _ _ rfl Try.underlying26 info8 base (.slice A l.length c) _ rfl (ho.alloc _) _ _ 1 1 [x / 256] rfl (By.blk (t := 5) (fz := (0, 0)) (Has.newAt rfl) (Nat.le_refl _) (by intro y hy; simp at hy; omega) (by simp) rfl rfl) (by simp; omega) (by simp; omega) ?_; intro v1 w1 ho1 hg1 ha1)
 have hB1 : Below base w w1 := (Below.refl base w).trans (((Below.refl _ _).alloc (by omega) _).trans (below_app (ho.alloc _) hg1 (by simp; omega)))
 have hG1 := hG0.app _ hg1 ha1 
 have hb1 : base ≤ w1.heap.size := Nat.le_trans hb hB1.size
 have hw1 : w.heap.size ≤ w1.heap.size := hG1.size
 clear hg1 ha1
 have hl1 : (l ++ [x / 256]).length ≤ 1000001 := by simp; omega
 rw [rounds_succ]
 go_wp2_with (at_builtin; refine wpList_appB _ rfl _ _ _ rfl Try.underlying26 info8 base (v1) _ rfl (ho1.alloc _) _ _ 1 1 [x % 256] rfl (By.blk (t := 5) (fz := (0, 0)) (Has.newAt rfl) (Nat.le_refl _) (by intro y hy; simp at hy; omega) (by simp) rfl rfl) (by simp; omega) (by simp; omega) ?_; intro v2 w2 ho2 hg2 ha2)
 have hB2 : Below base w w2 := hB1.trans (((Below.refl _ _).alloc (by omega) _).trans (below_app (ho1.alloc _) hg2 (by simp; omega)))
 have hG2 := hG1.app _ hg2 ha2 
 have hb2 : base ≤ w2.heap.size := Nat.le_trans hb hB2.size
 have hw2 : w.heap.size ≤ w2.heap.size := hG2.size
 clear hg2 ha2
 have hl2 : (l ++ [x / 256] ++ [x % 256]).length ≤ 1000002 := by simp; omega
 obtain ⟨A', c', rfl, _⟩ := own_shape ho2.own
 rw [rounds_succ]
 go_wp2
 go_ret
 exact ⟨_, rfl, by simpa using ho2, hB2, hG2⟩
theorem put2_any (base : Nat) (v : Value) (l : List Int) (x : Int) (h0 : 0 ≤ x) (h1 : x < 65536) (w : World) (ho : OwnB w base v l) (hb : base ≤ w.heap.size) (hl : l.length ≤ 1000000) :
  Calls Try.prog 76 #[v, .int .u64 x, .int .i64 2] w fun e w' => ∃ v', e = .returned v' ∧ OwnB w' base v' (l ++ [x / 256, x % 256]) ∧ Below base w w' :=
 (put2_gr base v l x h0 h1 w ho hb hl).mono fun _ _ ⟨v', h1, h2, h3, _⟩ => ⟨v', h1, h2, h3⟩
end Go.Proofs.Ytjnphelfloiadaa
namespace Go.Proofs.Ytjnphelfloiadaa
open Go.RowKit Go.Shelf

/-- a whole row of bytes copied into a block of the call's own -/
theorem wpList_copy_all {P : Program} {w : World} {ops : Array Oper} {rest : List Oper} {o : Oper} {a : Act} {Q : Exit → Act → World → Prop} (hgd : o.guard = none) (d s : Operand) (dT sT : TypeId)
  (ho : o.op = .call { callee := .builtin .copy, args := #[d, s], argTypes := #[dT, sT] }) {elem : TypeId} (hu : P.underlying dT = some (.slice elem)) (hsz : (P.info? elem).map (·.size) = some 1)
  (g n c : Nat) (A : Option Addr) (hd : a.eval d = .slice (some ⟨g, 0, none⟩) n n) (hs : a.eval s = .slice A n c) (old : Array Value) (t : TypeId) (hg : Has w g (.cells old t (0, 0))) (hold : old.size = n)
  (l : List Int) (B : Nat) (hy : By B w A n c l) (hpos : 0 < n) (h : wpList P ops Q rest (a.put o.dst (goInt n)) (w.setRow g (u8s l).toArray)) : wpList P ops Q (o :: rest) a w := by
 obtain ⟨b, off, rfl, _, hc⟩ := hy.row.at_ hpos
 have hl := hy.len
 have hul : (u8s l).length = n := by rw [u8s_length, hl]
 refine wpList_copy_own hgd d s dT sT ho elem hu hsz g 0 n n ⟨b, off, none⟩ n c hd hs old t hg (u8s l) (by rw [hul]; simp) (fun j v hj => ?_) (by omega) (u8s_one l) ?_
 ·have hjn : j < n := by have := (List.getElem?_eq_some_iff.1 hj).1; omega
  rw [Go.WideShapes.add_plain, hc j hjn, hj]
 ·have e : (old.toList.take 0 ++ (u8s l ++ old.toList.drop (0 + (u8s l).length))).toArray = (u8s l).toArray := by
   rw [hul, Nat.zero_add, List.drop_of_length_le (by simp [hold])]; simp
  rw [e, hul]
  exact h

set_option maxRecDepth 100000 in
set_option maxHeartbeats 2000000 in
theorem rpse4_any (a b : List Int) (ha : a.length = 4) (hb : b.length = 4) (p n : Int) (hp0 : 0 ≤ p) (hp1 : p ≤ 255) (h0 : 0 ≤ n) (h1 : n ≤ 65535) (A1 A2 : Option Addr) (c1 c2 : Nat) (w : World) (y1 : By w.heap.size w A1 4 c1 a) (y2 : By w.heap.size w A2 4 c2 b) :
  Calls Try.prog 19 #[.slice A1 4 c1, .slice A2 4 c2, .int .u8 p, .int .i64 n] w fun e w' => ∃ v, e = .returned v ∧ OwnB w' w.heap.size v (pse4 a b n p) ∧ Below w.heap.size w w' := by
 have hB : Below w.heap.size w ((w.alloc (.cells #[.int .u8 0, .int .u8 0, .int .u8 0, .int .u8 0] 29)).alloc (.cells #[.int .u8 0, .int .u8 0, .int .u8 0, .int .u8 0] 29)) := ((Below.refl _ _).alloc (Nat.le_refl _) _).alloc (by simp) _
 have hX1 : Has ((w.alloc (.cells #[.int .u8 0, .int .u8 0, .int .u8 0, .int .u8 0] 29)).alloc (.cells #[.int .u8 0, .int .u8 0, .int .u8 0, .int .u8 0] 29)) w.heap.size (.cells #[.int .u8 0, .int .u8 0, .int .u8 0, .int .u8 0] 29 (0, 0)) := (Has.newAt rfl).alloc
 have hX2 : Has ((w.alloc (.cells #[.int .u8 0, .int .u8 0, .int .u8 0, .int .u8 0] 29)).alloc (.cells #[.int .u8 0, .int .u8 0, .int .u8 0, .int .u8 0] 29)) (w.heap.size + 1) (.cells #[.int .u8 0, .int .u8 0, .int .u8 0, .int .u8 0] 29 (0, 0)) := Has.newAt (by simp)
 have x1 := y1.below hB (Nat.le_refl _)
 have hB1 := hB.trans (below_setRow' (w := ((w.alloc (.cells #[.int .u8 0, .int .u8 0, .int .u8 0, .int .u8 0] 29)).alloc (.cells #[.int .u8 0, .int .u8 0, .int .u8 0, .int .u8 0] 29))) (g := w.heap.size) (cs := (u8s a).toArray))
 have x2 := y2.below hB1 (Nat.le_refl _)
 have hX2 := hX2.setRow_other (Nat.succ_ne_self w.heap.size) (cs' := (u8s a).toArray)
 have hX1' := (hX1.setRow_same (cs' := (u8s a).toArray)).setRow_other (Nat.succ_ne_self w.heap.size).symm (cs' := (u8s b).toArray)
 have hX2' := hX2.setRow_same (cs' := (u8s b).toArray)
 have hB2 := hB1.trans ((below_setRow' (w := ((w.alloc (.cells #[.int .u8 0, .int .u8 0, .int .u8 0, .int .u8 0] 29)).alloc (.cells #[.int .u8 0, .int .u8 0, .int .u8 0, .int .u8 0] 29)).setRow w.heap.size (u8s a).toArray) (g := w.heap.size + 1) (cs := (u8s b).toArray)).mono (Nat.le_succ _))
 have hia : (Try.prog.info? 29).map (·.size) = some (u8s a).toArray.size := by rw [show (u8s a).toArray.size = 4 from by simp [u8s_length, ha]]; kernel_rfl
 have hib : (Try.prog.info? 29).map (·.size) = some (u8s b).toArray.size := by rw [show (u8s b).toArray.size = 4 from by simp [u8s_length, hb]]; kernel_rfl
 obtain ⟨ps, hps⟩ : ∃ ps, pse4 a b n p = ps := ⟨_, rfl⟩
 rw [hps]
 have hpsH := Lib.hid hps
 clear hps
 go_enter Try.func19, Try.ntmps19
 go_wp2_with (first
  | (with_reducible refine wpList_copy_all rfl (.tmp 20) (.tmp 21) _ _ rfl Try.underlying26 (by kernel_rfl) w.heap.size 4 c1 A1 rfl rfl _ _ hX1 rfl a _ x1 (by decide) ?_)
  | (with_reducible refine wpList_copy_all rfl (.tmp 23) (.tmp 24) _ _ rfl Try.underlying26 (by kernel_rfl) (w.heap.size + 1) 4 c2 A2 rfl rfl _ _ hX2 rfl b _ x2 (by decide) ?_)
  | (refine wpList_load_row rfl 29 (.tmp 9) rfl w.heap.size rfl 29 (u8s a).toArray (0, 0) _ hX1' Try.underlying29 rfl hia ?_)
  | (refine wpList_load_row rfl 29 (.tmp 10) rfl (w.heap.size + 1) rfl 29 (u8s b).toArray (0, 0) _ hX2' Try.underlying29 rfl hib ?_))
 refine (rpseudo4_ok a b ha hb y1.rng y2.rng p n hp0 hp1 h0 h1 _).mono ?_
 rintro e w1 ⟨v, rfl, ho, hb1⟩
 have ho : OwnB w1 w.heap.size v ps := by have h := ho.more hB2.size; rw [← hpsH.out]; exact h
 obtain ⟨A', c', rfl, _⟩ := own_shape ho.own
 go_wp2
 go_ret
 exact ⟨_, rfl, ho, hB2.trans (hb1.mono hB2.size)⟩

set_option maxRecDepth 100000 in
set_option maxHeartbeats 2000000 in
theorem rpse6_any (a b : List Int) (ha : a.length = 16) (hb : b.length = 16) (p n : Int) (hp0 : 0 ≤ p) (hp1 : p ≤ 255) (h0 : 0 ≤ n) (h1 : n ≤ 65535) (A1 A2 : Option Addr) (c1 c2 : Nat) (w : World) (y1 : By w.heap.size w A1 16 c1 a) (y2 : By w.heap.size w A2 16 c2 b) :
  Calls Try.prog 19 #[.slice A1 16 c1, .slice A2 16 c2, .int .u8 p, .int .i64 n] w fun e w' => ∃ v, e = .returned v ∧ OwnB w' w.heap.size v (pse6 a b n p) ∧ Below w.heap.size w w' := by
 have hB : Below w.heap.size w ((w.alloc (.cells #[.int .u8 0, .int .u8 0, .int .u8 0, .int .u8 0, .int .u8 0, .int .u8 0, .int .u8 0, .int .u8 0, .int .u8 0, .int .u8 0, .int .u8 0, .int .u8 0, .int .u8 0, .int .u8 0, .int .u8 0, .int .u8 0] 23)).alloc (.cells #[.int .u8 0, .int .u8 0, .int .u8 0, .int .u8 0, .int .u8 0, .int .u8 0, .int .u8 0, .int .u8 0, .int .u8 0, .int .u8 0, .int .u8 0, .int .u8 0, .int .u8 0, .int .u8 0, .int .u8 0, .int .u8 0] 23)) := ((Below.refl _ _).alloc (Nat.le_refl _) _).alloc (by simp) _
 have hX1 : Has ((w.alloc (.cells #[.int .u8 0, .int .u8 0, .int .u8 0, .int .u8 0, .int .u8 0, .int .u8 0, .int .u8 0, .int .u8 0, .int .u8 0, .int .u8 0, .int .u8 0, .int .u8 0, .int .u8 0, .int .u8 0, .int .u8 0, .int .u8 0] 23)).alloc (.cells #[.int .u8 0, .int .u8 0, .int .u8 0, .int .u8 0, .int .u8 0, .int .u8 0, .int .u8 0, .int .u8 0, .int .u8 0, .int .u8 0, .int .u8 0, .int .u8 0, .int .u8 0, .int .u8 0, .int .u8 0, .int .u8 0] 23)) w.heap.size (.cells #[.int .u8 0, .int .u8 0, .int .u8 0, .int .u8 0, .int .u8 0, .int .u8 0, .int .u8 0, .int .u8 0, .int .u8 0, .int .u8 0, .int .u8 0, .int .u8 0, .int .u8 0, .int .u8 0, .int .u8 0, .int .u8 0] 23 (0, 0)) := (Has.newAt rfl).alloc
 have hX2 : Has ((w.alloc (.cells #[.int .u8 0, .int .u8 0, .int .u8 0, .int .u8 0, .int .u8 0, .int .u8 0, .int .u8 0, .int .u8 0, .int .u8 0, .int .u8 0, .int .u8 0, .int .u8 0, .int .u8 0, .int .u8 0, .int .u8 0, .int .u8 0] 23)).alloc (.cells #[.int .u8 0, .int .u8 0, .int .u8 0, .int .u8 0, .int .u8 0, .int .u8 0, .int .u8 0, .int .u8 0, .int .u8 0, .int .u8 0, .int .u8 0, .int .u8 0, .int .u8 0, .int .u8 0, .int .u8 0, .int .u8 0] 23)) (w.heap.size + 1) (.cells #[.int .u8 0, .int .u8 0, .int .u8 0, .int .u8 0, .int .u8 0, .int .u8 0, .int .u8 0, .int .u8 0, .int .u8 0, .int .u8 0, .int .u8 0, .int .u8 0, .int .u8 0, .int .u8 0, .int .u8 0, .int .u8 0] 23 (0, 0)) := Has.newAt (by simp)
 have x1 := y1.below hB (Nat.le_refl _)
 have hB1 := hB.trans (below_setRow' (w := ((w.alloc (.cells #[.int .u8 0, .int .u8 0, .int .u8 0, .int .u8 0, .int .u8 0, .int .u8 0, .int .u8 0, .int .u8 0, .int .u8 0, .int .u8 0, .int .u8 0, .int .u8 0, .int .u8 0, .int .u8 0, .int .u8 0, .int .u8 0] 23)).alloc (.cells #[.int .u8 0, .int .u8 0, .int .u8 0, .int .u8 0, .int .u8 0, .int .u8 0, .int .u8 0, .int .u8 0, .int .u8 0, .int .u8 0, .int .u8 0, .int .u8 0, .int .u8 0, .int .u8 0, .int .u8 0, .int .u8 0] 23))) (g := w.heap.size) (cs := (u8s a).toArray))
 have x2 := y2.below hB1 (Nat.le_refl _)
 have hX2 := hX2.setRow_other (Nat.succ_ne_self w.heap.size) (cs' := (u8s a).toArray)
 have hX1' := (hX1.setRow_same (cs' := (u8s a).toArray)).setRow_other (Nat.succ_ne_self w.heap.size).symm (cs' := (u8s b).toArray)
 have hX2' := hX2.setRow_same (cs' := (u8s b).toArray)
 have hB2 := hB1.trans ((below_setRow' (w := ((w.alloc (.cells #[.int .u8 0, .int .u8 0, .int .u8 0, .int .u8 0, .int .u8 0, .int .u8 0, .int .u8 0, .int .u8 0, .int .u8 0, .int .u8 0, .int .u8 0, .int .u8 0, .int .u8 0, .int .u8 0, .int .u8 0, .int .u8 0] 23)).alloc (.cells #[.int .u8 0, .int .u8 0, .int .u8 0, .int .u8 0, .int .u8 0, .int .u8 0, .int .u8 0, .int .u8 0, .int .u8 0, .int .u8 0, .int .u8 0, .int .u8 0, .int .u8 0, .int .u8 0, .int .u8 0, .int .u8 0] 23)).setRow w.heap.size (u8s a).toArray) (g := w.heap.size + 1) (cs := (u8s b).toArray)).mono (Nat.le_succ _))
 have hia : (Try.prog.info? 23).map (·.size) = some (u8s a).toArray.size := by rw [show (u8s a).toArray.size = 16 from by simp [u8s_length, ha]]; kernel_rfl
 have hib : (Try.prog.info? 23).map (·.size) = some (u8s b).toArray.size := by rw [show (u8s b).toArray.size = 16 from by simp [u8s_length, hb]]; kernel_rfl
 obtain ⟨ps, hps⟩ : ∃ ps, pse6 a b n p = ps := ⟨_, rfl⟩
 rw [hps]
 have hpsH := Lib.hid hps
 clear hps
 go_enter Try.func19, Try.ntmps19
 go_wp2_with (first
  | (with_reducible refine wpList_copy_all rfl (.tmp 35) (.tmp 36) _ _ rfl Try.underlying26 (by kernel_rfl) w.heap.size 16 c1 A1 rfl rfl _ _ hX1 rfl a _ x1 (by decide) ?_)
  | (with_reducible refine wpList_copy_all rfl (.tmp 38) (.tmp 39) _ _ rfl Try.underlying26 (by kernel_rfl) (w.heap.size + 1) 16 c2 A2 rfl rfl _ _ hX2 rfl b _ x2 (by decide) ?_)
  | (refine wpList_load_row rfl 23 (.tmp 13) rfl w.heap.size rfl 23 (u8s a).toArray (0, 0) _ hX1' Try.underlying23 rfl hia ?_)
  | (refine wpList_load_row rfl 23 (.tmp 14) rfl (w.heap.size + 1) rfl 23 (u8s b).toArray (0, 0) _ hX2' Try.underlying23 rfl hib ?_))
 refine (rpseudo6_ok a b ha hb y1.rng y2.rng p n hp0 hp1 h0 h1 _).mono ?_
 rintro e w1 ⟨v, rfl, ho, hb1⟩
 have ho : OwnB w1 w.heap.size v ps := by have h := ho.more hB2.size; rw [← hpsH.out]; exact h
 obtain ⟨A', c', rfl, _⟩ := own_shape ho.own
 go_wp2
 go_ret
 exact ⟨_, rfl, ho, hB2.trans (hb1.mono hB2.size)⟩
end Go.Proofs.Ytjnphelfloiadaa
namespace Go.Proofs.Ytjnphelfloiadaa
open Go.RowKit

theorem pse6_len {a b : List Int} (ha : a.length = 16) (hb : b.length = 16) (n p : Int) : (pse6 a b n p).length = 40 := by simp [pse6, ha, hb]
end Go.Proofs.Ytjnphelfloiadaa
namespace Go.Proofs.Ytjnphelfloiadaa
open Go.RowKit

theorem DU.split (u : DU) (s : Int) (ps : List Int) : ps ++ (u.first s ++ u.bl) = ((ps ++ [u.src / 256, u.src % 256, u.dst / 256, u.dst % 256, (8 + u.bl.length : Int) / 256, (8 + u.bl.length : Int) % 256]) ++ [s / 256, s % 256]) ++ u.bl := by simp [DU.first]
theorem DU.bytes_len (u : DU) (ps : List Int) : (u.bytes ps).length = 8 + u.bl.length := by simp [DU.bytes, DU.first]; omega
theorem DT.split (t : DT) (s : Int) (ps : List Int) : ps ++ (t.first s ++ t.ol ++ t.bl) = ((ps ++ (t.first 0).take 16) ++ [s / 256, s % 256]) ++ ([t.urgent / 256, t.urgent % 256] ++ t.ol ++ t.bl) := by simp [DT.first]
theorem DT.bytes_len (t : DT) (ps : List Int) : (t.bytes ps).length = 20 + t.ol.length + t.bl.length := by simp [DT.bytes, DT.first]; omega
theorem pse4_len {a b : List Int} (ha : a.length = 4) (hb : b.length = 4) (n p : Int) : (pse4 a b n p).length = 12 := by simp [pse4, ha, hb]
/-- addresses of both kinds -/
structure DE where
 (a b c d : List Int)
def DE.cells (x : DE) : Array Value := (u8s (x.a ++ x.b ++ x.c ++ x.d)).toArray
structure DE.ok (x : DE) : Prop where
 la : x.a.length = 4
 lb : x.b.length = 4
 lc : x.c.length = 16
 ld : x.d.length = 16
 ra : InB x.a
 rb : InB x.b
 rc : InB x.c
 rd : InB x.d
theorem DE.size {x : DE} (hx : x.ok) : x.cells.size = 40 := by simp [DE.cells, u8s_length, hx.la, hx.lb, hx.lc, hx.ld]
end Go.Proofs.Ytjnphelfloiadaa
