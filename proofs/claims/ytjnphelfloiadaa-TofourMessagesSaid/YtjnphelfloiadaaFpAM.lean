/-
  Lemmas and walks for the row of TofourPackets,TofourMessages,TofourInside (part 13 of 42).
-/
import Derived.Test.YtjnphelfloiadaaFpAC
import Derived.Test.YtjnphelfloiadaaFpAG
import Derived.Test.YtjnphelfloiadaaFpAH
import Derived.Test.YtjnphelfloiadaaFpAL
set_option linter.unusedVariables false
set_option linter.unusedSimpArgs false
namespace Go.Proofs.Ytjnphelfloiadaa
open Go.RowKit Go.Shelf
attribute [local go_sem] Oper.semAt_some
theorem fold_neg_w16 (n : Int) (hn : 0 ≤ n ∧ n < 65536) (l : List W16) : 0 ≤ fold n (neg (ints l)) ∧ fold n (neg (ints l)) < 65536 := fold_rng n hn _ (neg_rng _ (fun x hx => by
 obtain ⟨y, _, rfl⟩ := List.mem_map.1 hx
 exact y.2))
theorem changed_err (n : Int) (A1 A2 : Option Addr) (c1 c2 : Nat) (l1 l2 : List Int) (w : World) (hd : ¬ (l1.length = l2.length ∧ l2.length % 2 = 0)) :
  Calls Try.prog 106 #[.int .u16 n, .slice A1 l1.length c1, .slice A2 l2.length c2] w fun e W' => e = .returned (.tuple #[.int .u16 0, .int .i64 10]) ∧ Below w.heap.size w W' := by
 by_cases he : l1.length = l2.length
 ·have ho : ¬ (l2.length % 2 = 0) := fun h => hd ⟨he, h⟩
  go_enter Try.func106, Try.ntmps106
  go_wp2
  go_ret2
  exact ⟨rfl, (Below.refl _ _).alloc (Nat.le_refl _) _⟩
 ·go_enter Try.func106, Try.ntmps106
  go_wp2
  go_ret2
  exact ⟨rfl, (Below.refl _ _).alloc (Nat.le_refl _) _⟩

set_option maxRecDepth 100000 in
set_option maxHeartbeats 4000000 in
theorem changed_ok (n : Int) (hn : 0 ≤ n ∧ n < 65536) (A1 A2 : Option Addr) (c1 c2 : Nat) (l1 l2 : List Int) (w : World) (h1 : By w.heap.size w A1 l1.length c1 l1) (h2 : By w.heap.size w A2 l2.length c2 l2)
  (hd : l1.length = l2.length) (hd2 : l2.length % 2 = 0) :
  Calls Try.prog 106 #[.int .u16 n, .slice A1 l1.length c1, .slice A2 l2.length c2] w fun e W' => e = .returned (.tuple #[.int .u16 (fold (fold n (neg (wds l1))) (wds l2)), .int .i64 0]) ∧ Below w.heap.size w W' := by
 have hb2 : l2.length ≤ 9223372036854775807 := by have := h2.big; have := h2.cap; omega
 have hdH := Lib.hid hd
 rw [hd] at h1
 have hm : ((l2.length : Int) % 2 != 0) = false := by simp; omega
 refine (callsIn_wide (n := 7)).1 ?_
 refine callsIn_of_wp_marks Try.func106 rfl trivial ?_ rfl
 simp only [Try.ntmps106, List.size_toArray, List.length_cons, List.length_nil, Nat.reduceAdd, Nat.reduceSub, Array.replicate_succ, Array.replicate_zero, List.push_toArray, List.append_toArray, List.nil_append, List.cons_append]
 rw [hd]
 clear hd
 gi_wp2_with (refine ⟨trivial, ?_⟩; gi_at_call 104; refine (words_in Fence.wide _ trivial rfl _ _ _ _).mono ?_; rintro e w' ⟨rfl, rfl⟩)
 obtain ⟨W0, hW0⟩ : ∃ W0, (((w.alloc (.cells #[.int .u16 n] 33)).alloc (.cells #[.slice A1 l2.length c1] 26)).alloc (.cells #[Value.slice (some ⟨w.heap.size + 1, 0, none⟩) 1 1] 100)) = W0 := ⟨_, rfl⟩
 have hz0 : W0.heap.size = w.heap.size + 3 := by rw [← hW0]; simp
 have bS := ((Boxed.new w 33 (.int .u16 n)).alloc (.cells #[.slice A1 l2.length c1] 26)).alloc (.cells #[Value.slice (some ⟨w.heap.size + 1, 0, none⟩) 1 1] 100)
 have bN := Boxed.new ((w.alloc (.cells #[.int .u16 n] 33)).alloc (.cells #[.slice A1 l2.length c1] 26)) 100 (Value.slice (some ⟨w.heap.size + 1, 0, none⟩) 1 1)
 have bR := (Boxed.new (w.alloc (.cells #[.int .u16 n] 33)) 26 (.slice A1 l2.length c1)).alloc (.cells #[Value.slice (some ⟨w.heap.size + 1, 0, none⟩) 1 1] 100)
 have hB0 : Below w.heap.size w (((w.alloc (.cells #[.int .u16 n] 33)).alloc (.cells #[.slice A1 l2.length c1] 26)).alloc (.cells #[Value.slice (some ⟨w.heap.size + 1, 0, none⟩) 1 1] 100)) := (((Below.refl _ w).alloc (Nat.le_refl _) _).alloc (by simp) _).alloc (by simp; omega) _
 simp only [World.size_alloc] at bN bR
 rw [hW0] at bS bN bR hB0 ⊢
 clear hW0
 have hy1 : By w.heap.size W0 A1 l1.length c1 l1 := by rw [hdH.out]; exact h1.below hB0 (Nat.le_refl _)
 have hRow : ∀ W, Below W0.heap.size W0 W → W.cell? ⟨w.heap.size + 1, 0, none⟩ = some (.slice A1 l1.length c1) := fun W h => by
  rw [hdH.out]; exact (h.cell (p := ⟨w.heap.size + 1, 0, none⟩) (by simp; omega)).trans bR.cell
 refine wpIn_rangeFunc_ownG (F := Fence.wide) (n := 7) rfl (by decide) (gf := 110) (lb := #[.pointer (some ⟨w.heap.size + 1 + 1, 0, none⟩)]) rfl trivial (enters_of Try.func110 (by kernel_rfl) rfl)
  (words_stops Fence.wide 6 trivial rfl (by decide) (w.heap.size + 1 + 1) (w.heap.size + 2) _ 1 [(A1, c1, l1)] (BelowX (w.heap.size + 2) w.heap.size) W0 (by omega) (by omega) bN.cell (Parts.of1 _ (by omega) (hRow _ (Below.refl _ _)) (hy1.more (by omega))) (fun W => BelowX.refl _ _ W) BelowX.trans
   (fun W W' h hb => Parts.of1 _ (by omega) ((hb.cell (p := ⟨w.heap.size + 1, 0, none⟩) (by simp) (by simp)).trans (hRow _ h)) ((hy1.below h (by omega)).belowX hb (by omega) (by omega))))
  BelowX.trans (belowX_b (by omega)) (Below.refl _ _) (fun _ => rfl)
  (fun pre W => (W.cell? ⟨w.heap.size, 0, none⟩ = some (.int .u16 (fold n (neg (ints pre)))) ∧ W.frozen? ⟨w.heap.size, 0, none⟩ = false) ∧ Below w.heap.size w W)
  (fun _ _ _ => False)
  (OwnFrom.and (Own.from (fun s A B row hs hg hr => ⟨cell_kept hs.1 hg hr, (frozen_kept hs.1 hg hr).trans hs.2⟩) _) (ownFrom_below (Nat.le_refl _) (by omega)))
  (fun _ _ _ _ _ hs _ _ => hs)
  ⟨⟨bS.cell, bS.frozen⟩, hB0⟩
  ?a1 ?assign ?body ?done ?stop
 case assign =>
  intro l x W K hK
  gi_wp2
  exact hK
 case body =>
  rintro l pre x W ⟨⟨hc, hf⟩, hB⟩ _
  have hr := fold_neg_w16 n hn pre
  have hx := x.2
  have hnot := not_u16 x.1 x.2.1 x.2.2
  gi_wp2_with (refine ⟨trivial, ?_⟩; gi_at_call 105; refine (CallsIn.inRound l (callsIn_wide.2 (add_any _ _ _ hr.1 hr.2 (by omega) (by omega)))).mono ?_; rintro e w' ⟨rfl, rfl⟩)
  exact ⟨(KeepsOthers.setCell _ _ _).from _, (BelowX.refl _ _ W).setCell (p := ⟨w.heap.size, 0, none⟩) rfl _, ⟨by rw [ints_snoc, neg_snoc, fold_snoc]; exact World.cell?_setCell_same' _ _ _ (by rw [hc]; rfl), by rw [World.frozen?_setCell]; exact hf⟩, hB.setCell (p := ⟨w.heap.size, 0, none⟩) (Nat.le_refl _) _⟩
 case stop =>
  rintro D c pre W _ _ h _
  exact h.elim
 case done =>
  rintro D ys W hD hys ⟨⟨hc, hf⟩, hB⟩ hK
  have hsD : D < W.heap.size := (Array.getElem?_eq_some_iff.1 hK).1
  have hr := fold_neg_w16 n hn ys
  have hv : flat [(A1, c1, l1)] = l1 := by simp [flat]
  rw [hv] at hys
  rw [hys] at hc hr
  clear hys hv bS bN bR hRow hy1
  gi_wp2_with (refine ⟨trivial, ?_⟩; gi_at_call 104; refine (words_in Fence.wide _ trivial rfl _ _ _ _).mono ?_; rintro e w' ⟨rfl, rfl⟩)
  obtain ⟨W2, hW2⟩ : ∃ W2, ((W.alloc (.cells #[.slice A2 l2.length c2] 26)).alloc (.cells #[Value.slice (some ⟨W.heap.size, 0, none⟩) 1 1] 100)) = W2 := ⟨_, rfl⟩
  have hz2 : W2.heap.size = W.heap.size + 2 := by rw [← hW2]; simp
  have bN := Boxed.new (W.alloc (.cells #[.slice A2 l2.length c2] 26)) 100 (Value.slice (some ⟨W.heap.size, 0, none⟩) 1 1)
  have bR := (Boxed.new W 26 (.slice A2 l2.length c2)).alloc (.cells #[Value.slice (some ⟨W.heap.size, 0, none⟩) 1 1] 100)
  have hBW : Below W.heap.size W ((W.alloc (.cells #[.slice A2 l2.length c2] 26)).alloc (.cells #[Value.slice (some ⟨W.heap.size, 0, none⟩) 1 1] 100)) := ((Below.refl _ W).alloc (Nat.le_refl _) _).alloc (by simp) _
  simp only [World.size_alloc] at bN
  rw [hW2] at bN bR hBW ⊢
  clear hW2
  have hwW : w.heap.size + 3 ≤ W.heap.size := by omega
  have hB2 : Below w.heap.size w W2 := hB.trans (hBW.mono hB.size)
  have hcX : W2.cell? ⟨w.heap.size, 0, none⟩ = some (.int .u16 (fold n (neg (wds l1)))) := (hBW.cell (p := ⟨w.heap.size, 0, none⟩) (by simp; omega)).trans hc
  have hfX : W2.frozen? ⟨w.heap.size, 0, none⟩ = false := (hBW.frozen (p := ⟨w.heap.size, 0, none⟩) (by simp; omega)).trans hf
  have hK2 : W2.heap[D]? = some (.deferred (some [])) := (hBW.block D hsD).trans hK
  have hy2 : By w.heap.size W2 A2 l2.length c2 l2 := h2.below hB2 (Nat.le_refl _)
  have hRow : ∀ X, Below W2.heap.size W2 X → X.cell? ⟨W.heap.size, 0, none⟩ = some (.slice A2 l2.length c2) := fun X h => (h.cell (p := ⟨W.heap.size, 0, none⟩) (by simp; omega)).trans bR.cell
  clear hc hf hK
  refine wpIn_rangeFunc_ownG (F := Fence.wide) (n := 7) rfl (by decide) (gf := 110) (lb := #[.pointer (some ⟨W.heap.size + 1, 0, none⟩)]) rfl trivial (enters_of Try.func110 (by kernel_rfl) rfl)
   (words_stops Fence.wide 6 trivial rfl (by decide) (W.heap.size + 1) (W.heap.size + 1) _ 1 [(A2, c2, l2)] (BelowX (W.heap.size + 1) w.heap.size) W2 (by omega) (by omega) bN.cell (Parts.of1 _ (by omega) (hRow _ (Below.refl _ _)) (hy2.more (by omega))) (fun W => BelowX.refl _ _ W) BelowX.trans
    (fun X X' h hb => Parts.of1 _ (by omega) ((hb.cell (p := ⟨W.heap.size, 0, none⟩) (by simp) (by simp; omega)).trans (hRow _ h)) ((hy2.below h (by omega)).belowX hb (by omega) (by omega))))
   BelowX.trans (belowX_b (by omega)) (Below.refl _ _) (fun _ => rfl)
   (fun pre W => ((W.cell? ⟨w.heap.size, 0, none⟩ = some (.int .u16 (fold (fold n (neg (wds l1))) (ints pre))) ∧ W.frozen? ⟨w.heap.size, 0, none⟩ = false) ∧ Below w.heap.size w W) ∧ W.heap[D]? = some (.deferred (some [])))
   (fun _ _ _ => False)
   (OwnFrom.and (OwnFrom.and (Own.from (fun s A B row hs hg hr => ⟨cell_kept hs.1 hg hr, (frozen_kept hs.1 hg hr).trans hs.2⟩) _) (ownFrom_below (Nat.le_refl _) (by omega))) (ownFrom_heap (by omega)))
   (fun _ _ _ _ _ hs _ _ => hs)
   ⟨⟨⟨hcX, hfX⟩, hB2⟩, hK2⟩
   ?a2 ?assign2 ?body2 ?done2 ?stop2
  case assign2 =>
   intro l x W K hK
   gi_wp2
   exact hK
  case body2 =>
   rintro l pre x X ⟨⟨⟨hc, hf⟩, hB⟩, hKX⟩ _
   have hr2 := fold_w16 (fold n (neg (wds l1))) hr pre
   have hx := x.2
   gi_wp2_with (refine ⟨trivial, ?_⟩; gi_at_call 105; refine (CallsIn.inRound l (callsIn_wide.2 (add_any _ _ _ hr2.1 hr2.2 hx.1 hx.2))).mono ?_; rintro e w' ⟨rfl, rfl⟩)
   exact ⟨(KeepsOthers.setCell _ _ _).from _, (BelowX.refl _ _ X).setCell (p := ⟨w.heap.size, 0, none⟩) rfl _, ⟨⟨by rw [ints_snoc, fold_snoc]; exact World.cell?_setCell_same' _ _ _ (by rw [hc]; rfl), by rw [World.frozen?_setCell]; exact hf⟩, hB.setCell (p := ⟨w.heap.size, 0, none⟩) (Nat.le_refl _) _⟩, (KeepsOthers.setCell _ _ _).same D _ hKX rfl⟩
  case stop2 =>
   rintro D c pre W _ _ h _
   exact h.elim
  case done2 =>
   rintro D2 ys2 X hD2 hys ⟨⟨⟨hc, hf⟩, hB⟩, hKX⟩ hK
   have hv : flat [(A2, c2, l2)] = l2 := by simp [flat]
   rw [hv] at hys
   rw [hys] at hc
   clear hys hv hcX hfX hK2 bN bR
   gi_wp2
   have hK1 : (X.putObj D2 (.deferred none)).heap[D]? = some (.deferred (some [])) := (World.putObj_heap_other (by omega)).trans hKX
   refine ⟨by simp, .inl ⟨_, _, rfl, run_takeDeferred hK, ⟨by simp, .inl ⟨_, _, rfl, run_takeDeferred hK1, ?_⟩⟩⟩⟩
   refine ⟨_, results_tmp2 rfl _ _ _, rfl, ?_⟩
   exact (hB.trans (belowK_b (w := w) (Nat.le_refl _) X D2 _ _ (by omega) hK rfl rfl)).trans (belowK_b (w := w) (Nat.le_refl _) _ D _ _ (by omega) hK1 rfl rfl)

def Two (p : Int × Int) (e : Ending) : Prop := ∃ q er : Int, e = .returned (.tuple #[.int .u16 q, .int .i64 er]) ∧ Hid (q = p.1 ∧ er = p.2)
theorem Two.mk {p : Int × Int} {q er : Int} (h1 : q = p.1) (h2 : er = p.2) : Two p (.returned (.tuple #[.int .u16 q, .int .i64 er])) := ⟨q, er, rfl, Lib.hid ⟨h1, h2⟩⟩

theorem changed_one (n : Int) (hn : 0 ≤ n ∧ n < 65536) (A1 A2 : Option Addr) (c1 c2 : Nat) (l1 l2 : List Int) (w : World) (h1 : By w.heap.size w A1 l1.length c1 l1) (h2 : By w.heap.size w A2 l2.length c2 l2) (hd : l1.length = l2.length ∧ l2.length % 2 = 0) :
  Calls Try.prog 106 #[.int .u16 n, .slice A1 l1.length c1, .slice A2 l2.length c2] w fun e W' => ∃ q : Int, e = .returned (.tuple #[.int .u16 q, .int .i64 0]) ∧ Hid (q = (changedS n l1 l2).1) ∧ (0 ≤ q ∧ q < 65536) ∧ Below w.heap.size w W' := by
 refine (changed_ok n hn A1 A2 c1 c2 l1 l2 w h1 h2 hd.1 hd.2).mono fun e w' ⟨he, hb⟩ => ⟨_, he, Lib.hid ?_, ?_, hb⟩
 ·unfold changedS; rw [if_pos hd]
 ·exact fold_rng _ (fold_rng _ hn _ (neg_rng _ (wds_rng _ h1.rng))) _ (wds_rng _ h2.rng)

def updateS (was : Int) (f t : List Int) : Int × Int := if f.length = t.length ∧ t.length % 2 = 0 then (65535 - (changedS (65535 - was) f t).1, 0) else (0, 10)

theorem update_any (was : Int) (hn : 0 ≤ was ∧ was < 65536) (A1 A2 : Option Addr) (c1 c2 : Nat) (l1 l2 : List Int) (w : World) (h1 : By w.heap.size w A1 l1.length c1 l1) (h2 : By w.heap.size w A2 l2.length c2 l2) :
  Calls Try.prog 83 #[.int .u16 was, .slice A1 l1.length c1, .slice A2 l2.length c2] w fun e W' => Two (updateS was l1 l2) e ∧ Below w.heap.size w W' := by
 have hnot := not_u16 was hn.1 hn.2
 have hsg : IntKind.u16.signed = false := rfl
 by_cases hd : l1.length = l2.length ∧ l2.length % 2 = 0
 ·have hdH := Lib.hid hd
  clear hd
  go_enter Try.func83, Try.ntmps83
  go_wp2_with (go_at_call 106; refine (changed_one (65535 - was) (by omega) _ _ _ _ _ _ _ h1 h2 hdH.out).mono ?_; rintro e w' ⟨q, rfl, hq, hr, hb⟩)
  have hnot2 := not_u16 q hr.1 hr.2
  go_ret2
  refine ⟨Two.mk ?_ ?_, hb⟩
  ·unfold updateS; rw [if_pos hdH.out, ← hq.out]; exact hnot2
  ·unfold updateS; rw [if_pos hdH.out]
 ·go_enter Try.func83, Try.ntmps83
  go_wp2_with (go_at_call 106; refine (changed_err (65535 - was) _ _ _ _ _ _ _ hd).mono ?_; rintro e w' ⟨rfl, hb⟩)
  go_ret2
  refine ⟨Two.mk ?_ ?_, hb⟩
  ·unfold updateS; rw [if_neg hd]
  ·unfold updateS; rw [if_neg hd]

theorem updateS_rng (n : Int) (hn : 0 ≤ n ∧ n < 65536) (l1 l2 : List Int) (h1 : InB l1) (h2 : InB l2) : 0 ≤ (updateS n l1 l2).1 ∧ (updateS n l1 l2).1 < 65536 := by
 unfold updateS changedS
 split
 ·have := fold_rng _ (fold_rng _ (show 0 ≤ 65535 - n ∧ 65535 - n < 65536 by omega) _ (neg_rng _ (wds_rng _ h1))) _ (wds_rng _ h2)
  simp only
  omega
 ·simp
end Go.Proofs.Ytjnphelfloiadaa
namespace Go.Proofs.Ytjnphelfloiadaa
open Go.RowKit

def two17 (l : List Int) (k : Nat) : Int := l.getD k 0 * 256 + l.getD (k + 1) 0
def put17 (b : List Int) (k : Nat) (n : Int) : List Int := (b.set k (n / 256)).set (k + 1) (n % 256)
def fix17 (udp : Bool) (n : Int) : Int := if n = 0 ∧ udp = true then 65535 else n
def carry17 (udp : Bool) (f t b : List Int) (k : Nat) : List Int := put17 b k (fix17 udp (updateS (two17 b k) f t).1)
def D4.part (d : D4) : Bool := d.mf || decide (0 < d.off)
theorem put17_len (b : List Int) (k : Nat) (n : Int) : (put17 b k n).length = b.length := by simp [put17]
theorem InB.set {l : List Int} (h : InB l) (k : Nat) {n : Int} (hn : 0 ≤ n ∧ n ≤ 255) : InB (l.set k n) := by
 intro x hx
 rcases List.mem_or_eq_of_mem_set hx with h1 | rfl
 ·exact h x h1
 ·exact hn
theorem two17_rng {l : List Int} (h : InB l) (k : Nat) : 0 ≤ two17 l k ∧ two17 l k < 65536 := by
 have h1 := getD_rng h k
 have h2 := getD_rng h (k + 1)
 unfold two17
 omega
theorem carry17_len (udp : Bool) (f t b : List Int) (k : Nat) : (carry17 udp f t b k).length = b.length := put17_len _ _ _
end Go.Proofs.Ytjnphelfloiadaa
namespace Go.Proofs.Ytjnphelfloiadaa
open Go.RowKit Go.Shelf

section
variable {P : Program}
theorem b_shl32 (t : TypeId) {x : Int} (n : Nat) (z : Int) (h : x * 2 ^ n = z) (h0 : 0 ≤ z ∧ z < 4294967296) (hn : n ≤ 32) (w : World) : (binOp .shl t (.int .u32 x) (.int .u64 (n : Int))).run P w = .ok (.int .u32 z) w := by
 subst h
 have h := shift_shl .u32 .u64 x (n : Int) (Int.natCast_nonneg n) (by show (n : Int) ≤ 32; omega)
 rw [binOp_shl, h]
 show Result.ok (Value.int .u32 (IntKind.u32.wrap (x * 2 ^ (n : Int).toNat))) w = _
 rw [Int.toNat_natCast, IntWalk.u32_in _ (by omega)]
theorem b_or32 (t : TypeId) {x y : Int} (z : Int) (h : bits .or .u32 x y = z) (w : World) : (binOp .or t (.int .u32 x) (.int .u32 y)).run P w = .ok (.int .u32 z) w := by subst h; rfl
theorem tk_cell {md : Region.Mode} {ops : Array Oper} {Q : Exit → Act → World → Prop} {S : World → Prop} {i : Nat} {o : Oper} {ty : TypeId} {x y : Operand} {g k : Nat} {v : Value} {cs : Array Value} {t : TypeId} {fuel : Nat} {listed : Array Bool} {a : Act} {w : World} (hr : Region.ready md ops listed = [i]) (hi : ops.toList[i]? = some o) (hw : Region.wanted o (yielded ops a.tmps) = true)
  (ho : o.op = .store ty x y) (hx : a.eval x = .pointer (some ⟨g, k, none⟩)) (hy : a.eval y = v) (h1 : v.cells = #[v]) (hti : (P.info? ty).map (·.size) = some 1) (hg : Has w g (.cells cs t (0, 0))) (hk : k < cs.size) (h2 : v.oneCell' = true)
  (hS : S (w.setCell ⟨g, k, none⟩ v)) (h : wpAnyH P md ops Q S fuel (listed.setIfInBounds i true) (a.put o.dst undef) (w.setCell ⟨g, k, none⟩ v)) : wpAnyH P md ops Q S (fuel + 1) listed a w :=
 wpAnyH_all hr (by simp) fun j hj => by
  obtain rfl : j = i := by simpa using hj
  have hi : ops[j]? = some o := by simpa using hi
  unfold wpOp
  rw [hi]
  simp only [hw, if_true]
  left
  have hc := hg.cell k (Array.getElem?_eq_getElem hk)
  have hf := hg.free k
  have hsz : (sizeOf ty).run P w = .ok 1 w := by
   cases hq : P.info? ty with
   | none => simp [hq] at hti
   | some i => simp [hq] at hti; simp [sizeOf, typeInfo, hq, hti]
  have hst : (store ⟨g, k, none⟩ v).run P w = .ok () (w.setCell ⟨g, k, none⟩ v) := by rw [run_store P w _ v _ h2, hc]; simp [hf]
  have had : (⟨g, k, none⟩ : Addr).add 0 = ⟨g, k, none⟩ := by simp [Addr.add]
  unfold Oper.wp execOp
  simp only [ho, hx, hy, Instr.storeAt, Instr.sureAddr, Sem.run_bind, Sem.run_pure, Result.andThen_ok]
  have hsv : (storeVar ty ⟨g, k, none⟩ v).run P w = .ok () (w.setCell ⟨g, k, none⟩ v) := by simp [storeVar, hsz, h1, storeCells, had, hst]
  simp only [hsv, Result.andThen_ok, Oper.upon_skip]
  exact ⟨hS, h⟩
end
def rcells (A : Option Addr) (N c : Nat) (k : Int) (D : D6) (p : W6) : Array Value := #[.slice A N c, .int .i64 k, .int .u8 D.cls, .int .u32 D.lab, .int .u8 D.hop, .int .u8 (D.src.getD 0 0), .int .u8 (D.src.getD 1 0), .int .u8 (D.src.getD 2 0), .int .u8 (D.src.getD 3 0), .int .u8 (D.src.getD 4 0), .int .u8 (D.src.getD 5 0), .int .u8 (D.src.getD 6 0), .int .u8 (D.src.getD 7 0), .int .u8 (D.src.getD 8 0), .int .u8 (D.src.getD 9 0), .int .u8 (D.src.getD 10 0), .int .u8 (D.src.getD 11 0), .int .u8 (D.src.getD 12 0), .int .u8 (D.src.getD 13 0), .int .u8 (D.src.getD 14 0), .int .u8 (D.src.getD 15 0), .int .u8 (D.dst.getD 0 0), .int .u8 (D.dst.getD 1 0), .int .u8 (D.dst.getD 2 0), .int .u8 (D.dst.getD 3 0), .int .u8 (D.dst.getD 4 0), .int .u8 (D.dst.getD 5 0), .int .u8 (D.dst.getD 6 0), .int .u8 (D.dst.getD 7 0), .int .u8 (D.dst.getD 8 0), .int .u8 (D.dst.getD 9 0), .int .u8 (D.dst.getD 10 0), .int .u8 (D.dst.getD 11 0), .int .u8 (D.dst.getD 12 0), .int .u8 (D.dst.getD 13 0), .int .u8 (D.dst.getD 14 0), .int .u8 (D.dst.getD 15 0), .slice p.hA D.hs.length p.hc, .bool D.frag, .int .u32 D.id, .int .i64 D.off, .bool D.more, .int .u8 D.pro, .slice p.bA D.bl.length p.bc]
structure RS (B g : Nat) (W0 w : World) (A : Option Addr) (N c k : Nat) (D : D6) (p : W6) : Prop where
 has : Has w g (.cells (rcells A N c (k : Int) D p) 147 (0, 0))
 own : OwnK w (g + 1) 108 (.slice p.hA D.hs.length p.hc) p.ps
 hl : kdL p.ps = D.hs
 bel : Below B W0 w
theorem take_rs {B g : Nat} {W0 w : World} {A : Option Addr} {N c k : Nat} {D : D6} {p : W6} {q z : Int} {l : List Int} (n : Nat) (hz : z = (n : Int)) (h : RS B g W0 w A N c k D p) (hy : By B W0 A N c l) (hB : B ≤ g) (hn : k + n ≤ N) :
  Calls Try.prog 101 #[.pointer (some ⟨g, 0, none⟩), .int .i64 z, .int .i64 q] w fun e w' => ∃ A1 c1, e = .returned (.slice A1 n c1) ∧ By B W0 A1 n c1 ((l.drop k).take n) ∧ RS B g W0 w' A N c (k + n) D p := by
 subst hz
 refine (take6_ok (B := B) (W0 := W0) (l := l) h.has rfl rfl hy hB hn).mono ?_
 rintro e w' ⟨A1, c1, rfl, y1, h1, h2, h3⟩
 exact ⟨A1, c1, rfl, y1, h1, h.own.but6 h2 (Nat.lt_succ_self g), h.hl, h.bel.trans h3⟩
theorem take_rs_bad {B g : Nat} {W0 w : World} {A : Option Addr} {N c k : Nat} {D : D6} {p : W6} {q z : Int} (n : Nat) (hz : z = (n : Int)) (h : RS B g W0 w A N c k D p) (hN : N ≤ 9223372036854775807) (hk : k ≤ N) (hn : N < k + n) (hnn : n ≤ 9223372036854775807) :
  Calls Try.prog 101 #[.pointer (some ⟨g, 0, none⟩), .int .i64 z, .int .i64 q] w fun e w' => e = Fault6 q 50 ∧ Below B W0 w' := by
 subst hz
 refine (take6_bad (B := B) h.has rfl rfl hN hk hn hnn).mono ?_
 rintro e w' ⟨rfl, h1⟩
 exact ⟨rfl, h.bel.trans h1⟩

set_option maxRecDepth 100000 in
theorem head_short {B g : Nat} {W0 w : World} {A : Option Addr} {N c k : Nat} {D : D6} {p : W6} (kind : Int) (h : RS B g W0 w A N c k D p) (hN : N ≤ 9223372036854775807) (hk : k ≤ N) (hn : N < k + 8) :
  Calls Try.prog 102 #[.pointer (some ⟨g, 0, none⟩), .int .u8 kind] w fun e w' => e = Fault6 (k : Int) 50 ∧ Below B W0 w' := by
 have c1 := h.has.cell 1 (v := .int .i64 (k : Int)) rfl
 have hc := Lib.hid (take_rs_bad (q := (k : Int)) 8 (z := 8) rfl h hN hk hn (by decide))
 clear h
 go_enter Try.func102, Try.ntmps102
 go_wp2_with fail
 refine hc.out.mono ?_
 rintro e w1 ⟨rfl, hb⟩
 exact ⟨rfl, rfl, hb⟩

set_option maxRecDepth 100000 in
set_option maxHeartbeats 4000000 in
theorem head_frag {B g : Nat} {W0 w : World} {A : Option Addr} {N c k : Nat} {D : D6} {p : W6} {l : List Int} (h : RS B g W0 w A N c k D p) (hy : By B W0 A N c l) (hB : B ≤ g) (hn : k + 8 ≤ N) :
  Calls Try.prog 102 #[.pointer (some ⟨g, 0, none⟩), .int .u8 44] w fun e w' => Byt (l.getD k 0) e ∧
   RS B g W0 w' A N c (k + 8) { D with frag := true, id := l.getD (k + 4) 0 * 16777216 + l.getD (k + 5) 0 * 65536 + l.getD (k + 6) 0 * 256 + l.getD (k + 7) 0, off := l.getD (k + 2) 0 * 32 + l.getD (k + 3) 0 / 8, more := decide (l.getD (k + 3) 0 % 2 = 1) } p := by
 have hc1 := h.has.cell 1 (v := .int .i64 (k : Int)) rfl
 have hc := Lib.hid (take_rs (q := (k : Int)) 8 (z := 8) rfl h hy hB hn)
 have hlr := hy.rng
 have hll := hy.len
 have hget : ∀ i, i < 8 → ((l.drop k).take 8).getD i 0 = l.getD (k + i) 0 := fun i hi => by simp [List.getD, hi]
 have gr := fun i => getD_byte hlr (k + i)
 go_enter Try.func102, Try.ntmps102
 go_wp2_with fail
 refine hc.out.mono ?_
 rintro e w1 ⟨A1, c1, rfl, y1, h1⟩
 obtain ⟨b, o, rfl, hb, -⟩ := y1.row.at_ (by decide)
 have e0 : W0.cell? ⟨b, o, none⟩ = _ := y1.atO (k := 0) (by decide)
 have e2 := y1.atO (k := 2) (by decide)
 have e3 := y1.atO (k := 3) (by decide)
 have e4 := y1.atO (k := 4) (by decide)
 have e5 := y1.atO (k := 5) (by decide)
 have e6 := y1.atO (k := 6) (by decide)
 have e7 := y1.atO (k := 7) (by decide)
 rw [hget _ (by decide)] at e0 e2 e3 e4 e5 e6 e7
 have g2 := gr 2
 have g3 := gr 3
 have g4 := gr 4
 have g5 := gr 5
 have g6 := gr 6
 have g7 := gr 7
 obtain ⟨x0, hx0⟩ : ∃ x, l.getD k 0 = x := ⟨_, rfl⟩
 obtain ⟨x2, hx2⟩ : ∃ x, l.getD (k + 2) 0 = x := ⟨_, rfl⟩
 obtain ⟨x3, hx3⟩ : ∃ x, l.getD (k + 3) 0 = x := ⟨_, rfl⟩
 obtain ⟨x4, hx4⟩ : ∃ x, l.getD (k + 4) 0 = x := ⟨_, rfl⟩
 obtain ⟨x5, hx5⟩ : ∃ x, l.getD (k + 5) 0 = x := ⟨_, rfl⟩
 obtain ⟨x6, hx6⟩ : ∃ x, l.getD (k + 6) 0 = x := ⟨_, rfl⟩
 obtain ⟨x7, hx7⟩ : ∃ x, l.getD (k + 7) 0 = x := ⟨_, rfl⟩
 have e0 : W0.cell? ⟨b, o, none⟩ = some (.int .u8 x0) := by rw [e0, Nat.add_zero, hx0]
 rw [hx2] at e2 g2
 rw [hx3] at e3 g3
 rw [hx4] at e4 g4
 rw [hx5] at e5 g5
 rw [hx6] at e6 g6
 rw [hx7] at e7 g7
 obtain ⟨O, hO⟩ : ∃ O, x2 * 256 + x3 = O := ⟨_, rfl⟩
 have hor1 : bits .or .u16 (x2 * 256) x3 = O := (or_u16 8 (by omega) (by omega) (by omega) (by omega) (by omega) (by omega)).trans hO
 obtain ⟨I, hI⟩ : ∃ I, x4 * 16777216 + x5 * 65536 + x6 * 256 + x7 = I := ⟨_, rfl⟩
 have hor2 : bits .or .u32 (x4 * 16777216) (x5 * 65536) = x4 * 16777216 + x5 * 65536 := or_u32 24 (by omega) (by omega) (by omega) (by omega) (by omega) (by omega)
 have hor3 : bits .or .u32 (x4 * 16777216 + x5 * 65536) (x6 * 256) = x4 * 16777216 + x5 * 65536 + x6 * 256 := or_u32 16 (by omega) (by omega) (by omega) (by omega) (by omega) (by omega)
 have hor4 : bits .or .u32 (x4 * 16777216 + x5 * 65536 + x6 * 256) x7 = I := (or_u32 8 (by omega) (by omega) (by omega) (by omega) (by omega) (by omega)).trans hI
 obtain ⟨M, hM⟩ : ∃ M : Bool, decide (x3 % 2 = 1) = M := ⟨_, rfl⟩
 have hand : bits .and .u16 O 1 = O % 2 := and_u16 1 1 rfl (by decide) (by omega) (by omega)
 have hM2 : (O % 2 == 1) = M := by rw [← hM, ← hO, Bool.eq_iff_iff, beq_iff_eq, decide_eq_true_eq]; omega
 have hOr : 0 ≤ O ∧ O < 65536 := by omega
 have hO8 : O / 8 = x2 * 32 + x3 / 8 := by omega
 have hxs := Lib.hid (show l.getD k 0 = x0 ∧ l.getD (k + 4) 0 * 16777216 + l.getD (k + 5) 0 * 65536 + l.getD (k + 6) 0 * 256 + l.getD (k + 7) 0 = I ∧ l.getD (k + 2) 0 * 32 + l.getD (k + 3) 0 / 8 = O / 8 ∧ decide (l.getD (k + 3) 0 % 2 = 1) = M from ⟨hx0, by rw [hx4, hx5, hx6, hx7, hI], by rw [hx2, hx3, hO8], by rw [hx3, hM]⟩)
 have hb1 := h1.bel
 clear hx0 hx2 hx3 hx4 hx5 hx6 hx7 hM hO8 hget gr hc h y1 hc1
 go_wp2
 refine wp_region_held_drew (S := fun W => Below B W0 W) (by kernel_rfl) (hb1.trans (below_drew _ _)) (fun hS => ?_)
 refine te 0 (.slice (some ⟨b, o, none⟩) 8 c1) hS rfl (by intro _ _; exact rfl) ?_
 simp only [lay]
 refine te 1 (.pointer (some ⟨b, o + 2, none⟩)) hS rfl (by intro _ _; exact ex_index (by exact rfl) Try.underlying26 (by kernel_rfl) (by exact rfl) (by exact rfl) ((by decide))) ?_
 simp only [lay]
 refine te 2 (.int .u8 x2) hS rfl (by intro _ h; exact ex_cell (by exact rfl) Try.underlying5 rfl (by exact rfl) ((h.cell (p := ⟨b, o + 2, none⟩) hb).trans e2)) ?_
 simp only [lay]
 refine te 3 (.int .u16 x2) hS rfl (by intro _ h; exact ex_conv (by exact rfl) (by exact rfl) (conv_u16 _ _ _ _ rfl rfl (by omega) (by omega) _)) ?_
 simp only [lay]
 refine te 4 (.int .u16 (x2 * 256)) hS rfl (by intro _ _; exact ex_bin (by exact rfl) (by exact rfl) (by exact rfl) (by decide) (b_shl8_u16 _ _ g2 _)) ?_
 simp only [lay]
 refine te 5 (.slice (some ⟨b, o, none⟩) 8 c1) hS rfl (by intro _ _; exact rfl) ?_
 simp only [lay]
 refine te 6 (.pointer (some ⟨b, o + 3, none⟩)) hS rfl (by intro _ _; exact ex_index (by exact rfl) Try.underlying26 (by kernel_rfl) (by exact rfl) (by exact rfl) ((by decide))) ?_
 simp only [lay]
 refine te 7 (.int .u8 x3) hS rfl (by intro _ h; exact ex_cell (by exact rfl) Try.underlying5 rfl (by exact rfl) ((h.cell (p := ⟨b, o + 3, none⟩) hb).trans e3)) ?_
 simp only [lay]
 refine te 8 (.int .u16 x3) hS rfl (by intro _ h; exact ex_conv (by exact rfl) (by exact rfl) (conv_u16 _ _ _ _ rfl rfl (by omega) (by omega) _)) ?_
 simp only [lay]
 refine te 9 (.int .u16 O) hS rfl (by intro _ _; exact ex_bin (by exact rfl) (by exact rfl) (by exact rfl) (by decide) (b_or_u16 _ _ _ _ hor1 _)) ?_
 simp only [lay]
 refine te 10 (.int .u16 O) hS rfl (by intro _ _; exact rfl) ?_
 simp only [lay]
 refine wpAnyH_done (by kernel_rfl) ?_ _
 have hZ : Has w1.drew g (.cells (rcells A N c ((k + 8 : Nat) : Int) D p) 147 (0, 0)) := h1.has.drew
 have hK := h1.own.below (below_drew _ _)
 have hkl := h1.hl
 clear h1 hb1
 generalize w1.drew = W2 at hS hZ hK ⊢
 have k38 := hZ.cell 38 (v := .bool D.frag) rfl
 have k40 := hZ.cell 40 (v := .int .i64 D.off) rfl
 have k41 := hZ.cell 41 (v := .bool D.more) rfl
 have f38 := hZ.free 38
 have f40 := hZ.free 40
 have f41 := hZ.free 41
 have hZ2 : Has (((W2.setCell ⟨g, 38, none⟩ (.bool true)).setCell ⟨g, 40, none⟩ (.int .i64 (O / 8))).setCell ⟨g, 41, none⟩ (.bool M)) g (.cells (rcells A N c ((k + 8 : Nat) : Int) { D with frag := true, off := O / 8, more := M } p) 147 (0, 0)) := ((hZ.setCell 38 (.bool true)).setCell 40 (.int .i64 (O / 8))).setCell 41 (.bool M)
 have hbu : But6 g W2 (((W2.setCell ⟨g, 38, none⟩ (.bool true)).setCell ⟨g, 40, none⟩ (.int .i64 (O / 8))).setCell ⟨g, 41, none⟩ (.bool M)) := ((But6.setCell g 38 _ _).trans (But6.setCell g 40 _ _)).trans (But6.setCell g 41 _ _)
 have hB2 : Below B W0 (((W2.setCell ⟨g, 38, none⟩ (.bool true)).setCell ⟨g, 40, none⟩ (.int .i64 (O / 8))).setCell ⟨g, 41, none⟩ (.bool M)) := below_setCell (below_setCell (below_setCell hS hB 38 _) hB 40 _) hB 41 _
 clear hO hI
 go_wp2
 clear k38 k40 k41 f38 f40 f41 hZ hS
 have hK2 := (hK.but6 hbu (Nat.lt_succ_self g)).below (below_drew _ _)
 generalize ((W2.setCell ⟨g, 38, none⟩ (.bool true)).setCell ⟨g, 40, none⟩ (.int .i64 (O / 8))).setCell ⟨g, 41, none⟩ (.bool M) = W3 at hZ2 hB2 hK2 ⊢
 have hZ := hZ2.drew
 refine wp_region_held_drew (S := fun W => Below B W0 W) (by kernel_rfl) (hB2.trans (below_drew _ _)) (fun hS => ?_)
 generalize W3.drew = W5 at hS hZ hK2 ⊢
 refine te 0 (.pointer (some ⟨g, 0, none⟩)) hS rfl (by intro _ _; exact rfl) ?_
 simp only [lay]
 refine te 1 (.slice (some ⟨b, o, none⟩) 8 c1) hS rfl (by intro _ _; exact rfl) ?_
 simp only [lay]
 refine te 2 (.pointer (some ⟨b, o + 4, none⟩)) hS rfl (by intro _ _; exact ex_index (by exact rfl) Try.underlying26 (by kernel_rfl) (by exact rfl) (by exact rfl) ((by decide))) ?_
 simp only [lay]
 refine te 3 (.int .u8 x4) hS rfl (by intro _ h; exact ex_cell (by exact rfl) Try.underlying5 rfl (by exact rfl) ((h.cell (p := ⟨b, o + 4, none⟩) hb).trans e4)) ?_
 simp only [lay]
 refine te 4 (.int .u32 x4) hS rfl (by intro _ h; exact ex_conv (by exact rfl) (by exact rfl) (conv_u32 _ _ _ _ rfl rfl (by omega) (by omega) _)) ?_
 simp only [lay]
 refine te 5 (.int .u32 (x4 * 16777216)) hS rfl (by intro _ _; exact ex_bin (by exact rfl) (by exact rfl) (by exact rfl) (by decide) (b_shl32 _ 24 _ (by exact rfl) (by omega) (by decide) _)) ?_
 simp only [lay]
 refine te 6 (.slice (some ⟨b, o, none⟩) 8 c1) hS rfl (by intro _ _; exact rfl) ?_
 simp only [lay]
 refine te 7 (.pointer (some ⟨b, o + 5, none⟩)) hS rfl (by intro _ _; exact ex_index (by exact rfl) Try.underlying26 (by kernel_rfl) (by exact rfl) (by exact rfl) ((by decide))) ?_
 simp only [lay]
 refine te 8 (.int .u8 x5) hS rfl (by intro _ h; exact ex_cell (by exact rfl) Try.underlying5 rfl (by exact rfl) ((h.cell (p := ⟨b, o + 5, none⟩) hb).trans e5)) ?_
 simp only [lay]
 refine te 9 (.int .u32 x5) hS rfl (by intro _ h; exact ex_conv (by exact rfl) (by exact rfl) (conv_u32 _ _ _ _ rfl rfl (by omega) (by omega) _)) ?_
 simp only [lay]
 refine te 10 (.int .u32 (x5 * 65536)) hS rfl (by intro _ _; exact ex_bin (by exact rfl) (by exact rfl) (by exact rfl) (by decide) (b_shl32 _ 16 _ (by exact rfl) (by omega) (by decide) _)) ?_
 simp only [lay]
 refine te 11 (.int .u32 (x4 * 16777216 + x5 * 65536)) hS rfl (by intro _ _; exact ex_bin (by exact rfl) (by exact rfl) (by exact rfl) (by decide) (b_or32 _ _ hor2 _)) ?_
 simp only [lay]
 refine te 12 (.slice (some ⟨b, o, none⟩) 8 c1) hS rfl (by intro _ _; exact rfl) ?_
 simp only [lay]
 refine te 13 (.pointer (some ⟨b, o + 6, none⟩)) hS rfl (by intro _ _; exact ex_index (by exact rfl) Try.underlying26 (by kernel_rfl) (by exact rfl) (by exact rfl) ((by decide))) ?_
 simp only [lay]
 refine te 14 (.int .u8 x6) hS rfl (by intro _ h; exact ex_cell (by exact rfl) Try.underlying5 rfl (by exact rfl) ((h.cell (p := ⟨b, o + 6, none⟩) hb).trans e6)) ?_
 simp only [lay]
 refine te 15 (.int .u32 x6) hS rfl (by intro _ h; exact ex_conv (by exact rfl) (by exact rfl) (conv_u32 _ _ _ _ rfl rfl (by omega) (by omega) _)) ?_
 simp only [lay]
 refine te 16 (.int .u32 (x6 * 256)) hS rfl (by intro _ _; exact ex_bin (by exact rfl) (by exact rfl) (by exact rfl) (by decide) (b_shl32 _ 8 _ (by exact rfl) (by omega) (by decide) _)) ?_
 simp only [lay]
 refine te 17 (.int .u32 (x4 * 16777216 + x5 * 65536 + x6 * 256)) hS rfl (by intro _ _; exact ex_bin (by exact rfl) (by exact rfl) (by exact rfl) (by decide) (b_or32 _ _ hor3 _)) ?_
 simp only [lay]
 refine te 18 (.slice (some ⟨b, o, none⟩) 8 c1) hS rfl (by intro _ _; exact rfl) ?_
 simp only [lay]
 refine te 19 (.pointer (some ⟨b, o + 7, none⟩)) hS rfl (by intro _ _; exact ex_index (by exact rfl) Try.underlying26 (by kernel_rfl) (by exact rfl) (by exact rfl) ((by decide))) ?_
 simp only [lay]
 refine te 20 (.int .u8 x7) hS rfl (by intro _ h; exact ex_cell (by exact rfl) Try.underlying5 rfl (by exact rfl) ((h.cell (p := ⟨b, o + 7, none⟩) hb).trans e7)) ?_
 simp only [lay]
 refine te 21 (.int .u32 x7) hS rfl (by intro _ h; exact ex_conv (by exact rfl) (by exact rfl) (conv_u32 _ _ _ _ rfl rfl (by omega) (by omega) _)) ?_
 simp only [lay]
 refine te 22 (.int .u32 I) hS rfl (by intro _ _; exact ex_bin (by exact rfl) (by exact rfl) (by exact rfl) (by decide) (b_or32 _ _ hor4 _)) ?_
 simp only [lay]
 refine te 23 (.pointer (some ⟨g, 0, none⟩)) hS rfl (by intro _ _; exact ex_nilc (by exact rfl) (by exact rfl)) ?_
 simp only [lay]
 refine te 24 (.pointer (some ⟨g, 2, none⟩)) hS rfl (by intro _ _; exact xf9 2 41 Try.underlying147) ?_
 simp only [lay]
 refine te 25 (.pointer (some ⟨g, 39, none⟩)) hS rfl (by intro _ _; exact ex_fieldO 37 0 (by exact rfl) Try.underlying28 (by exact rfl) rfl (by kernel_rfl) (by exact rfl)) ?_
 simp only [lay]
 refine tk_cell (i := 26) (v := .int .u32 I) (by kernel_rfl) rfl (by kernel_rfl) rfl rfl rfl rfl (by kernel_rfl) hZ (show 39 < 44 by decide) rfl (below_setCell hS hB 39 _) ?_
 simp only [lay]
 refine wpAnyH_done (by kernel_rfl) ?_ _
 have hZ6 := hZ.setCell 39 (.int .u32 I)
 have hK6 := hK2.but6 (But6.setCell g 39 W5 (.int .u32 I)) (Nat.lt_succ_self g)
 have hB6 := below_setCell hS hB 39 (.int .u32 I)
 generalize W5.setCell ⟨g, 39, none⟩ (.int .u32 I) = W6 at hZ6 hK6 hB6 ⊢
 have e0' := (hB6.cell (p := ⟨b, o, none⟩) hb).trans e0
 go_wp2
 go_ret
 obtain ⟨q1, q2, q3, q4⟩ := hxs.out
 rw [q1, q2, q3, q4]
 exact ⟨Byt.mk rfl, hZ6, hK6, hkl, hB6⟩
end Go.Proofs.Ytjnphelfloiadaa
