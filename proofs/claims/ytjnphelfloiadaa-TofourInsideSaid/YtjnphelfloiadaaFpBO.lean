/-
  Lemmas and walks for the row of TofourPackets,TofourMessages,TofourInside (part 41 of 42).
-/
import Derived.Test.YtjnphelfloiadaaFpAD
import Derived.Test.YtjnphelfloiadaaFpAG
import Derived.Test.YtjnphelfloiadaaFpAK
import Derived.Test.YtjnphelfloiadaaFpAQ
import Derived.Test.YtjnphelfloiadaaFpAS
import Derived.Test.YtjnphelfloiadaaFpBK
import Derived.Test.YtjnphelfloiadaaFpBM
import Derived.Test.YtjnphelfloiadaaFpBN
set_option linter.unusedVariables false
set_option linter.unusedSimpArgs false
namespace Go.Proofs.Ytjnphelfloiadaa
open Go.RowKit Go.Shelf
attribute [local irreducible] wpList Code.wp Oper.wp wpOp wpAnyH

theorem rngs_of {l : List Int} (h : l.all (fun x => decide (0 ≤ x) && decide (x ≤ 255)) = true) : InB l := by
 intro x hx
 have := List.all_eq_true.1 h x hx
 simpa using this
def sB18 : List Int := [1, 0, 0, 0, 0, 0, 0, 0, 0, 0, 0, 0, 0, 0, 0, 0]
def tB18 : List Int := [2, 0, 0, 0, 0, 0, 0, 0, 0, 0, 0, 0, 0, 0, 0, 0]
def uB18 : DU := ⟨5, 6, [120]⟩
def dB18 : D6 := ⟨0, 0, 9, sB18, tB18, [], false, 0, 0, false, 17, [0, 5, 0, 6, 0, 9, 132, 209, 120]⟩
def DB18 : D4 := ⟨0, 0, true, false, 0, 9, 17, 10, 0, 0, 0, 11, 0, 0, 0, [], [0, 5, 0, 6, 0, 9, 114, 209, 120]⟩
theorem awake18_write : uB18.write (pse6 sB18 tB18 (8 + (uB18.bl.length : Int)) 17) = [0, 5, 0, 6, 0, 9, 132, 209, 120] := by kernel_rfl
theorem awake18_pack : pack18 dB18 [10, 0, 0, 0] [11, 0, 0, 0] [0, 0, 0, 0] [0, 0, 0, 0] = (DB18, 0) := by kernel_rfl
theorem awake18_e : E4ok [10, 0, 0, 0] [11, 0, 0, 0] := ⟨rfl, rngs_of (by decide), rfl, rngs_of (by decide)⟩
theorem awake18_z : E4ok [0, 0, 0, 0] [0, 0, 0, 0] := ⟨rfl, rngs_of (by decide), rfl, rngs_of (by decide)⟩
theorem dB18_ok : dB18.ok := ⟨by decide, by decide, by decide, rfl, rngs_of (by decide), rfl, rngs_of (by decide), by decide, by decide, by decide⟩
theorem awake18_got : uGot false (pse4 [10, 0, 0, 0] [11, 0, 0, 0] (([0, 5, 0, 6, 0, 9, 114, 209, 120] : List Int).length : Int) 17) [0, 5, 0, 6, 0, 9, 114, 209, 120] = uB18 := by kernel_rfl
theorem awake18_none : uNone false (pse4 [10, 0, 0, 0] [11, 0, 0, 0] (([0, 5, 0, 6, 0, 9, 114, 209, 120] : List Int).length : Int) 17) [0, 5, 0, 6, 0, 9, 114, 209, 120] = false := by kernel_rfl
theorem awake18_err : uErr false (pse4 [10, 0, 0, 0] [11, 0, 0, 0] (([0, 5, 0, 6, 0, 9, 114, 209, 120] : List Int).length : Int) 17) [0, 5, 0, 6, 0, 9, 114, 209, 120] = 0 := by kernel_rfl
theorem ow_mark {P : Program} {o : Oper} {act : Act} {w : World} {K : Act → World → Prop} {Q : Exit → Act → World → Prop} (t e : TypeId) (x : Operand) (g n c : Nat) (cs : Array Value) (ho : o.op = .convert t t x) (hx : act.eval x = sq9 g 0 n c) (ht : P.underlying t = some (.slice e)) (he : P.underlying e = some (.int .u8))
  (hH : Has w g (.cells cs e (0, 0))) (h : ∀ w', Has w' g (.cells cs e (cs.size, cs.size + 1)) → But6 g w w' → Below g w w' → K (act.put o.dst (sq9 g 0 n c)) w') : o.wp P act w K Q := by
 have hH2 : w.heap[g]? = some (.cells cs e (0, 0)) := hH
 have hsh : w.shape? g = some (e, cs.size) := by unfold World.shape?; rw [hH2]
 have hc : (convert t t (sq9 g 0 n c)).run P w = .ok (sq9 g 0 n c) (w.freeze ⟨g, cs.size, none⟩ 1) := by
  simp [convert, run_underlying ht, run_underlying he, markStringish, hsh]
 have hr : (execOp act.eval o).run P w = .ok (.value (sq9 g 0 n c)) (w.freeze ⟨g, cs.size, none⟩ 1) := by
  unfold execOp
  simp [ho, hx, hc]
 unfold Oper.wp
 rw [hr]
 have hoth : ∀ j, j ≠ g → (w.freeze ⟨g, cs.size, none⟩ 1).heap[j]? = w.heap[j]? := fun j hj => by
  unfold World.freeze
  rw [if_neg (by decide)]
  show (w.heap.modify g _)[j]? = _
  rw [Array.getElem?_modify, if_neg (by omega)]
 have hsz : (w.freeze ⟨g, cs.size, none⟩ 1).heap.size = w.heap.size := by
  unfold World.freeze
  rw [if_neg (by decide)]
  show (w.heap.modify g _).size = _
  simp
 refine h _ ?_ ⟨hsz, hoth⟩ ⟨?_, ?_, ?_, Nat.le_of_eq hsz.symm, fun j hj => hoth j (by omega)⟩
 ·show (w.freeze ⟨g, cs.size, none⟩ 1).heap[g]? = _
  unfold World.freeze
  rw [if_neg (by decide)]
  show (w.heap.modify g _)[g]? = _
  rw [Array.getElem?_modify, if_pos rfl, hH2]
  rfl
 all_goals (unfold World.freeze; rw [if_neg (by decide)])
theorem Own4.to {w w' : World} {base : Nat} {D : D4} {p : W4} (h : Own4 w base D p) (b : Below w.heap.size w w') : Own4 w' base D p := ⟨h.ok, h.opt.below b, h.body.below b⟩

set_option maxRecDepth 100000 in
set_option maxHeartbeats 4000000 in
theorem awake18_any (w : World) :
  Calls Try.prog 12 #[] w fun e w' => e = .returned (.bool true) ∧ Below w.heap.size w w' := by
 go_enter Try.func12, Try.ntmps12
 refine wp_sr ?_
 refine lv (.bool false) (by exact xa) ?_
 simp only [lay]
 refine wn ?_
 refine wp_sr ?_
 refine lv (.agg #[.int .u8 1, .int .u8 0, .int .u8 0, .int .u8 0, .int .u8 0, .int .u8 0, .int .u8 0, .int .u8 0, .int .u8 0, .int .u8 0, .int .u8 0, .int .u8 0, .int .u8 0, .int .u8 0, .int .u8 0, .int .u8 0]) (by kernel_rfl) ?_
 refine lv (.agg #[.int .u8 2, .int .u8 0, .int .u8 0, .int .u8 0, .int .u8 0, .int .u8 0, .int .u8 0, .int .u8 0, .int .u8 0, .int .u8 0, .int .u8 0, .int .u8 0, .int .u8 0, .int .u8 0, .int .u8 0, .int .u8 0]) (by kernel_rfl) ?_
 simp only [lay]
 refine lz (oa #[.int .u8 0, .int .u8 0, .int .u8 0, .int .u8 0, .int .u8 0, .int .u8 0, .int .u8 0, .int .u8 0, .int .u8 0, .int .u8 0, .int .u8 0, .int .u8 0, .int .u8 0, .int .u8 0, .int .u8 0, .int .u8 0] ?_)
 intro g1 W2 hg3 ge4 sz5 hb6
 have z7 := hb6.size
 simp only [lay]
 refine lz (oa #[.int .u8 0, .int .u8 0, .int .u8 0, .int .u8 0, .int .u8 0, .int .u8 0, .int .u8 0, .int .u8 0, .int .u8 0, .int .u8 0, .int .u8 0, .int .u8 0, .int .u8 0, .int .u8 0, .int .u8 0, .int .u8 0] ?_)
 intro g8 W9 hg10 ge11 sz12 hb13
 have z14 := hb13.size
 simp only [lay]
 refine lz (ow_st 24 (.tmp 1) (.tmp 10) g1 #[.int .u8 1, .int .u8 0, .int .u8 0, .int .u8 0, .int .u8 0, .int .u8 0, .int .u8 0, .int .u8 0, .int .u8 0, .int .u8 0, .int .u8 0, .int .u8 0, .int .u8 0, .int .u8 0, .int .u8 0, .int .u8 0] _ _ rfl (by rfl) (by rfl) (hg3.to hb13) (by kernel_rfl) rfl (by kernel_rfl) ?_)
 intro W15 hg16 bs17 hb18
 have z20 := hb18.size
 simp only [lay]
 refine lz (ow_st 24 (.tmp 2) (.tmp 11) g8 #[.int .u8 2, .int .u8 0, .int .u8 0, .int .u8 0, .int .u8 0, .int .u8 0, .int .u8 0, .int .u8 0, .int .u8 0, .int .u8 0, .int .u8 0, .int .u8 0, .int .u8 0, .int .u8 0, .int .u8 0, .int .u8 0] _ _ rfl (by rfl) (by rfl) (hg10.but6 bs17 (by omega)) (by kernel_rfl) rfl (by kernel_rfl) ?_)
 intro W22 hg23 bs24 hb25
 have z26 := hb25.size
 have has27 := hg16.but6 bs24 (by omega)
 simp only [lay]
 refine wn ?_
 refine wp_seq ?_
 refine rg_drawn W22.heap.size (by kernel_rfl) (Nat.le_refl _) ?_
 intro W28 hb29 hs30 hS31
 have z32 := hb29.size
 refine wpAnyH_join (fun a W => ∃ (A58 : Option Addr) (c59 : Nat) (g33 : Nat), a = ⟨#[.bool false, pq9 g1 0, pq9 g8 0, .slice A58 9 c59, .int .i64 0, undef, undef, undef, undef, undef, .agg #[.int .u8 1, .int .u8 0, .int .u8 0, .int .u8 0, .int .u8 0, .int .u8 0, .int .u8 0, .int .u8 0, .int .u8 0, .int .u8 0, .int .u8 0, .int .u8 0, .int .u8 0, .int .u8 0, .int .u8 0, .int .u8 0], .agg #[.int .u8 2, .int .u8 0, .int .u8 0, .int .u8 0, .int .u8 0, .int .u8 0, .int .u8 0, .int .u8 0, .int .u8 0, .int .u8 0, .int .u8 0, .int .u8 0, .int .u8 0, .int .u8 0, .int .u8 0, .int .u8 0], .tuple #[.slice A58 9 c59, .int .i64 0], sq9 g1 0 16 16, sq9 g8 0 16 16, sq9 g33 0 1 1, sq9 g33 0 1 1, .agg #[.int .u16 5, .int .u16 6, sq9 g33 0 1 1], .tuple #[.slice A58 9 c59, .int .i64 0], .slice A58 9 c59, .int .i64 0, undef, undef, undef, undef, undef, undef, undef, undef, undef, undef, undef, undef, undef, undef, undef, undef, undef, undef, undef, undef, undef, undef, undef, undef, undef, undef, undef, undef, undef, undef, undef, undef, undef, undef, undef, undef, undef, undef, undef, undef, undef, undef, undef, undef, undef, undef, undef, undef, undef, undef, undef, undef, undef, undef], []⟩ ∧ Below W22.heap.size W22 W ∧ OwnB W W22.heap.size (.slice A58 9 c59) [0, 5, 0, 6, 0, 9, 132, 209, 120]) (fun hk63 => ?_) ?_
 case refine_1 =>
  refine te 0 (sq9 g1 0 16 16) hS31 rfl (by intro _ _; exact ex_arr (by rfl) Try.underlying24 (by kernel_rfl) (by rfl)) ?_
  refine te 1 (sq9 g8 0 16 16) hS31 rfl (by intro _ _; exact ex_arr (by rfl) Try.underlying24 (by kernel_rfl) (by rfl)) ?_
  simp only [lay]
  refine t1 2 rfl (ow_build (u8s [120]) rfl Try.underlying26 (by kernel_rfl) (by kernel_rfl) rfl (by decide) (by decide) (by first|rfl|(simp only [List.map_toArray, List.map_cons, List.map_nil] <;> rfl)) (u8s_cells _) ?_)
  intro g64 W65 hg66 ge67 sz68 hb69
  have z70 := hb69.size
  have hS71 := bt hS31 hb69
  refine ⟨hS71, ?_⟩
  simp only [lay]
  refine t1 3 rfl (ow_mark 26 5 (.tmp 15) g64 1 1 _ rfl (by rfl) Try.underlying26 Try.underlying5 hg66 ?_)
  intro W72 hg73 bs74 hb75
  have z76 := hb75.size
  have y77 : By W72.heap.size W72 (some ⟨g64, 0, none⟩) 1 1 [120] := By.blk (l := [120]) hg73 (Nat.le_refl _) (rngs_of (by decide)) (by decide) rfl rfl
  refine ⟨(Below.trans hS71 (hb75.mono (by omega))), ?_⟩
  have hS78 := (Below.trans hS71 (hb75.mono (by omega)))
  simp only [lay]
  refine te 4 (.agg #[.int .u16 5, .int .u16 6, sq9 g64 0 1 1]) hS78 rfl (by intro _ _; kernel_rfl) ?_
  simp only [lay]
  have b81 := (bt hb29 hb69).trans (hb75.mono (lq hb29 ge67))
  refine t1 5 rfl (ow_call (fun v w' => (∃ u, v = .tuple #[u, .int .i64 0] ∧ OwnB w' W72.heap.size u [0, 5, 0, 6, 0, 9, 132, 209, 120]) ∧ Below W72.heap.size W72 w') (by exact xk Try.func43) ((rwudp6_any sB18 tB18 rfl rfl _ _ _ _ uB18 _ _ W72 ((has27.to b81).byIn 0 16 [1, 0, 0, 0, 0, 0, 0, 0, 0, 0, 0, 0, 0, 0, 0, 0] rfl (by kernel_rfl) (rngs_of (by decide)) (by decide)) ((hg23.to b81).byIn 0 16 [2, 0, 0, 0, 0, 0, 0, 0, 0, 0, 0, 0, 0, 0, 0, 0] rfl (by kernel_rfl) (rngs_of (by decide)) (by decide)) ⟨⟨by decide, by decide⟩, y77⟩).mono (by rintro e w' ⟨v, s, rfl, hs, ho, hb⟩; rw [awake18_write] at ho; obtain rfl : s = 0 := hs.out.trans (by decide); exact ⟨_, rfl, ⟨v, rfl, ho⟩, hb⟩)) ?_)
  rintro _ W84 ⟨⟨u86, rfl, hO87⟩, hb85⟩
  have z88 := hb85.size
  obtain ⟨A89, c90, rfl, y91⟩ := hO87.by_
  have hS92 := bt hS78 hb85
  refine ⟨hS92, ?_⟩
  simp only [lay]
  refine te 6 (.tuple #[.slice A89 9 c90, .int .i64 0]) hS92 rfl (by intro _ _; exact xm) ?_
  refine te 7 (.slice A89 9 c90) hS92 rfl (by intro _ _; exact xe) ?_
  refine te 8 (.int .i64 0) hS92 rfl (by intro _ _; exact xe) ?_
  refine te 9 (.slice A89 9 c90) hS92 rfl (by intro _ _; exact xa) ?_
  simp only [lay]
  refine te 10 (.int .i64 0) hS92 rfl (by intro _ _; exact xa) ?_
  simp only [lay]
  refine wpAnyH_done (by kernel_rfl) ?_ _
  exact hk63 _ _ ⟨A89, c90, g64, rfl, (bt b81 hb85), (hO87.more b81.size)⟩
 rintro _ W62 ⟨A58, c59, g33, rfl, hb94, hO95⟩
 have z96 := hb94.size
 change Code.wp _ _ _ _ _
 refine wp_sr ?_
 refine lv (.agg #[.int .u8 1, .int .u8 0, .int .u8 0, .int .u8 0, .int .u8 0, .int .u8 0, .int .u8 0, .int .u8 0, .int .u8 0, .int .u8 0, .int .u8 0, .int .u8 0, .int .u8 0, .int .u8 0, .int .u8 0, .int .u8 0]) (by exact xo ((has27.to hb94).load (P := Try.prog) 24 Try.underlying24 rfl (by kernel_rfl))) ?_
 simp only [lay]
 refine lv (.agg #[.int .u8 2, .int .u8 0, .int .u8 0, .int .u8 0, .int .u8 0, .int .u8 0, .int .u8 0, .int .u8 0, .int .u8 0, .int .u8 0, .int .u8 0, .int .u8 0, .int .u8 0, .int .u8 0, .int .u8 0, .int .u8 0]) (by exact xo ((hg23.to hb94).load (P := Try.prog) 24 Try.underlying24 rfl (by kernel_rfl))) ?_
 refine lv (.slice A58 9 c59) (by exact xm) ?_
 refine lv (.agg #[.int .u8 0, .int .u32 0, .int .u8 9, .int .u8 1, .int .u8 0, .int .u8 0, .int .u8 0, .int .u8 0, .int .u8 0, .int .u8 0, .int .u8 0, .int .u8 0, .int .u8 0, .int .u8 0, .int .u8 0, .int .u8 0, .int .u8 0, .int .u8 0, .int .u8 0, .int .u8 2, .int .u8 0, .int .u8 0, .int .u8 0, .int .u8 0, .int .u8 0, .int .u8 0, .int .u8 0, .int .u8 0, .int .u8 0, .int .u8 0, .int .u8 0, .int .u8 0, .int .u8 0, .int .u8 0, .int .u8 0, .slice none 0 0, .bool false, .int .u32 0, .int .i64 0, .bool false, .int .u8 17, .slice A58 9 c59]) (by kernel_rfl) ?_
 refine lv (.agg #[.int .u8 10, .int .u8 0, .int .u8 0, .int .u8 0]) (by kernel_rfl) ?_
 simp only [lay]
 refine lv (.agg #[.int .u8 11, .int .u8 0, .int .u8 0, .int .u8 0]) (by kernel_rfl) ?_
 refine lv (.agg #[.int .u8 10, .int .u8 0, .int .u8 0, .int .u8 0, .int .u8 11, .int .u8 0, .int .u8 0, .int .u8 0]) (by kernel_rfl) ?_
 refine lv (.agg #[.int .u8 0, .int .u8 0, .int .u8 0, .int .u8 0, .int .u8 0, .int .u8 0, .int .u8 0, .int .u8 0]) (by kernel_rfl) ?_
 simp only [lay]
 refine lz (ow_call (fun v w' => (∃ p, v = .tuple #[.agg (DB18.cells p), .int .i64 0] ∧ Own4 w' W62.heap.size DB18 p) ∧ Below W62.heap.size W62 w') (by exact xk Try.func9) ((pack18_any dB18 _ [10, 0, 0, 0] [11, 0, 0, 0] [0, 0, 0, 0] [0, 0, 0, 0] awake18_e awake18_z W62 (⟨dB18_ok, rfl, Kds.nil _ _, (own_byS hO95)⟩ : Rd6 W62.heap.size W62 dB18 ⟨none, 0, [], A58, c59⟩)).mono (by rintro e w' ⟨⟨p, rfl, ho⟩, hb⟩; rw [awake18_pack] at ho; exact ⟨_, rfl, ⟨p, by rw [awake18_pack], ho⟩, hb⟩)) ?_)
 rintro _ W99 ⟨⟨p101, rfl, ho102⟩, hb100⟩
 have z103 := hb100.size
 have hO104 : OwnB W99 W62.heap.size (.slice p101.bA 9 p101.bc) [0, 5, 0, 6, 0, 9, 114, 209, 120] := ho102.body
 simp only [lay]
 refine lv (.tuple #[.agg (DB18.cells p101), .int .i64 0]) (by exact xm) ?_
 refine lv (.agg (DB18.cells p101)) (by exact xe) ?_
 refine lv (.int .i64 0) (by exact xe) ?_
 simp only [lay]
 refine lz (oa (v17 0 0 false false 0 0 0 [] [] (.slice none 0 0) (.slice none 0 0)) ?_)
 intro g105 W106 hg107 ge108 sz109 hb110
 have z111 := hb110.size
 simp only [lay]
 refine lz (ow_st 35 (.tmp 5) (.tmp 31) g105 (DB18.cells p101) _ _ rfl (by rfl) (by rfl) hg107 (by kernel_rfl) rfl (by kernel_rfl) ?_)
 intro W112 hg113 bs114 hb115
 have z116 := hb115.size
 simp only [lay]
 refine lv (.int .i64 0) (by exact xa) ?_
 simp only [lay]
 refine wn ?_
 refine wp_seq ?_
 refine rg_drawn W112.heap.size (by kernel_rfl) (Nat.le_refl _) ?_
 intro W117 hb118 hs119 hS120
 have z121 := hb118.size
 refine wpAnyH_join (fun a W => ∃ (g136 : Nat) (A131 : Option Addr) (c132 : Nat), a = ⟨#[.bool false, pq9 g1 0, pq9 g8 0, .slice A58 9 c59, .int .i64 0, pq9 g105 0, .int .i64 0, pq9 g136 0, .bool false, .int .i64 0, .agg #[.int .u8 1, .int .u8 0, .int .u8 0, .int .u8 0, .int .u8 0, .int .u8 0, .int .u8 0, .int .u8 0, .int .u8 0, .int .u8 0, .int .u8 0, .int .u8 0, .int .u8 0, .int .u8 0, .int .u8 0, .int .u8 0], .agg #[.int .u8 2, .int .u8 0, .int .u8 0, .int .u8 0, .int .u8 0, .int .u8 0, .int .u8 0, .int .u8 0, .int .u8 0, .int .u8 0, .int .u8 0, .int .u8 0, .int .u8 0, .int .u8 0, .int .u8 0, .int .u8 0], .tuple #[.slice A58 9 c59, .int .i64 0], sq9 g1 0 16 16, sq9 g8 0 16 16, sq9 g33 0 1 1, sq9 g33 0 1 1, .agg #[.int .u16 5, .int .u16 6, sq9 g33 0 1 1], .tuple #[.slice A58 9 c59, .int .i64 0], .slice A58 9 c59, .int .i64 0, .tuple #[.agg (DB18.cells p101), .int .i64 0], .agg #[.int .u8 1, .int .u8 0, .int .u8 0, .int .u8 0, .int .u8 0, .int .u8 0, .int .u8 0, .int .u8 0, .int .u8 0, .int .u8 0, .int .u8 0, .int .u8 0, .int .u8 0, .int .u8 0, .int .u8 0, .int .u8 0], .agg #[.int .u8 2, .int .u8 0, .int .u8 0, .int .u8 0, .int .u8 0, .int .u8 0, .int .u8 0, .int .u8 0, .int .u8 0, .int .u8 0, .int .u8 0, .int .u8 0, .int .u8 0, .int .u8 0, .int .u8 0, .int .u8 0], .slice A58 9 c59, .agg #[.int .u8 0, .int .u32 0, .int .u8 9, .int .u8 1, .int .u8 0, .int .u8 0, .int .u8 0, .int .u8 0, .int .u8 0, .int .u8 0, .int .u8 0, .int .u8 0, .int .u8 0, .int .u8 0, .int .u8 0, .int .u8 0, .int .u8 0, .int .u8 0, .int .u8 0, .int .u8 2, .int .u8 0, .int .u8 0, .int .u8 0, .int .u8 0, .int .u8 0, .int .u8 0, .int .u8 0, .int .u8 0, .int .u8 0, .int .u8 0, .int .u8 0, .int .u8 0, .int .u8 0, .int .u8 0, .int .u8 0, .slice none 0 0, .bool false, .int .u32 0, .int .i64 0, .bool false, .int .u8 17, .slice A58 9 c59], .agg #[.int .u8 10, .int .u8 0, .int .u8 0, .int .u8 0], .agg #[.int .u8 11, .int .u8 0, .int .u8 0, .int .u8 0], .agg #[.int .u8 10, .int .u8 0, .int .u8 0, .int .u8 0, .int .u8 11, .int .u8 0, .int .u8 0, .int .u8 0], .agg #[.int .u8 0, .int .u8 0, .int .u8 0, .int .u8 0, .int .u8 0, .int .u8 0, .int .u8 0, .int .u8 0], .tuple #[.agg (DB18.cells p101), .int .i64 0], .agg (DB18.cells p101), .int .i64 0, .tuple #[.agg (uB18.cells A131 c132), .bool false, .int .i64 0], pq9 g105 7, sq9 g105 7 4 4, pq9 g105 11, sq9 g105 11 4 4, pq9 g105 16, .slice p101.bA 9 p101.bc, .tuple #[.agg (uB18.cells A131 c132), .bool false, .int .i64 0], .agg (uB18.cells A131 c132), .bool false, .int .i64 0, undef, undef, undef, undef, undef, undef, undef, undef, undef, undef, undef, undef, undef, undef, undef, undef, undef, undef, undef, undef, undef, undef, undef, undef, undef, undef, undef, undef, undef, undef, undef], []⟩ ∧ Below W112.heap.size W112 W ∧ Has W g136 (.cells (uB18.cells A131 c132) 80 (0, 0)) ∧ W112.heap.size ≤ g136 ∧ OwnB W W112.heap.size (.slice A131 1 c132) [120]) (fun hk151 => ?_) ?_
 case refine_1 =>
  refine te 0 (pq9 g105 7) hS120 rfl (by intro _ _; exact xf 7 3 Try.underlying35) ?_
  refine te 1 (sq9 g105 7 4 4) hS120 rfl (by intro _ _; exact ex_arr (by rfl) Try.underlying30 (by kernel_rfl) (by rfl)) ?_
  refine te 2 (pq9 g105 11) hS120 rfl (by intro _ _; exact xf 11 3 Try.underlying35) ?_
  refine te 3 (sq9 g105 11 4 4) hS120 rfl (by intro _ _; exact ex_arr (by rfl) Try.underlying30 (by kernel_rfl) (by rfl)) ?_
  simp only [lay]
  refine te 4 (pq9 g105 16) hS120 rfl (by intro _ _; exact xf 16 0 Try.underlying35) ?_
  refine te 5 (.slice p101.bA 9 p101.bc) hS120 rfl (by intro _ h; exact xc Try.underlying26 ((hg113.to h).cell 16 rfl)) ?_
  simp only [lay]
  refine tk_two (i := 6) (j := 11) (by kernel_rfl) ?L152 ?L153
  case L152 =>
   have has154 := hg113.to hb118
   have l155 : W99.heap.size ≤ g105 := Nat.le_of_eq ge108.symm
   refine rs (i := 6) rfl (by kernel_rfl) (ow_call (fun v w' => (∃ A c, v = .tuple #[.agg (uB18.cells A c), .bool false, .int .i64 0] ∧ OwnB w' W117.heap.size (.slice A 1 c) [120]) ∧ Below W117.heap.size W117 w') (by exact xk Try.func44) ((rpudp4_any [10, 0, 0, 0] [11, 0, 0, 0] rfl rfl _ _ _ _ _ _ [0, 5, 0, 6, 0, 9, 114, 209, 120] W117 (has154.byIn 7 4 [10, 0, 0, 0] rfl (by kernel_rfl) (rngs_of (by decide)) (by decide)) (has154.byIn 11 4 [11, 0, 0, 0] rfl (by kernel_rfl) (rngs_of (by decide)) (by decide)) (own_byS (hO104.to (bt (hb110.trans (hb115.mono l155)) hb118)))).mono (by rintro e w' ⟨A, c, rfl, hk, ho, hb⟩; rw [awake18_got] at ho; exact ⟨_, rfl, ⟨A, c, by rw [awake18_got, awake18_none, awake18_err], ho⟩, hb⟩)) ?_)
   rintro _ W159 ⟨⟨A161, c162, rfl, hO163⟩, hb160⟩
   have z164 := hb160.size
   have hS165 := bt hS120 hb160
   refine ⟨hS165, ?_⟩
   simp only [lay]
   refine te 7 (.tuple #[.agg (uB18.cells A161 c162), .bool false, .int .i64 0]) hS165 rfl (by intro _ _; exact xm) ?_
   refine te 8 (.agg (uB18.cells A161 c162)) hS165 rfl (by intro _ _; exact xe) ?_
   refine te 9 (.bool false) hS165 rfl (by intro _ _; exact xe) ?_
   refine te 10 (.int .i64 0) hS165 rfl (by intro _ _; exact xe) ?_
   simp only [lay]
   refine t1 11 rfl (oa #[.int .u16 0, .int .u16 0, .slice none 0 0] ?_)
   intro g166 W167 hg168 ge169 sz170 hb171
   have z172 := hb171.size
   have hS173 := bt hS165 hb171
   refine ⟨hS173, ?_⟩
   simp only [lay]
   refine t1 12 rfl (ow_st 80 (.tmp 7) (.tmp 41) g166 (uB18.cells A161 c162) _ _ rfl (by rfl) (by rfl) hg168 (by kernel_rfl) rfl (by kernel_rfl) ?_)
   intro W174 hg175 bs176 hb177
   have z178 := hb177.size
   refine ⟨(Below.trans hS173 (hb177.mono (by omega))), ?_⟩
   have hS179 := (Below.trans hS173 (hb177.mono (by omega)))
   simp only [lay]
   refine te 13 (.bool false) hS179 rfl (by intro _ _; exact xa) ?_
   refine te 14 (.int .i64 0) hS179 rfl (by intro _ _; exact xa) ?_
   simp only [lay]
   refine wpAnyH_done (by kernel_rfl) ?_ _
   have b180 := bt hb118 hb160
   have l184 : W159.heap.size ≤ g166 := Nat.le_of_eq ge169.symm
   exact hk151 _ _ ⟨g166, A161, c162, rfl, ((bt b180 hb171).trans (hb177.mono (lq b180 ge169))), hg175, (by omega), ((hO163.to (hb171.trans (hb177.mono l184))).more hb118.size)⟩
  case L153 =>
   refine rs (i := 11) rfl (by kernel_rfl) (oa #[.int .u16 0, .int .u16 0, .slice none 0 0] ?_)
   intro g187 W188 hg189 ge190 sz191 hb192
   have z193 := hb192.size
   have hS194 := bt hS120 hb192
   refine ⟨hS194, ?_⟩
   simp only [lay]
   have b195 := bt hb118 hb192
   have has196 := hg113.to b195
   have l197 : W99.heap.size ≤ g105 := Nat.le_of_eq ge108.symm
   refine t1 6 rfl (ow_call (fun v w' => (∃ A c, v = .tuple #[.agg (uB18.cells A c), .bool false, .int .i64 0] ∧ OwnB w' W188.heap.size (.slice A 1 c) [120]) ∧ Below W188.heap.size W188 w') (by exact xk Try.func44) ((rpudp4_any [10, 0, 0, 0] [11, 0, 0, 0] rfl rfl _ _ _ _ _ _ [0, 5, 0, 6, 0, 9, 114, 209, 120] W188 (has196.byIn 7 4 [10, 0, 0, 0] rfl (by kernel_rfl) (rngs_of (by decide)) (by decide)) (has196.byIn 11 4 [11, 0, 0, 0] rfl (by kernel_rfl) (rngs_of (by decide)) (by decide)) (own_byS (hO104.to (bt (bt (hb110.trans (hb115.mono l197)) hb118) hb192)))).mono (by rintro e w' ⟨A, c, rfl, hk, ho, hb⟩; rw [awake18_got] at ho; exact ⟨_, rfl, ⟨A, c, by rw [awake18_got, awake18_none, awake18_err], ho⟩, hb⟩)) ?_)
   rintro _ W202 ⟨⟨A204, c205, rfl, hO206⟩, hb203⟩
   have z207 := hb203.size
   have hS208 := bt hS194 hb203
   refine ⟨hS208, ?_⟩
   simp only [lay]
   refine te 7 (.tuple #[.agg (uB18.cells A204 c205), .bool false, .int .i64 0]) hS208 rfl (by intro _ _; exact xm) ?_
   refine te 8 (.agg (uB18.cells A204 c205)) hS208 rfl (by intro _ _; exact xe) ?_
   refine te 9 (.bool false) hS208 rfl (by intro _ _; exact xe) ?_
   refine te 10 (.int .i64 0) hS208 rfl (by intro _ _; exact xe) ?_
   simp only [lay]
   refine t1 12 rfl (ow_st 80 (.tmp 7) (.tmp 41) g187 (uB18.cells A204 c205) _ _ rfl (by rfl) (by rfl) (hg189.to hb203) (by kernel_rfl) rfl (by kernel_rfl) ?_)
   intro W209 hg210 bs211 hb212
   have z214 := hb212.size
   refine ⟨(Below.trans hS208 (hb212.mono (by omega))), ?_⟩
   have hS216 := (Below.trans hS208 (hb212.mono (by omega)))
   simp only [lay]
   refine te 13 (.bool false) hS216 rfl (by intro _ _; exact xa) ?_
   refine te 14 (.int .i64 0) hS216 rfl (by intro _ _; exact xa) ?_
   simp only [lay]
   refine wpAnyH_done (by kernel_rfl) ?_ _
   exact hk151 _ _ ⟨g187, A204, c205, rfl, ((bt b195 hb203).trans (hb212.mono (lq hb118 ge190))), hg210, (by omega), ((hO206.but6 bs211 (by omega)).more b195.size)⟩
 rintro _ W150 ⟨g136, A131, c132, rfl, hb220, hg221, l222, hO223⟩
 have z224 := hb220.size
 change Code.wp _ _ _ _ _
 refine wp_sr ?_
 refine lv (.int .i64 0) (by exact xm) ?_
 refine lv (.bool true) (by exact yq (h := (by decide))) ?_
 refine lv (.bool true) (by exact xm) ?_
 refine lv (.int .i64 0) (by exact xm) ?_
 simp only [lay]
 refine lv (.bool true) (by exact yq (h := (by decide))) ?_
 refine lv (.bool true) (by exact xp (b := true)) ?_
 refine lv (.bool true) (by exact xm) ?_
 refine lv (pq9 g105 2) (by exact xf 2 0 Try.underlying35) ?_
 simp only [lay]
 have has225 := hg113.to hb220
 refine lv (.bool true) (by exact xc Try.underlying4 (has225.cell 2 rfl)) ?_
 refine lv (.bool true) (by exact xp (b := true)) ?_
 refine lv (.bool true) (by exact xm) ?_
 refine lv (pq9 g105 5) (by exact xf 5 0 Try.underlying35) ?_
 simp only [lay]
 refine lv (.int .u8 9) (by exact xc Try.underlying5 (has225.cell 5 rfl)) ?_
 refine lv (.bool true) (by exact yq (h := (by decide))) ?_
 refine lv (.bool true) (by exact xp (b := true)) ?_
 refine lv (.bool true) (by exact xm) ?_
 simp only [lay]
 refine lv (pq9 g105 11) (by exact xf 11 3 Try.underlying35) ?_
 refine lv (pq9 g105 11) (by kernel_rfl) ?_
 refine lv (.int .u8 11) (by exact xc Try.underlying5 (has225.cell 11 rfl)) ?_
 refine lv (.bool true) (by exact yq (h := (by decide))) ?_
 simp only [lay]
 refine lv (.bool true) (by exact xp (b := true)) ?_
 refine lv (.bool true) (by exact xm) ?_
 refine lv (pq9 g136 2) (by exact xf 2 0 Try.underlying80) ?_
 refine lv (.slice A131 1 c132) (by exact xc Try.underlying26 (hg221.cell 2 rfl)) ?_
 simp only [lay]
 refine lv (.string (strOfNums [120])) (by exact xv (By.conv (P := Try.prog) (own_byS hO223) 26 9 Try.underlying26 Try.underlying5 Try.underlying9)) ?_
 refine lv (.bool true) (by exact eq_str_self (s := strOfNums [120]) (by rfl) (by rfl) (by rfl)) ?_
 refine lv (.bool true) (by exact xp (b := true)) ?_
 refine lv (.bool true) (by exact xm) ?_
 simp only [lay]
 refine lz (ow_same (.int .u16 1260) (by exact xk Try.func25) (by have := mtu18_any 1280 (by decide) W150; rw [show mtu18 1280 = 1260 from by decide] at this; exact this) ?_)
 simp only [lay]
 refine lv (.bool true) (by exact yq (h := (by decide))) ?_
 refine lv (.bool true) (by exact xp (b := true)) ?_
 refine lv (.bool true) (by exact xa) ?_
 simp only [lay]
 refine wn ?_
 refine wp_ret ?_
 try simp only [Exit.then]
 have l227 : w.heap.size ≤ g1 := Nat.le_of_eq ge4.symm
 have b232 := bt (bt (((bt hb6 hb13).trans (hb18.mono l227)).trans (hb25.mono (lq hb6 ge11))) hb94) hb100
 exact bodyPost_ret (res_one Try.results12 rfl) rfl ⟨rfl, (bt ((bt b232 hb110).trans (hb115.mono (lq b232 ge108))) hb220)⟩
end Go.Proofs.Ytjnphelfloiadaa
