/-
  Lemmas and walks for the row of TofourTells (part 36 of 37).
-/
import Derived.Test.YtjnphelfloiadaaFtAC
import Derived.Test.YtjnphelfloiadaaFtAD
import Derived.Test.YtjnphelfloiadaaFtAI
import Derived.Test.YtjnphelfloiadaaFtAP
import Derived.Test.YtjnphelfloiadaaFtAQ
import Derived.Test.YtjnphelfloiadaaFtAW
import Derived.Test.YtjnphelfloiadaaFtBF
import Derived.Test.YtjnphelfloiadaaFtBH
import Derived.Test.YtjnphelfloiadaaFtBI
import Derived.Stop.BytesEq
import Derived.Laws.StructEq
set_option linter.unusedVariables false
set_option linter.unusedSimpArgs false
namespace Go.Proofs.Ytjnphelfloiadaa
open Go.RowKit Go.Shelf
attribute [local irreducible] wpList Code.wp Oper.wp wpOp wpAnyH

theorem rngs_of {l : List Int} (h : l.all (fun x => decide (0 ≤ x) && decide (x ≤ 255)) = true) : InB l := by
 intro x hx
 have := List.all_eq_true.1 h x hx
 simpa using this
def sB18 : List Int := [1, 0, 0, 0, 0, 0, 0, 0, 0, 0, 0, 0, 0, 0, 0, 0]
def tB18 : List Int := [2, 0, 0, 0, 0, 0, 0, 0, 0, 0, 0, 0, 0, 0, 0, 0]
def uB18 : DU := ⟨5, 6, [120]⟩
def dB18 : D6 := ⟨0, 0, 9, sB18, tB18, [], false, 0, 0, false, 17, [0, 5, 0, 6, 0, 9, 132, 209, 120]⟩
def DB18 : D4 := ⟨0, 0, true, false, 0, 9, 17, 10, 0, 0, 0, 11, 0, 0, 0, [], [0, 5, 0, 6, 0, 9, 114, 209, 120]⟩
theorem awake18_write : uB18.write (pse6 sB18 tB18 (8 + (uB18.bl.length : Int)) 17) = [0, 5, 0, 6, 0, 9, 132, 209, 120] := by kernel_rfl
theorem awake18_pack : pack18 dB18 [10, 0, 0, 0] [11, 0, 0, 0] [0, 0, 0, 0] [0, 0, 0, 0] = (DB18, 0) := by kernel_rfl
theorem awake18_e : E4ok [10, 0, 0, 0] [11, 0, 0, 0] := ⟨rfl, rngs_of (by decide), rfl, rngs_of (by decide)⟩
theorem awake18_z : E4ok [0, 0, 0, 0] [0, 0, 0, 0] := ⟨rfl, rngs_of (by decide), rfl, rngs_of (by decide)⟩
theorem dB18_ok : dB18.ok := ⟨by decide, by decide, by decide, rfl, rngs_of (by decide), rfl, rngs_of (by decide), by decide, by decide, by decide⟩
theorem awake18_got : uGot false (pse4 [10, 0, 0, 0] [11, 0, 0, 0] (([0, 5, 0, 6, 0, 9, 114, 209, 120] : List Int).length : Int) 17) [0, 5, 0, 6, 0, 9, 114, 209, 120] = uB18 := by kernel_rfl
theorem awake18_none : uNone false (pse4 [10, 0, 0, 0] [11, 0, 0, 0] (([0, 5, 0, 6, 0, 9, 114, 209, 120] : List Int).length : Int) 17) [0, 5, 0, 6, 0, 9, 114, 209, 120] = false := by kernel_rfl
theorem awake18_err : uErr false (pse4 [10, 0, 0, 0] [11, 0, 0, 0] (([0, 5, 0, 6, 0, 9, 114, 209, 120] : List Int).length : Int) 17) [0, 5, 0, 6, 0, 9, 114, 209, 120] = 0 := by kernel_rfl
/-- the bytes of a constant string: the row is marked behind its end -/
theorem ow_mark {P : Program} {o : Oper} {act : Act} {w : World} {K : Act → World → Prop} {Q : Exit → Act → World → Prop} (t e : TypeId) (x : Operand) (g n c : Nat) (cs : Array Value) (ho : o.op = .convert t t x) (hx : act.eval x = .slice (some ⟨g, 0, none⟩) n c) (ht : P.underlying t = some (.slice e)) (he : P.underlying e = some (.int .u8))
  (hH : Has w g (.cells cs e (0, 0))) (h : ∀ w', Has w' g (.cells cs e (cs.size, cs.size + 1)) → But6 g w w' → Below g w w' → K (act.put o.dst (.slice (some ⟨g, 0, none⟩) n c)) w') : o.wp P act w K Q := by
 have hH2 : w.heap[g]? = some (.cells cs e (0, 0)) := hH
 have hsh : w.shape? g = some (e, cs.size) := by unfold World.shape?; rw [hH2]
 have hc : (convert t t (.slice (some ⟨g, 0, none⟩) n c)).run P w = .ok (.slice (some ⟨g, 0, none⟩) n c) (w.freeze ⟨g, cs.size, none⟩ 1) := by
  simp [convert, run_underlying ht, run_underlying he, markStringish, hsh]
 have hr : (execOp act.eval o).run P w = .ok (.value (.slice (some ⟨g, 0, none⟩) n c)) (w.freeze ⟨g, cs.size, none⟩ 1) := by
  unfold execOp
  simp [ho, hx, hc]
 unfold Oper.wp
 rw [hr]
 have hoth : ∀ j, j ≠ g → (w.freeze ⟨g, cs.size, none⟩ 1).heap[j]? = w.heap[j]? := fun j hj => by
  unfold World.freeze
  rw [if_neg (by decide)]
  show (w.heap.modify g _)[j]? = _
  rw [Array.getElem?_modify, if_neg (by omega)]
 have hsz : (w.freeze ⟨g, cs.size, none⟩ 1).heap.size = w.heap.size := by
  unfold World.freeze
  rw [if_neg (by decide)]
  show (w.heap.modify g _).size = _
  simp
 refine h _ ?_ ⟨hsz, hoth⟩ ⟨?_, ?_, ?_, Nat.le_of_eq hsz.symm, fun j hj => hoth j (by omega)⟩
 ·show (w.freeze ⟨g, cs.size, none⟩ 1).heap[g]? = _
  unfold World.freeze
  rw [if_neg (by decide)]
  show (w.heap.modify g _)[g]? = _
  rw [Array.getElem?_modify, if_pos rfl, hH2]
  rfl
 all_goals (unfold World.freeze; rw [if_neg (by decide)])
theorem Own4.to {w w' : World} {base : Nat} {D : D4} {p : W4} (h : Own4 w base D p) (b : Below w.heap.size w w') : Own4 w' base D p := ⟨h.ok, h.opt.below b, h.body.below b⟩

set_option maxRecDepth 100000 in
set_option maxHeartbeats 4000000 in
theorem awake18_any (w : World) :
  Calls Try.prog 12 #[] w fun e w' => e = .returned (.bool true) ∧ Below w.heap.size w w' := by
 go_enter Try.func12, Try.ntmps12
 refine wp_sr ?_
 refine lv (.bool false) (by exact xa) ?_
 simp only [lay]
 refine wn ?_
 refine wp_sr ?_
 refine lv (.agg #[.int .u8 1, .int .u8 0, .int .u8 0, .int .u8 0, .int .u8 0, .int .u8 0, .int .u8 0, .int .u8 0, .int .u8 0, .int .u8 0, .int .u8 0, .int .u8 0, .int .u8 0, .int .u8 0, .int .u8 0, .int .u8 0]) (by kernel_rfl) ?_
 simp only [lay]
 refine lv (.agg #[.int .u8 2, .int .u8 0, .int .u8 0, .int .u8 0, .int .u8 0, .int .u8 0, .int .u8 0, .int .u8 0, .int .u8 0, .int .u8 0, .int .u8 0, .int .u8 0, .int .u8 0, .int .u8 0, .int .u8 0, .int .u8 0]) (by kernel_rfl) ?_
 simp only [lay]
 refine lz (oa #[.int .u8 0, .int .u8 0, .int .u8 0, .int .u8 0, .int .u8 0, .int .u8 0, .int .u8 0, .int .u8 0, .int .u8 0, .int .u8 0, .int .u8 0, .int .u8 0, .int .u8 0, .int .u8 0, .int .u8 0, .int .u8 0] ?_)
 intro g1 W2 hg3 ge4 sz5 hb6
 have z7 := hb6.size
 simp only [lay]
 refine lz (oa #[.int .u8 0, .int .u8 0, .int .u8 0, .int .u8 0, .int .u8 0, .int .u8 0, .int .u8 0, .int .u8 0, .int .u8 0, .int .u8 0, .int .u8 0, .int .u8 0, .int .u8 0, .int .u8 0, .int .u8 0, .int .u8 0] ?_)
 intro g8 W9 hg10 ge11 sz12 hb13
 have z14 := hb13.size
 simp only [lay]
 have has19 := hg3.to hb13
 refine lz (ow_st 24 (.tmp 1) (.tmp 10) g1 #[.int .u8 1, .int .u8 0, .int .u8 0, .int .u8 0, .int .u8 0, .int .u8 0, .int .u8 0, .int .u8 0, .int .u8 0, .int .u8 0, .int .u8 0, .int .u8 0, .int .u8 0, .int .u8 0, .int .u8 0, .int .u8 0] _ _ rfl (by exact rfl) (by exact rfl) has19 (by kernel_rfl) rfl (by kernel_rfl) ?_)
 intro W15 hg16 bs17 hb18
 have z20 := hb18.size
 have has21 := hg10.but6 bs17 (by omega)
 simp only [lay]
 refine lz (ow_st 24 (.tmp 2) (.tmp 11) g8 #[.int .u8 2, .int .u8 0, .int .u8 0, .int .u8 0, .int .u8 0, .int .u8 0, .int .u8 0, .int .u8 0, .int .u8 0, .int .u8 0, .int .u8 0, .int .u8 0, .int .u8 0, .int .u8 0, .int .u8 0, .int .u8 0] _ _ rfl (by exact rfl) (by exact rfl) has21 (by kernel_rfl) rfl (by kernel_rfl) ?_)
 intro W22 hg23 bs24 hb25
 have z26 := hb25.size
 have has27 := hg16.but6 bs24 (by omega)
 simp only [lay]
 refine wn ?_
 refine wp_seq ?_
 refine rg_drawn W22.heap.size (by kernel_rfl) (Nat.le_refl _) ?_
 intro W28 hb29 hs30 hS31
 have z32 := hb29.size
 refine wpAnyH_join (fun a W => ∃ (A58 : Option Addr) (c59 : Nat) (g33 : Nat), a = ⟨#[.bool false, .pointer (some ⟨g1, 0, none⟩), .pointer (some ⟨g8, 0, none⟩), .slice A58 9 c59, .int .i64 0, undef, undef, undef, undef, undef, .agg #[.int .u8 1, .int .u8 0, .int .u8 0, .int .u8 0, .int .u8 0, .int .u8 0, .int .u8 0, .int .u8 0, .int .u8 0, .int .u8 0, .int .u8 0, .int .u8 0, .int .u8 0, .int .u8 0, .int .u8 0, .int .u8 0], .agg #[.int .u8 2, .int .u8 0, .int .u8 0, .int .u8 0, .int .u8 0, .int .u8 0, .int .u8 0, .int .u8 0, .int .u8 0, .int .u8 0, .int .u8 0, .int .u8 0, .int .u8 0, .int .u8 0, .int .u8 0, .int .u8 0], .tuple #[.slice A58 9 c59, .int .i64 0], .slice (some ⟨g1, 0, none⟩) 16 16, .slice (some ⟨g8, 0, none⟩) 16 16, .slice (some ⟨g33, 0, none⟩) 1 1, .slice (some ⟨g33, 0, none⟩) 1 1, .agg #[.int .u16 5, .int .u16 6, .slice (some ⟨g33, 0, none⟩) 1 1], .tuple #[.slice A58 9 c59, .int .i64 0], .slice A58 9 c59, .int .i64 0, undef, undef, undef, undef, undef, undef, undef, undef, undef, undef, undef, undef, undef, undef, undef, undef, undef, undef, undef, undef, undef, undef, undef, undef, undef, undef, undef, undef, undef, undef, undef, undef, undef, undef, undef, undef, undef, undef, undef, undef, undef, undef, undef, undef, undef, undef, undef, undef, undef, undef, undef, undef, undef, undef], []⟩ ∧ Below W22.heap.size W22 W ∧ OwnB W W22.heap.size (.slice A58 9 c59) [0, 5, 0, 6, 0, 9, 132, 209, 120]) (fun hk63 => ?_) ?_
 case refine_1 =>
  refine te 0 (.slice (some ⟨g1, 0, none⟩) 16 16) hS31 rfl (by intro _ _; exact ex_arr (by exact rfl) Try.underlying24 (by kernel_rfl) (by exact rfl)) ?_
  simp only [lay]
  refine te 1 (.slice (some ⟨g8, 0, none⟩) 16 16) hS31 rfl (by intro _ _; exact ex_arr (by exact rfl) Try.underlying24 (by kernel_rfl) (by exact rfl)) ?_
  simp only [lay]
  refine t1 2 rfl (ow_build (u8s [120]) rfl Try.underlying26 (by kernel_rfl) (by kernel_rfl) rfl (by decide) (by decide) (by first | rfl | (simp only [List.map_toArray, List.map_cons, List.map_nil] <;> rfl)) (u8s_cells _) ?_)
  intro g64 W65 hg66 ge67 sz68 hb69
  have z70 := hb69.size
  refine ⟨(Below.trans hS31 (hb69.mono hS31.size)), ?_⟩
  have hS71 := (Below.trans hS31 (hb69.mono hS31.size))
  simp only [lay]
  refine t1 3 rfl (ow_mark 26 5 (.tmp 15) g64 1 1 _ rfl (by exact rfl) Try.underlying26 Try.underlying5 hg66 ?_)
  intro W72 hg73 bs74 hb75
  have z76 := hb75.size
  have y77 : By W72.heap.size W72 (some ⟨g64, 0, none⟩) 1 1 [120] := By.blk (l := [120]) hg73 (Nat.le_refl _) (rngs_of (by decide)) (by decide) rfl rfl
  refine ⟨(Below.trans hS71 (hb75.mono (by omega))), ?_⟩
  have hS78 := (Below.trans hS71 (hb75.mono (by omega)))
  simp only [lay]
  refine te 4 (.agg #[.int .u16 5, .int .u16 6, .slice (some ⟨g64, 0, none⟩) 1 1]) hS78 rfl (by intro _ _; kernel_rfl) ?_
  simp only [lay]
  have b79 := bt hb29 hb69
  have l80 := lq hb29 ge67
  have b81 := b79.trans (hb75.mono l80)
  have has82 := has27.to b81
  have has83 := hg23.to b81
  refine t1 5 rfl (ow_call (fun v w' => (∃ u, v = .tuple #[u, .int .i64 0] ∧ OwnB w' W72.heap.size u [0, 5, 0, 6, 0, 9, 132, 209, 120]) ∧ Below W72.heap.size W72 w') (by exact xk Try.func43) ((rwudp6_any sB18 tB18 rfl rfl _ _ _ _ uB18 _ _ W72 (has82.byIn 0 16 [1, 0, 0, 0, 0, 0, 0, 0, 0, 0, 0, 0, 0, 0, 0, 0] rfl (by kernel_rfl) (rngs_of (by decide)) (by decide)) (has83.byIn 0 16 [2, 0, 0, 0, 0, 0, 0, 0, 0, 0, 0, 0, 0, 0, 0, 0] rfl (by kernel_rfl) (rngs_of (by decide)) (by decide)) ⟨⟨by decide, by decide⟩, y77⟩).mono (by rintro e w' ⟨v, s, rfl, hs, ho, hb⟩; rw [awake18_write] at ho; obtain rfl : s = 0 := hs.out.trans (by decide); exact ⟨_, rfl, ⟨v, rfl, ho⟩, hb⟩)) ?_)
  rintro _ W84 ⟨⟨u86, rfl, hO87⟩, hb85⟩
  have z88 := hb85.size
  obtain ⟨A89, c90, rfl, y91⟩ := hO87.by_
  refine ⟨(Below.trans hS78 (hb85.mono hS78.size)), ?_⟩
  have hS92 := (Below.trans hS78 (hb85.mono hS78.size))
  simp only [lay]
  refine te 6 (.tuple #[.slice A89 9 c90, .int .i64 0]) hS92 rfl (by intro _ _; exact xm) ?_
  simp only [lay]
  refine te 7 (.slice A89 9 c90) hS92 rfl (by intro _ _; exact xe) ?_
  simp only [lay]
  refine te 8 (.int .i64 0) hS92 rfl (by intro _ _; exact xe) ?_
  simp only [lay]
  refine te 9 (.slice A89 9 c90) hS92 rfl (by intro _ _; exact xa) ?_
  simp only [lay]
  refine te 10 (.int .i64 0) hS92 rfl (by intro _ _; exact xa) ?_
  simp only [lay]
  refine wpAnyH_done (by kernel_rfl) ?_ _
  have b93 := bt b81 hb85
  exact hk63 _ _ ⟨A89, c90, g64, rfl, b93, (hO87.more b81.size)⟩
 rintro _ W62 ⟨A58, c59, g33, rfl, hb94, hO95⟩
 have z96 := hb94.size
 change Code.wp _ _ _ _ _
 refine wp_sr ?_
 have has97 := has27.to hb94
 refine lv (.agg #[.int .u8 1, .int .u8 0, .int .u8 0, .int .u8 0, .int .u8 0, .int .u8 0, .int .u8 0, .int .u8 0, .int .u8 0, .int .u8 0, .int .u8 0, .int .u8 0, .int .u8 0, .int .u8 0, .int .u8 0, .int .u8 0]) (by exact xo (has97.load (P := Try.prog) 24 Try.underlying24 rfl (by kernel_rfl))) ?_
 simp only [lay]
 have has98 := hg23.to hb94
 refine lv (.agg #[.int .u8 2, .int .u8 0, .int .u8 0, .int .u8 0, .int .u8 0, .int .u8 0, .int .u8 0, .int .u8 0, .int .u8 0, .int .u8 0, .int .u8 0, .int .u8 0, .int .u8 0, .int .u8 0, .int .u8 0, .int .u8 0]) (by exact xo (has98.load (P := Try.prog) 24 Try.underlying24 rfl (by kernel_rfl))) ?_
 simp only [lay]
 refine lv (.slice A58 9 c59) (by exact xm) ?_
 simp only [lay]
 refine lv (.agg #[.int .u8 0, .int .u32 0, .int .u8 9, .int .u8 1, .int .u8 0, .int .u8 0, .int .u8 0, .int .u8 0, .int .u8 0, .int .u8 0, .int .u8 0, .int .u8 0, .int .u8 0, .int .u8 0, .int .u8 0, .int .u8 0, .int .u8 0, .int .u8 0, .int .u8 0, .int .u8 2, .int .u8 0, .int .u8 0, .int .u8 0, .int .u8 0, .int .u8 0, .int .u8 0, .int .u8 0, .int .u8 0, .int .u8 0, .int .u8 0, .int .u8 0, .int .u8 0, .int .u8 0, .int .u8 0, .int .u8 0, .slice none 0 0, .bool false, .int .u32 0, .int .i64 0, .bool false, .int .u8 17, .slice A58 9 c59]) (by kernel_rfl) ?_
 simp only [lay]
 refine lv (.agg #[.int .u8 10, .int .u8 0, .int .u8 0, .int .u8 0]) (by kernel_rfl) ?_
 simp only [lay]
 refine lv (.agg #[.int .u8 11, .int .u8 0, .int .u8 0, .int .u8 0]) (by kernel_rfl) ?_
 simp only [lay]
 refine lv (.agg #[.int .u8 10, .int .u8 0, .int .u8 0, .int .u8 0, .int .u8 11, .int .u8 0, .int .u8 0, .int .u8 0]) (by kernel_rfl) ?_
 simp only [lay]
 refine lv (.agg #[.int .u8 0, .int .u8 0, .int .u8 0, .int .u8 0, .int .u8 0, .int .u8 0, .int .u8 0, .int .u8 0]) (by kernel_rfl) ?_
 simp only [lay]
 refine lz (ow_call (fun v w' => (∃ p, v = .tuple #[.agg (DB18.cells p), .int .i64 0] ∧ Own4 w' W62.heap.size DB18 p) ∧ Below W62.heap.size W62 w') (by exact xk Try.func9) ((pack18_any dB18 _ [10, 0, 0, 0] [11, 0, 0, 0] [0, 0, 0, 0] [0, 0, 0, 0] awake18_e awake18_z W62 (⟨dB18_ok, rfl, Kds.nil _ _, (own_byS hO95)⟩ : Rd6 W62.heap.size W62 dB18 ⟨none, 0, [], A58, c59⟩)).mono (by rintro e w' ⟨⟨p, rfl, ho⟩, hb⟩; rw [awake18_pack] at ho; exact ⟨_, rfl, ⟨p, by rw [awake18_pack], ho⟩, hb⟩)) ?_)
 rintro _ W99 ⟨⟨p101, rfl, ho102⟩, hb100⟩
 have z103 := hb100.size
 have hO104 : OwnB W99 W62.heap.size (.slice p101.bA 9 p101.bc) [0, 5, 0, 6, 0, 9, 114, 209, 120] := ho102.body
 simp only [lay]
 refine lv (.tuple #[.agg (DB18.cells p101), .int .i64 0]) (by exact xm) ?_
 simp only [lay]
 refine lv (.agg (DB18.cells p101)) (by exact xe) ?_
 simp only [lay]
 refine lv (.int .i64 0) (by exact xe) ?_
 simp only [lay]
 refine lz (oa #[.int .u8 0, .int .u16 0, .bool false, .bool false, .int .i64 0, .int .u8 0, .int .u8 0, .int .u8 0, .int .u8 0, .int .u8 0, .int .u8 0, .int .u8 0, .int .u8 0, .int .u8 0, .int .u8 0, .slice none 0 0, .slice none 0 0] ?_)
 intro g105 W106 hg107 ge108 sz109 hb110
 have z111 := hb110.size
 simp only [lay]
 refine lz (ow_st 35 (.tmp 5) (.tmp 31) g105 (DB18.cells p101) _ _ rfl (by exact rfl) (by exact rfl) hg107 (by kernel_rfl) rfl (by kernel_rfl) ?_)
 intro W112 hg113 bs114 hb115
 have z116 := hb115.size
 simp only [lay]
 refine lv (.int .i64 0) (by exact xa) ?_
 simp only [lay]
 refine wn ?_
 refine wp_seq ?_
 refine rg_drawn W112.heap.size (by kernel_rfl) (Nat.le_refl _) ?_
 intro W117 hb118 hs119 hS120
 have z121 := hb118.size
 refine wpAnyH_join (fun a W => ∃ (g136 : Nat) (A131 : Option Addr) (c132 : Nat), a = ⟨#[.bool false, .pointer (some ⟨g1, 0, none⟩), .pointer (some ⟨g8, 0, none⟩), .slice A58 9 c59, .int .i64 0, .pointer (some ⟨g105, 0, none⟩), .int .i64 0, .pointer (some ⟨g136, 0, none⟩), .bool false, .int .i64 0, .agg #[.int .u8 1, .int .u8 0, .int .u8 0, .int .u8 0, .int .u8 0, .int .u8 0, .int .u8 0, .int .u8 0, .int .u8 0, .int .u8 0, .int .u8 0, .int .u8 0, .int .u8 0, .int .u8 0, .int .u8 0, .int .u8 0], .agg #[.int .u8 2, .int .u8 0, .int .u8 0, .int .u8 0, .int .u8 0, .int .u8 0, .int .u8 0, .int .u8 0, .int .u8 0, .int .u8 0, .int .u8 0, .int .u8 0, .int .u8 0, .int .u8 0, .int .u8 0, .int .u8 0], .tuple #[.slice A58 9 c59, .int .i64 0], .slice (some ⟨g1, 0, none⟩) 16 16, .slice (some ⟨g8, 0, none⟩) 16 16, .slice (some ⟨g33, 0, none⟩) 1 1, .slice (some ⟨g33, 0, none⟩) 1 1, .agg #[.int .u16 5, .int .u16 6, .slice (some ⟨g33, 0, none⟩) 1 1], .tuple #[.slice A58 9 c59, .int .i64 0], .slice A58 9 c59, .int .i64 0, .tuple #[.agg (DB18.cells p101), .int .i64 0], .agg #[.int .u8 1, .int .u8 0, .int .u8 0, .int .u8 0, .int .u8 0, .int .u8 0, .int .u8 0, .int .u8 0, .int .u8 0, .int .u8 0, .int .u8 0, .int .u8 0, .int .u8 0, .int .u8 0, .int .u8 0, .int .u8 0], .agg #[.int .u8 2, .int .u8 0, .int .u8 0, .int .u8 0, .int .u8 0, .int .u8 0, .int .u8 0, .int .u8 0, .int .u8 0, .int .u8 0, .int .u8 0, .int .u8 0, .int .u8 0, .int .u8 0, .int .u8 0, .int .u8 0], .slice A58 9 c59, .agg #[.int .u8 0, .int .u32 0, .int .u8 9, .int .u8 1, .int .u8 0, .int .u8 0, .int .u8 0, .int .u8 0, .int .u8 0, .int .u8 0, .int .u8 0, .int .u8 0, .int .u8 0, .int .u8 0, .int .u8 0, .int .u8 0, .int .u8 0, .int .u8 0, .int .u8 0, .int .u8 2, .int .u8 0, .int .u8 0, .int .u8 0, .int .u8 0, .int .u8 0, .int .u8 0, .int .u8 0, .int .u8 0, .int .u8 0, .int .u8 0, .int .u8 0, .int .u8 0, .int .u8 0, .int .u8 0, .int .u8 0, .slice none 0 0, .bool false, .int .u32 0, .int .i64 0, .bool false, .int .u8 17, .slice A58 9 c59], .agg #[.int .u8 10, .int .u8 0, .int .u8 0, .int .u8 0], .agg #[.int .u8 11, .int .u8 0, .int .u8 0, .int .u8 0], .agg #[.int .u8 10, .int .u8 0, .int .u8 0, .int .u8 0, .int .u8 11, .int .u8 0, .int .u8 0, .int .u8 0], .agg #[.int .u8 0, .int .u8 0, .int .u8 0, .int .u8 0, .int .u8 0, .int .u8 0, .int .u8 0, .int .u8 0], .tuple #[.agg (DB18.cells p101), .int .i64 0], .agg (DB18.cells p101), .int .i64 0, .tuple #[.agg (uB18.cells A131 c132), .bool false, .int .i64 0], .pointer (some ⟨g105, 7, none⟩), .slice (some ⟨g105, 7, none⟩) 4 4, .pointer (some ⟨g105, 11, none⟩), .slice (some ⟨g105, 11, none⟩) 4 4, .pointer (some ⟨g105, 16, none⟩), .slice p101.bA 9 p101.bc, .tuple #[.agg (uB18.cells A131 c132), .bool false, .int .i64 0], .agg (uB18.cells A131 c132), .bool false, .int .i64 0, undef, undef, undef, undef, undef, undef, undef, undef, undef, undef, undef, undef, undef, undef, undef, undef, undef, undef, undef, undef, undef, undef, undef, undef, undef, undef, undef, undef, undef, undef, undef], []⟩ ∧ Below W112.heap.size W112 W ∧ Has W g136 (.cells (uB18.cells A131 c132) 80 (0, 0)) ∧ W112.heap.size ≤ g136 ∧ OwnB W W112.heap.size (.slice A131 1 c132) [120]) (fun hk151 => ?_) ?_
 case refine_1 =>
  refine te 0 (.pointer (some ⟨g105, 7, none⟩)) hS120 rfl (by intro _ _; exact xf 7 3 Try.underlying35) ?_
  simp only [lay]
  refine te 1 (.slice (some ⟨g105, 7, none⟩) 4 4) hS120 rfl (by intro _ _; exact ex_arr (by exact rfl) Try.underlying30 (by kernel_rfl) (by exact rfl)) ?_
  simp only [lay]
  refine te 2 (.pointer (some ⟨g105, 11, none⟩)) hS120 rfl (by intro _ _; exact xf 11 3 Try.underlying35) ?_
  simp only [lay]
  refine te 3 (.slice (some ⟨g105, 11, none⟩) 4 4) hS120 rfl (by intro _ _; exact ex_arr (by exact rfl) Try.underlying30 (by kernel_rfl) (by exact rfl)) ?_
  simp only [lay]
  refine te 4 (.pointer (some ⟨g105, 16, none⟩)) hS120 rfl (by intro _ _; exact xf 16 0 Try.underlying35) ?_
  simp only [lay]
  refine te 5 (.slice p101.bA 9 p101.bc) hS120 rfl (by intro _ h; exact xc Try.underlying26 ((hg113.to h).cell 16 rfl)) ?_
  simp only [lay]
  refine tk_two (i := 6) (j := 11) (by kernel_rfl) ?L152 ?L153
  case L152 =>
   have has154 := hg113.to hb118
   have l155 : W99.heap.size ≤ g105 := Nat.le_of_eq ge108.symm
   have b156 := hb110.trans (hb115.mono l155)
   have b157 := bt b156 hb118
   have own158 := hO104.to b157
   refine rs (i := 6) rfl (by kernel_rfl) (ow_call (fun v w' => (∃ A c, v = .tuple #[.agg (uB18.cells A c), .bool false, .int .i64 0] ∧ OwnB w' W117.heap.size (.slice A 1 c) [120]) ∧ Below W117.heap.size W117 w') (by exact xk Try.func44) ((rpudp4_any [10, 0, 0, 0] [11, 0, 0, 0] rfl rfl _ _ _ _ _ _ [0, 5, 0, 6, 0, 9, 114, 209, 120] W117 (has154.byIn 7 4 [10, 0, 0, 0] rfl (by kernel_rfl) (rngs_of (by decide)) (by decide)) (has154.byIn 11 4 [11, 0, 0, 0] rfl (by kernel_rfl) (rngs_of (by decide)) (by decide)) (own_byS own158)).mono (by rintro e w' ⟨A, c, rfl, hk, ho, hb⟩; rw [awake18_got] at ho; exact ⟨_, rfl, ⟨A, c, by rw [awake18_got, awake18_none, awake18_err], ho⟩, hb⟩)) ?_)
   rintro _ W159 ⟨⟨A161, c162, rfl, hO163⟩, hb160⟩
   have z164 := hb160.size
   refine ⟨(Below.trans hS120 (hb160.mono hS120.size)), ?_⟩
   have hS165 := (Below.trans hS120 (hb160.mono hS120.size))
   simp only [lay]
   refine te 7 (.tuple #[.agg (uB18.cells A161 c162), .bool false, .int .i64 0]) hS165 rfl (by intro _ _; exact xm) ?_
   simp only [lay]
   refine te 8 (.agg (uB18.cells A161 c162)) hS165 rfl (by intro _ _; exact xe) ?_
   simp only [lay]
   refine te 9 (.bool false) hS165 rfl (by intro _ _; exact xe) ?_
   simp only [lay]
   refine te 10 (.int .i64 0) hS165 rfl (by intro _ _; exact xe) ?_
   simp only [lay]
   refine t1 11 rfl (oa #[.int .u16 0, .int .u16 0, .slice none 0 0] ?_)
   intro g166 W167 hg168 ge169 sz170 hb171
   have z172 := hb171.size
   refine ⟨(Below.trans hS165 (hb171.mono hS165.size)), ?_⟩
   have hS173 := (Below.trans hS165 (hb171.mono hS165.size))
   simp only [lay]
   refine t1 12 rfl (ow_st 80 (.tmp 7) (.tmp 41) g166 (uB18.cells A161 c162) _ _ rfl (by exact rfl) (by exact rfl) hg168 (by kernel_rfl) rfl (by kernel_rfl) ?_)
   intro W174 hg175 bs176 hb177
   have z178 := hb177.size
   refine ⟨(Below.trans hS173 (hb177.mono (by omega))), ?_⟩
   have hS179 := (Below.trans hS173 (hb177.mono (by omega)))
   simp only [lay]
   refine te 13 (.bool false) hS179 rfl (by intro _ _; exact xa) ?_
   simp only [lay]
   refine te 14 (.int .i64 0) hS179 rfl (by intro _ _; exact xa) ?_
   simp only [lay]
   refine wpAnyH_done (by kernel_rfl) ?_ _
   have b180 := bt hb118 hb160
   have b181 := bt b180 hb171
   have l182 := lq b180 ge169
   have b183 := b181.trans (hb177.mono l182)
   have l184 : W159.heap.size ≤ g166 := Nat.le_of_eq ge169.symm
   have b185 := hb171.trans (hb177.mono l184)
   have own186 := hO163.to b185
   exact hk151 _ _ ⟨g166, A161, c162, rfl, b183, hg175, (by omega), (own186.more hb118.size)⟩
  case L153 =>
   refine rs (i := 11) rfl (by kernel_rfl) (oa #[.int .u16 0, .int .u16 0, .slice none 0 0] ?_)
   intro g187 W188 hg189 ge190 sz191 hb192
   have z193 := hb192.size
   refine ⟨(Below.trans hS120 (hb192.mono hS120.size)), ?_⟩
   have hS194 := (Below.trans hS120 (hb192.mono hS120.size))
   simp only [lay]
   have b195 := bt hb118 hb192
   have has196 := hg113.to b195
   have l197 : W99.heap.size ≤ g105 := Nat.le_of_eq ge108.symm
   have b198 := hb110.trans (hb115.mono l197)
   have b199 := bt b198 hb118
   have b200 := bt b199 hb192
   have own201 := hO104.to b200
   refine t1 6 rfl (ow_call (fun v w' => (∃ A c, v = .tuple #[.agg (uB18.cells A c), .bool false, .int .i64 0] ∧ OwnB w' W188.heap.size (.slice A 1 c) [120]) ∧ Below W188.heap.size W188 w') (by exact xk Try.func44) ((rpudp4_any [10, 0, 0, 0] [11, 0, 0, 0] rfl rfl _ _ _ _ _ _ [0, 5, 0, 6, 0, 9, 114, 209, 120] W188 (has196.byIn 7 4 [10, 0, 0, 0] rfl (by kernel_rfl) (rngs_of (by decide)) (by decide)) (has196.byIn 11 4 [11, 0, 0, 0] rfl (by kernel_rfl) (rngs_of (by decide)) (by decide)) (own_byS own201)).mono (by rintro e w' ⟨A, c, rfl, hk, ho, hb⟩; rw [awake18_got] at ho; exact ⟨_, rfl, ⟨A, c, by rw [awake18_got, awake18_none, awake18_err], ho⟩, hb⟩)) ?_)
   rintro _ W202 ⟨⟨A204, c205, rfl, hO206⟩, hb203⟩
   have z207 := hb203.size
   refine ⟨(Below.trans hS194 (hb203.mono hS194.size)), ?_⟩
   have hS208 := (Below.trans hS194 (hb203.mono hS194.size))
   simp only [lay]
   refine te 7 (.tuple #[.agg (uB18.cells A204 c205), .bool false, .int .i64 0]) hS208 rfl (by intro _ _; exact xm) ?_
   simp only [lay]
   refine te 8 (.agg (uB18.cells A204 c205)) hS208 rfl (by intro _ _; exact xe) ?_
   simp only [lay]
   refine te 9 (.bool false) hS208 rfl (by intro _ _; exact xe) ?_
   simp only [lay]
   refine te 10 (.int .i64 0) hS208 rfl (by intro _ _; exact xe) ?_
   simp only [lay]
   have has213 := hg189.to hb203
   refine t1 12 rfl (ow_st 80 (.tmp 7) (.tmp 41) g187 (uB18.cells A204 c205) _ _ rfl (by exact rfl) (by exact rfl) has213 (by kernel_rfl) rfl (by kernel_rfl) ?_)
   intro W209 hg210 bs211 hb212
   have z214 := hb212.size
   have own215 := hO206.but6 bs211 (by omega)
   refine ⟨(Below.trans hS208 (hb212.mono (by omega))), ?_⟩
   have hS216 := (Below.trans hS208 (hb212.mono (by omega)))
   simp only [lay]
   refine te 13 (.bool false) hS216 rfl (by intro _ _; exact xa) ?_
   simp only [lay]
   refine te 14 (.int .i64 0) hS216 rfl (by intro _ _; exact xa) ?_
   simp only [lay]
   refine wpAnyH_done (by kernel_rfl) ?_ _
   have b217 := bt b195 hb203
   have l218 := lq hb118 ge190
   have b219 := b217.trans (hb212.mono l218)
   exact hk151 _ _ ⟨g187, A204, c205, rfl, b219, hg210, (by omega), (own215.more b195.size)⟩
 rintro _ W150 ⟨g136, A131, c132, rfl, hb220, hg221, l222, hO223⟩
 have z224 := hb220.size
 change Code.wp _ _ _ _ _
 refine wp_sr ?_
 refine lv (.int .i64 0) (by exact xm) ?_
 simp only [lay]
 refine lv (.bool true) (by exact yq (h := (by decide))) ?_
 simp only [lay]
 refine lv (.bool true) (by exact xm) ?_
 simp only [lay]
 refine lv (.int .i64 0) (by exact xm) ?_
 simp only [lay]
 refine lv (.bool true) (by exact yq (h := (by decide))) ?_
 simp only [lay]
 refine lv (.bool true) (by exact xp (b := true)) ?_
 simp only [lay]
 refine lv (.bool true) (by exact xm) ?_
 simp only [lay]
 refine lv (.pointer (some ⟨g105, 2, none⟩)) (by exact xf 2 0 Try.underlying35) ?_
 simp only [lay]
 have has225 := hg113.to hb220
 refine lv (.bool true) (by exact xc Try.underlying4 (has225.cell 2 rfl)) ?_
 simp only [lay]
 refine lv (.bool true) (by exact xp (b := true)) ?_
 simp only [lay]
 refine lv (.bool true) (by exact xm) ?_
 simp only [lay]
 refine lv (.pointer (some ⟨g105, 5, none⟩)) (by exact xf 5 0 Try.underlying35) ?_
 simp only [lay]
 refine lv (.int .u8 9) (by exact xc Try.underlying5 (has225.cell 5 rfl)) ?_
 simp only [lay]
 refine lv (.bool true) (by exact yq (h := (by decide))) ?_
 simp only [lay]
 refine lv (.bool true) (by exact xp (b := true)) ?_
 simp only [lay]
 refine lv (.bool true) (by exact xm) ?_
 simp only [lay]
 refine lv (.pointer (some ⟨g105, 11, none⟩)) (by exact xf 11 3 Try.underlying35) ?_
 simp only [lay]
 refine lv (.pointer (some ⟨g105, 11, none⟩)) (by kernel_rfl) ?_
 simp only [lay]
 refine lv (.int .u8 11) (by exact xc Try.underlying5 (has225.cell 11 rfl)) ?_
 simp only [lay]
 refine lv (.bool true) (by exact yq (h := (by decide))) ?_
 simp only [lay]
 refine lv (.bool true) (by exact xp (b := true)) ?_
 simp only [lay]
 refine lv (.bool true) (by exact xm) ?_
 simp only [lay]
 refine lv (.pointer (some ⟨g136, 2, none⟩)) (by exact xf 2 0 Try.underlying80) ?_
 simp only [lay]
 refine lv (.slice A131 1 c132) (by exact xc Try.underlying26 (hg221.cell 2 rfl)) ?_
 simp only [lay]
 refine lv (.string (strOfNums [120])) (by exact xv (By.conv (P := Try.prog) (own_byS hO223) 26 9 Try.underlying26 Try.underlying5 Try.underlying9)) ?_
 simp only [lay]
 refine lv (.bool true) (by exact eq_str_self (s := strOfNums [120]) (by exact rfl) (by exact rfl) (by exact rfl)) ?_
 simp only [lay]
 refine lv (.bool true) (by exact xp (b := true)) ?_
 simp only [lay]
 refine lv (.bool true) (by exact xm) ?_
 simp only [lay]
 refine lz (ow_same (.int .u16 1260) (by exact xk Try.func25) (by have := mtu18_any 1280 (by decide) W150; rw [show mtu18 1280 = 1260 from by decide] at this; exact this) ?_)
 simp only [lay]
 refine lv (.bool true) (by exact yq (h := (by decide))) ?_
 simp only [lay]
 refine lv (.bool true) (by exact xp (b := true)) ?_
 simp only [lay]
 refine lv (.bool true) (by exact xa) ?_
 simp only [lay]
 refine wn ?_
 refine wp_ret ?_
 try simp only [Exit.then]
 have b226 := bt hb6 hb13
 have l227 : w.heap.size ≤ g1 := Nat.le_of_eq ge4.symm
 have b228 := b226.trans (hb18.mono l227)
 have l229 := lq hb6 ge11
 have b230 := b228.trans (hb25.mono l229)
 have b231 := bt b230 hb94
 have b232 := bt b231 hb100
 have b233 := bt b232 hb110
 have l234 := lq b232 ge108
 have b235 := b233.trans (hb115.mono l234)
 have b236 := bt b235 hb220
 exact bodyPost_ret (res_one Try.results12 rfl) rfl ⟨rfl, b236⟩
end Go.Proofs.Ytjnphelfloiadaa
namespace Go.Proofs.Ytjnphelfloiadaa
open Go.RowKit Go.Shelf
section
variable {P : Program}
theorem arrN_equal_d (d : Nat) (t e : TypeId) (n : Nat) (ht : P.underlying t = some (.array n e)) (he : P.underlying e = some (.int .u8)) (hs : (P.info? e).map (·.size) = some 1) (a b : List Int) (ha : a.length = n) (hb : b.length = n) (w : World) :
  (Op.equalIn (d + 2) t (.agg (u8s a).toArray) (.agg (u8s b).toArray)).run P w = .ok (decide (a = b)) w := by
 have hsz : (sizeOf e).run P w = .ok 1 w := by
  cases hq : P.info? e with
  | none => simp [hq] at hs
  | some i => simp [hq] at hs; simp [sizeOf, typeInfo, hq, hs]
 have hi : ∀ a b : Int, (Op.equalIn (d + 1) e (.int .u8 a) (.int .u8 b)).run P w = .ok (a == b) w := fun a b => run_equalIn_int w d e .u8 .u8 a b he
 rw [show d + 2 = (d + 1) + 1 from rfl]
 unfold Op.equalIn
 have hagg : (isAgg e).run P w = .ok false w := by
  unfold isAgg
  rw [Sem.run_bind, run_underlying he w]
  rfl
 have hp : ∀ (cs : List Int) (i : Nat), i < cs.length → (part e (u8s cs).toArray i).run P w = .ok (.int .u8 (cs.getD i 0)) w := fun cs i hx => by
  have : (u8s cs)[i]? = some (.int .u8 (cs.getD i 0)) := by simp [u8s, hx, List.getD]
  simp [part, hagg, this]
 have key : ∀ (m i : Nat), i + m = n → (forIn (List.range' i m) ((none : Option Bool), ()) fun i (_ : Option Bool × Unit) => do
    let x ← part e (u8s a).toArray i
    let y ← part e (u8s b).toArray i
    let z ← Op.equalIn (d + 1) e x y
    if z = false then pure (ForInStep.done (some false, ())) else pure (ForInStep.yield (none, ()))).run P w = .ok (if a.drop i = b.drop i then (none, ()) else (some false, ())) w := by
  intro m
  induction m with
  | zero =>
   intro i hi
   rw [List.drop_of_length_le (by omega), List.drop_of_length_le (by omega)]
   simp
  | succ m ih =>
   intro i hin
   have ea : a.drop i = a.getD i 0 :: a.drop (i + 1) := by
    rw [List.drop_eq_getElem_cons (by omega)]
    simp [List.getD, List.getElem?_eq_getElem (show i < a.length by omega)]
   have eb : b.drop i = b.getD i 0 :: b.drop (i + 1) := by
    rw [List.drop_eq_getElem_cons (by omega)]
    simp [List.getD, List.getElem?_eq_getElem (show i < b.length by omega)]
   rw [List.range'_succ, List.forIn_cons, ea, eb]
   simp only [Sem.run_bind, hp a i (by omega), hp b i (by omega), Result.andThen_ok, hi]
   by_cases hq : a.getD i 0 = b.getD i 0
   ·have h2 : (a.getD i 0 == b.getD i 0) = true := by simpa using hq
    rw [h2]
    simp only [Bool.true_eq_false, if_false, Sem.run_pure, Result.andThen_ok]
    rw [ih (i + 1) (by omega), hq]
    simp
   ·have h2 : (a.getD i 0 == b.getD i 0) = false := by simpa using hq
    rw [h2, if_neg (show ¬ (a.getD i 0 :: a.drop (i + 1) = b.getD i 0 :: b.drop (i + 1)) from fun h => hq (List.cons.inj h).1)]
    simp only [if_true, Sem.run_pure, Result.andThen_ok]
 have k0 := key n 0 (by omega)
 rw [List.drop_zero, List.drop_zero] at k0
 simp [run_underlying ht, hsz, Std.Legacy.Range.forIn_eq_forIn_range']
 rw [k0]
 by_cases hab : a = b <;> simp [hab]
end
theorem size_of6 {P : Program} (w : World) (t : TypeId) (n : Nat) (hz : (P.info? t).map (·.size) = some n) : (sizeOf t).run P w = .ok n w := by
 cases hq : P.info? t with
 | none => simp [hq] at hz
 | some i => simp [hq] at hz; simp [sizeOf, typeInfo, hq, hz]
theorem part_arrN {P : Program} (w : World) (t : TypeId) (n : Nat) (xs : Array Value) (off : Nat) (ys : Array Value) (ha : (isAgg t).run P w = .ok true w) (hz : (sizeOf t).run P w = .ok n w) (h : xs.extract off (off + n) = ys) :
  (part t xs off).run P w = .ok (.agg ys) w := by
 subst h
 simp [part, ha, hz]
theorem eql_ends6 (w : World) (s t : List Int) : (binOp .eql 56 (.agg (ends6 s t)) (.agg (ends6 s t))).run Try.prog w = .ok (.bool true) w := by
 have hs : ∀ w, (sizeOf 24).run Try.prog w = .ok 16 w := fun w => size_of6 w _ 16 (by kernel_rfl)
 have ha : ∀ w, (isAgg 24).run Try.prog w = .ok true w := fun w => by simp [isAgg, run_underlying Try.underlying24]
 have hf : (Try.prog.fieldsOf 56).toList = [{ name := "Src", type := 24, offset := 0, embedded := false, tag := "", pkgPath := "", byteOffset := 0 }, { name := "Dst", type := 24, offset := 16, embedded := false, tag := "", pkgPath := "", byteOffset := 16 }] := by kernel_rfl
 rw [run_eql_struct, run_equalIn_struct w 9999 56 _ _ (by kernel_rfl) (by kernel_rfl), hf]
 have p0 := fun w => part_arrN w 24 16 (ends6 s t) 0 (u8s (l16 s)).toArray (ha w) (hs w) (by simp [ends6, l16, u8s])
 have p4 := fun w => part_arrN w 24 16 (ends6 s t) 16 (u8s (l16 t)).toArray (ha w) (hs w) (by simp [ends6, l16, u8s])
 have q := fun w (x : List Int) (hx : x.length = 16) => arrN_equal_d (P := Try.prog) 9997 24 5 16 Try.underlying24 Try.underlying5 (by kernel_rfl) x x hx hx w
 simp only [Op.eqFields, Sem.run_bind, Sem.run_ite, p0, p4, Result.andThen_ok]
 simp [q _ (l16 s) rfl, q _ (l16 t) rfl]
theorem ex_eq_ends6 {ρ : Operand → Value} {o : Oper} {z : TypeId} {x y : Operand} {w : World} (s t : List Int) (ho : o.op = .binOp .eql 56 x y z) (hx : ρ x = .agg (ends6 s t)) (hy : ρ y = .agg (ends6 s t)) : (execOp ρ o).run Try.prog w = .ok (.value (.bool true)) w := by
 unfold execOp
 simp only [ho, hx, hy, Sem.run_bind, run_eqGuard_agg (P := Try.prog) w .eql 56 x y _ _ (by kernel_rfl), Result.andThen_ok, eql_ends6, Sem.run_pure]
end Go.Proofs.Ytjnphelfloiadaa
