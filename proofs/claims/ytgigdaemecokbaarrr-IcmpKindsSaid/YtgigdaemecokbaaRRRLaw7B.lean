/-
  The walk of IcmpKinds.
-/
import Derived.Test.YtgigdaemecokbaaRRRLaw7A
import Derived.Test.YtgigdaemecokbaaRRRP7B
import Derived.Deep.RegionLaw
namespace Go.Proofs.YtgigdaemecokbaaRRR
open Go.RowKit Go.Shelf

/-- a message with a body that is cut -/
def cutD (d : D7) : D7 := { d with bl := cut7 d.bl }
theorem cutD_ok {d : D7} (h : d.ok) : (cutD d).ok := ⟨h.ty, h.code, h.rest⟩
theorem withId_ident {d : D7} (hd : d.ok) (id : Int) : (withId d id).rest / 65536 = id := by have := hd.rest; simp only [withId]; omega
theorem same7_self (d : D7) : same7 d d = true := by simp [same7]

theorem One7.eq {x : Int} {e : Ending} (h : One7 x e) : e = .returned (.int .i64 x) := by obtain ⟨q, rfl, h⟩ := h; rw [h.out]
theorem By.cut70 {B : Nat} {w : World} {A : Option Addr} {c : Nat} {l : List Int} (h : By B w A l.length c l) : By B w A (cut7 l).length c (cut7 l) := by
  unfold cut7
  by_cases hk : 70000 ≤ l.length
  · have := h.take hk
    rwa [show (l.take 70000).length = 70000 from by rw [List.length_take]; omega]
  · rw [List.take_of_length_le (by omega)]; exact h
theorem own_by {w : World} {base : Nat} {A : Option Addr} {c : Nat} {l : List Int} (h : OwnB w base (.slice A l.length c) l) : By w.heap.size w A l.length c l := by
  obtain ⟨A', c', e, y⟩ := h.by_
  injection e with e1 e2 e3
  subst e1 e3
  exact y

/-- what the last region of IcmpKinds leans on -/
structure S7K (d o dw : D7) (A A2 A3 : Option Addr) (c c2 c3 g1 g2 g3 N : Nat) (w w' : World) : Prop where
  h1 : Has w' g1 (.cells (d.cells A c) 25 (0, 0))
  h2 : Has w' g2 (.cells (o.cells A2 c2) 25 (0, 0))
  h3 : Has w' g3 (.cells (dw.cells A3 c3) 25 (0, 0))
  y1 : By N w' A d.bl.length c d.bl
  y2 : By N w' A2 o.bl.length c2 o.bl
  y3 : By N w' A3 dw.bl.length c3 dw.bl
  big : N ≤ w'.heap.size
  bel : Below w.heap.size w w'
theorem S7K.keep {d o dw : D7} {A A2 A3 : Option Addr} {c c2 c3 g1 g2 g3 N : Nat} {w w' w'' : World} (h : S7K d o dw A A2 A3 c c2 c3 g1 g2 g3 N w w') (hb : Below w'.heap.size w' w'') : S7K d o dw A A2 A3 c c2 c3 g1 g2 g3 N w w'' :=
  ⟨h.h1.below hb h.h1.lt, h.h2.below hb h.h2.lt, h.h3.below hb h.h3.lt, h.y1.below hb h.big, h.y2.below hb h.big, h.y3.below hb h.big, Nat.le_trans h.big hb.size, h.bel.trans (hb.mono h.bel.size)⟩

set_option maxRecDepth 100000 in
set_option maxHeartbeats 8000000 in
theorem kinds_walk (d o : D7) (A A2 : Option Addr) (c c2 : Nat) (id : Int) (hid : 0 ≤ id ∧ id < 65536) (w : World) (hR : Rd7 w.heap.size w d A c) (hO : Rd7 w.heap.size w o A2 c2) :
    Calls Try.prog 3 #[.agg (d.cells A c), .agg (o.cells A2 c2), .int .u16 id] w fun e w' => e = .returned (.bool true) ∧ Below w.heap.size w w' := by
  have hB : Below w.heap.size w ((w.alloc (.cells (d.cells A c) 25)).alloc (.cells (o.cells A2 c2) 25)) := ((Below.refl _ _).alloc (Nat.le_refl _) _).alloc (by simp) _
  have hH1 : Has ((w.alloc (.cells (d.cells A c) 25)).alloc (.cells (o.cells A2 c2) 25)) w.heap.size (.cells (d.cells A c) 25 (0, 0)) := (Has.newAt rfl).alloc
  have hH2 : Has ((w.alloc (.cells (d.cells A c) 25)).alloc (.cells (o.cells A2 c2) 25)) (w.heap.size + 1) (.cells (o.cells A2 c2) 25 (0, 0)) := Has.newAt (by simp)
  generalize hW : ((w.alloc (.cells (d.cells A c) 25)).alloc (.cells (o.cells A2 c2) 25)) = W at hB hH1 hH2
  have hWH := Lib.hid hW
  have y1 := Lib.hid (hR.body.below (hB.trans (below_drew _ _)) (Nat.le_refl _))
  have y2 := Lib.hid (hO.body.below (hB.trans (below_drew _ _)) (Nat.le_refl _))
  have c13 := hH1.drew.cell 3 (v := .slice A d.bl.length c) rfl
  have c23 := hH2.drew.cell 3 (v := .slice A2 o.bl.length c2) rfl
  have f13 := hH1.drew.free 3
  have f23 := hH2.drew.free 3
  have k23 := (hH2.setCell_other (Nat.succ_ne_self w.heap.size) 3 (.slice A (cut7 d.bl).length c)).drew.cell 3 (v := .slice A2 o.bl.length c2) rfl
  have l23 := (hH2.setCell_other (Nat.succ_ne_self w.heap.size) 3 (.slice A (cut7 d.bl).length c)).drew.free 3
  have y3 := Lib.hid (hO.body.below ((below_setCell hB (Nat.le_refl _) 3 (.slice A (cut7 d.bl).length c)).trans (below_drew _ _)) (Nat.le_refl _))
  go_enter Try.func3, Try.ntmps3
  go_wp2
  clear hW
  go_region_law (first
    | (go_simp; go_at_call 6; refine (cut7_any _ A c d.bl _ y1.out).mono ?_; rintro e w1 ⟨rfl, z1, rfl⟩)
    | (go_simp; go_at_call 6; refine (cut7_any _ A2 c2 o.bl _ y2.out).mono ?_; rintro e w1 ⟨rfl, z2, rfl⟩)
    | (go_simp; go_at_call 6; refine (cut7_any _ A2 c2 o.bl _ y3.out).mono ?_; rintro e w1 ⟨rfl, z2, rfl⟩))
  all_goals
    have hB2 := (below_setCell (below_setCell hB (Nat.le_refl _) 3 (.slice A (cut7 d.bl).length c)) (Nat.le_succ _) 3 (.slice A2 (cut7 o.bl).length c2)).trans (below_drew _ _)
    have hG1 : Has (((W.setCell ⟨w.heap.size, 3, none⟩ (.slice A (cut7 d.bl).length c)).setCell ⟨w.heap.size + 1, 3, none⟩ (.slice A2 (cut7 o.bl).length c2)).drew) w.heap.size (.cells ((cutD d).cells A c) 25 (0, 0)) := ((hH1.setCell 3 (.slice A (cut7 d.bl).length c)).setCell_other (Nat.ne_of_lt (Nat.lt_succ_self _)) 3 (.slice A2 (cut7 o.bl).length c2)).drew
    have hG2 : Has (((W.setCell ⟨w.heap.size, 3, none⟩ (.slice A (cut7 d.bl).length c)).setCell ⟨w.heap.size + 1, 3, none⟩ (.slice A2 (cut7 o.bl).length c2)).drew) (w.heap.size + 1) (.cells ((cutD o).cells A2 c2) 25 (0, 0)) := ((hH2.setCell_other (Nat.succ_ne_self w.heap.size) 3 (.slice A (cut7 d.bl).length c)).setCell 3 (.slice A2 (cut7 o.bl).length c2)).drew
    have z1 : By w.heap.size (((W.setCell ⟨w.heap.size, 3, none⟩ (.slice A (cut7 d.bl).length c)).setCell ⟨w.heap.size + 1, 3, none⟩ (.slice A2 (cut7 o.bl).length c2)).drew) A (cutD d).bl.length c (cutD d).bl := (hR.body.cut70).below hB2 (Nat.le_refl _)
    have z2 : By w.heap.size (((W.setCell ⟨w.heap.size, 3, none⟩ (.slice A (cut7 d.bl).length c)).setCell ⟨w.heap.size + 1, 3, none⟩ (.slice A2 (cut7 o.bl).length c2)).drew) A2 (cutD o).bl.length c2 (cutD o).bl := (hO.body.cut70).below hB2 (Nat.le_refl _)
    have hok := cutD_ok hR.ok
    have hbig : (cutD d).bl.length ≤ 140737488355328 := Nat.le_trans (cut7_len _) (by decide)
    generalize ((W.setCell ⟨w.heap.size, 3, none⟩ (.slice A (cut7 d.bl).length c)).setCell ⟨w.heap.size + 1, 3, none⟩ (.slice A2 (cut7 o.bl).length c2)).drew = W2 at hB2 hG1 hG2 z1 z2 ⊢
    clear y1 y2 y3 c13 c23 f13 f23 k23 l23 hWH hB hH1 hH2
    generalize cutD d = d1 at hG1 z1 hok hbig ⊢
    generalize cutD o = o1 at hG2 z2 ⊢
    clear hR hO
    go_wp2_with (refine wpList_load_row rfl 25 (.tmp 3) rfl w.heap.size rfl 25 (d1.cells A c) (0, 0) _ hG1 Try.underlying25 rfl icmp_info ?_)
    refine (withIdent_any d1 A c id hid W2 ⟨hok, z1.more hB2.size⟩ hbig).mono ?_
    rintro e w3 ⟨⟨A3, c3, rfl, hok3, ho3⟩, hb3⟩
    have hZ : Has (w3.alloc (.cells #[.int .u8 0, .int .u8 0, .int .u32 0, .slice none 0 0] 25)) w3.heap.size (.cells #[.int .u8 0, .int .u8 0, .int .u32 0, .slice none 0 0] 25 (0, 0)) := Has.newAt rfl
    have hG3 : Has ((w3.alloc (.cells #[.int .u8 0, .int .u8 0, .int .u32 0, .slice none 0 0] 25)).setRow w3.heap.size ((withId d1 id).cells A3 c3)) w3.heap.size (.cells ((withId d1 id).cells A3 c3) 25 (0, 0)) := hZ.setRow_same
    have hB3 := hB2.trans (hb3.mono hB2.size)
    have hX : Below w3.heap.size w3 ((w3.alloc (.cells #[.int .u8 0, .int .u8 0, .int .u32 0, .slice none 0 0] 25)).setRow w3.heap.size ((withId d1 id).cells A3 c3)) := ((Below.refl _ _).alloc (Nat.le_refl _) (.cells #[.int .u8 0, .int .u8 0, .int .u32 0, .slice none 0 0] 25)).trans below_setRow'
    have hS := Lib.hid (S7K.mk ((hG1.below hb3 hG1.lt).below hX (Nat.lt_of_lt_of_le hG1.lt hb3.size)) ((hG2.below hb3 hG2.lt).below hX (Nat.lt_of_lt_of_le hG2.lt hb3.size)) hG3
      (((z1.below hb3 hB2.size).more hB3.size).below hX (Nat.le_refl _)) (((z2.below hb3 hB2.size).more hB3.size).below hX (Nat.le_refl _)) ((own_by ho3).below hX (Nat.le_refl _)) hX.size (hB3.trans (hX.mono hB3.size)))
    clear hb3 ho3 hG1 hG2 hG3 hX z1 z2 hB2 hB3
    go_wp2_with (refine wpList_store_row rfl 25 (.tmp 7) (.tmp 18) rfl w3.heap.size _ rfl rfl 25 _ hZ icmp_info rfl (by simp [D7.cells, Value.oneCell']) ?_)
    clear hZ
    have hS' := hS.out
    clear hS
    generalize hg3 : w3.heap.size = g3 at hS' ⊢
    clear hg3
    generalize hW4 : ((w3.alloc (.cells #[.int .u8 0, .int .u8 0, .int .u32 0, .slice none 0 0] 25)).setRow g3 ((withId d1 id).cells A3 c3)) = W4 at hS' ⊢
    refine wp_region_held_drew (S := S7K d1 o1 (withId d1 id) A A2 A3 c c2 c3 w.heap.size (w.heap.size + 1) g3 g3 w) (by kernel_rfl) (hS'.keep (below_drew _ _)) (fun hS => ?_)
    clear hW4 hS'
    -- REGION 3
    refine tk (i := 0) (.agg (d1.cells A c)) hS rfl (by kernel_rfl) (by kernel_rfl) (by kernel_rfl) (fun _ _ _ h => h) (by kernel_rfl) (by intro _ h; exact ex_load (by exact rfl) (by exact rfl) (h.h1.load (P := Try.prog) 25 Try.underlying25 rfl icmp_info)) ?_
    simp only [Act.put, List.setIfInBounds_toArray, List.set_cons_zero, List.set_cons_succ]
    refine tk (i := 2) (.agg (d1.cells A c)) hS rfl (by kernel_rfl) (by kernel_rfl) (by kernel_rfl) (fun _ _ _ h => h) (by kernel_rfl) (by intro _ h; exact ex_load (by exact rfl) (by exact rfl) (h.h1.load (P := Try.prog) 25 Try.underlying25 rfl icmp_info)) ?_
    simp only [Act.put, List.setIfInBounds_toArray, List.set_cons_zero, List.set_cons_succ]
    refine tk_call (i := 1) (.int .i64 (kind4 d1.ty d1.code)) (by kernel_rfl) rfl (by kernel_rfl) (by exact ex_call (by exact rfl) Try.func8 (by kernel_rfl) (by kernel_rfl) (by simp only [List.map_toArray, List.map_cons, List.map_nil] <;> rfl)) ((kind4_any d1 A c _).mono fun e w' g => ⟨g.1.eq, hS.keep g.2⟩) ?_
    intro W2 hS2
    simp only [Act.put, List.setIfInBounds_toArray, List.set_cons_zero, List.set_cons_succ]
    refine tk_call (i := 3) (.int .i64 (kind4 d1.ty d1.code)) (by kernel_rfl) rfl (by kernel_rfl) (by exact ex_call (by exact rfl) Try.func9 (by kernel_rfl) (by kernel_rfl) (by simp only [List.map_toArray, List.map_cons, List.map_nil] <;> rfl)) ((rkind4_any d1 A c _).mono fun e w' g => ⟨g.1.eq, hS2.keep g.2⟩) ?_
    intro W3 hS3
    simp only [Act.put, List.setIfInBounds_toArray, List.set_cons_zero, List.set_cons_succ]
    refine tk (i := 4) (.bool true) hS3 rfl (by kernel_rfl) (by kernel_rfl) (by kernel_rfl) (fun _ _ _ h => h) (by kernel_rfl) (by intro _ _; exact eq_int_self (m := (kind4 d1.ty d1.code)) (by exact rfl) (by exact rfl) (by exact rfl)) ?_
    simp only [Act.put, List.setIfInBounds_toArray, List.set_cons_zero, List.set_cons_succ]
    refine tk (i := 5) (.bool true) hS3 rfl (by kernel_rfl) (by kernel_rfl) (by kernel_rfl) (fun _ _ _ h => h) (by kernel_rfl) (by intro _ _; exact rfl) ?_
    simp only [Act.put, List.setIfInBounds_toArray, List.set_cons_zero, List.set_cons_succ]
    refine tk (i := 6) (.agg (d1.cells A c)) hS3 rfl (by kernel_rfl) (by kernel_rfl) (by kernel_rfl) (fun _ _ _ h => h) (by kernel_rfl) (by intro _ h; exact ex_load (by exact rfl) (by exact rfl) (h.h1.load (P := Try.prog) 25 Try.underlying25 rfl icmp_info)) ?_
    simp only [Act.put, List.setIfInBounds_toArray, List.set_cons_zero, List.set_cons_succ]
    refine tk (i := 8) (.agg (d1.cells A c)) hS3 rfl (by kernel_rfl) (by kernel_rfl) (by kernel_rfl) (fun _ _ _ h => h) (by kernel_rfl) (by intro _ h; exact ex_load (by exact rfl) (by exact rfl) (h.h1.load (P := Try.prog) 25 Try.underlying25 rfl icmp_info)) ?_
    simp only [Act.put, List.setIfInBounds_toArray, List.set_cons_zero, List.set_cons_succ]
    refine tk_call (i := 7) (.int .i64 (kind6 d1.ty)) (by kernel_rfl) rfl (by kernel_rfl) (by exact ex_call (by exact rfl) Try.func10 (by kernel_rfl) (by kernel_rfl) (by simp only [List.map_toArray, List.map_cons, List.map_nil] <;> rfl)) ((kind6_any d1 A c _).mono fun e w' g => ⟨g.1.eq, hS3.keep g.2⟩) ?_
    intro W8 hS8
    simp only [Act.put, List.setIfInBounds_toArray, List.set_cons_zero, List.set_cons_succ]
    refine tk_call (i := 9) (.int .i64 (kind6 d1.ty)) (by kernel_rfl) rfl (by kernel_rfl) (by exact ex_call (by exact rfl) Try.func11 (by kernel_rfl) (by kernel_rfl) (by simp only [List.map_toArray, List.map_cons, List.map_nil] <;> rfl)) ((rkind6_any d1 A c _).mono fun e w' g => ⟨g.1.eq, hS8.keep g.2⟩) ?_
    intro W9 hS9
    simp only [Act.put, List.setIfInBounds_toArray, List.set_cons_zero, List.set_cons_succ]
    refine tk (i := 10) (.bool true) hS9 rfl (by kernel_rfl) (by kernel_rfl) (by kernel_rfl) (fun _ _ _ h => h) (by kernel_rfl) (by intro _ _; exact eq_int_self (m := (kind6 d1.ty)) (by exact rfl) (by exact rfl) (by exact rfl)) ?_
    simp only [Act.put, List.setIfInBounds_toArray, List.set_cons_zero, List.set_cons_succ]
    refine tk (i := 11) (.bool true) hS9 rfl (by kernel_rfl) (by kernel_rfl) (by kernel_rfl) (fun _ _ _ h => h) (by kernel_rfl) (by intro _ _; exact rfl) ?_
    simp only [Act.put, List.setIfInBounds_toArray, List.set_cons_zero, List.set_cons_succ]
    refine tk (i := 12) (.bool true) hS9 rfl (by kernel_rfl) (by kernel_rfl) (by kernel_rfl) (fun _ _ _ h => h) (by kernel_rfl) (by intro _ _; exact rfl) ?_
    simp only [Act.put, List.setIfInBounds_toArray, List.set_cons_zero, List.set_cons_succ]
    refine tk (i := 13) (.agg (d1.cells A c)) hS9 rfl (by kernel_rfl) (by kernel_rfl) (by kernel_rfl) (fun _ _ _ h => h) (by kernel_rfl) (by intro _ h; exact ex_load (by exact rfl) (by exact rfl) (h.h1.load (P := Try.prog) 25 Try.underlying25 rfl icmp_info)) ?_
    simp only [Act.put, List.setIfInBounds_toArray, List.set_cons_zero, List.set_cons_succ]
    refine tk (i := 15) (.agg (d1.cells A c)) hS9 rfl (by kernel_rfl) (by kernel_rfl) (by kernel_rfl) (fun _ _ _ h => h) (by kernel_rfl) (by intro _ h; exact ex_load (by exact rfl) (by exact rfl) (h.h1.load (P := Try.prog) 25 Try.underlying25 rfl icmp_info)) ?_
    simp only [Act.put, List.setIfInBounds_toArray, List.set_cons_zero, List.set_cons_succ]
    refine tk_call (i := 14) (.int .u16 (d1.rest / 65536)) (by kernel_rfl) rfl (by kernel_rfl) (by exact ex_call (by exact rfl) Try.func12 (by kernel_rfl) (by kernel_rfl) (by simp only [List.map_toArray, List.map_cons, List.map_nil] <;> rfl)) ((ident_any d1 hok A c _).mono fun e w' g => ⟨g.1, hS9.keep g.2⟩) ?_
    intro W15 hS15
    simp only [Act.put, List.setIfInBounds_toArray, List.set_cons_zero, List.set_cons_succ]
    refine tk_call (i := 16) (.int .u16 (d1.rest / 65536)) (by kernel_rfl) rfl (by kernel_rfl) (by exact ex_call (by exact rfl) Try.func13 (by kernel_rfl) (by kernel_rfl) (by simp only [List.map_toArray, List.map_cons, List.map_nil] <;> rfl)) ((rident_any d1 hok A c _).mono fun e w' g => ⟨g.1, hS15.keep g.2⟩) ?_
    intro W16 hS16
    simp only [Act.put, List.setIfInBounds_toArray, List.set_cons_zero, List.set_cons_succ]
    refine tk (i := 17) (.bool true) hS16 rfl (by kernel_rfl) (by kernel_rfl) (by kernel_rfl) (fun _ _ _ h => h) (by kernel_rfl) (by intro _ _; exact eq_int_self (m := (d1.rest / 65536)) (by exact rfl) (by exact rfl) (by exact rfl)) ?_
    simp only [Act.put, List.setIfInBounds_toArray, List.set_cons_zero, List.set_cons_succ]
    refine tk (i := 18) (.bool true) hS16 rfl (by kernel_rfl) (by kernel_rfl) (by kernel_rfl) (fun _ _ _ h => h) (by kernel_rfl) (by intro _ _; exact rfl) ?_
    simp only [Act.put, List.setIfInBounds_toArray, List.set_cons_zero, List.set_cons_succ]
    refine tk (i := 19) (.bool true) hS16 rfl (by kernel_rfl) (by kernel_rfl) (by kernel_rfl) (fun _ _ _ h => h) (by kernel_rfl) (by intro _ _; exact rfl) ?_
    simp only [Act.put, List.setIfInBounds_toArray, List.set_cons_zero, List.set_cons_succ]
    refine tk (i := 20) (.agg ((withId d1 id).cells A3 c3)) hS16 rfl (by kernel_rfl) (by kernel_rfl) (by kernel_rfl) (fun _ _ _ h => h) (by kernel_rfl) (by intro _ h; exact ex_load (by exact rfl) (by exact rfl) (h.h3.load (P := Try.prog) 25 Try.underlying25 rfl icmp_info)) ?_
    simp only [Act.put, List.setIfInBounds_toArray, List.set_cons_zero, List.set_cons_succ]
    refine tk (i := 21) (.agg (d1.cells A c)) hS16 rfl (by kernel_rfl) (by kernel_rfl) (by kernel_rfl) (fun _ _ _ h => h) (by kernel_rfl) (by intro _ h; exact ex_load (by exact rfl) (by exact rfl) (h.h1.load (P := Try.prog) 25 Try.underlying25 rfl icmp_info)) ?_
    simp only [Act.put, List.setIfInBounds_toArray, List.set_cons_zero, List.set_cons_succ]
    refine tk (i := 22) (.int .u16 id) hS16 rfl (by kernel_rfl) (by kernel_rfl) (by kernel_rfl) (fun _ _ _ h => h) (by kernel_rfl) (by intro _ _; exact rfl) ?_
    simp only [Act.put, List.setIfInBounds_toArray, List.set_cons_zero, List.set_cons_succ]
    refine tk_callx (i := 23) (fun v w' => ∃ Ax cx, v = .agg ((withId d1 id).cells Ax cx) ∧ By w'.heap.size w' Ax (withId d1 id).bl.length cx (withId d1 id).bl) (by kernel_rfl) rfl (by kernel_rfl) (by exact ex_call (by exact rfl) Try.func15 (by kernel_rfl) (by kernel_rfl) (by simp only [List.map_toArray, List.map_cons, List.map_nil] <;> rfl)) (by refine (rwithIdent_any d1 A c id hid _ ⟨hok, hS16.y1.more hS16.big⟩ hbig).mono fun e w' g => ?_; obtain ⟨⟨Ax, cx, rfl, _, ho⟩, hb⟩ := g; exact ⟨_, rfl, ⟨Ax, cx, rfl, own_by ho⟩, hS16.keep hb⟩) ?_
    rintro vx WX ⟨Ax, cx, rfl, yx⟩ hSX
    simp only [Act.put, List.setIfInBounds_toArray, List.set_cons_zero, List.set_cons_succ]
    refine tk_call (i := 24) (.bool true) (by kernel_rfl) rfl (by kernel_rfl) (by exact ex_call (by exact rfl) Try.func14 (by kernel_rfl) (by kernel_rfl) (by simp only [List.map_toArray, List.map_cons, List.map_nil] <;> rfl)) (by refine (rsame_any _ _ _ _ _ _ _ _ _ hSX.y3 yx hSX.big (Nat.le_refl _)).mono fun e w' g => ?_; obtain ⟨q, rfl, hq, hb⟩ := g; exact ⟨by rw [hq.out, same7_self], hSX.keep hb⟩) ?_
    intro W24 hS24
    simp only [Act.put, List.setIfInBounds_toArray, List.set_cons_zero, List.set_cons_succ]
    refine tk (i := 25) (.bool true) hS24 rfl (by kernel_rfl) (by kernel_rfl) (by kernel_rfl) (fun _ _ _ h => h) (by kernel_rfl) (by intro _ _; exact rfl) ?_
    simp only [Act.put, List.setIfInBounds_toArray, List.set_cons_zero, List.set_cons_succ]
    refine tk (i := 26) (.bool true) hS24 rfl (by kernel_rfl) (by kernel_rfl) (by kernel_rfl) (fun _ _ _ h => h) (by kernel_rfl) (by intro _ _; exact rfl) ?_
    simp only [Act.put, List.setIfInBounds_toArray, List.set_cons_zero, List.set_cons_succ]
    refine tk (i := 27) (.agg ((withId d1 id).cells A3 c3)) hS24 rfl (by kernel_rfl) (by kernel_rfl) (by kernel_rfl) (fun _ _ _ h => h) (by kernel_rfl) (by intro _ h; exact ex_load (by exact rfl) (by exact rfl) (h.h3.load (P := Try.prog) 25 Try.underlying25 rfl icmp_info)) ?_
    simp only [Act.put, List.setIfInBounds_toArray, List.set_cons_zero, List.set_cons_succ]
    refine tk (i := 29) (.int .u16 id) hS24 rfl (by kernel_rfl) (by kernel_rfl) (by kernel_rfl) (fun _ _ _ h => h) (by kernel_rfl) (by intro _ _; exact rfl) ?_
    simp only [Act.put, List.setIfInBounds_toArray, List.set_cons_zero, List.set_cons_succ]
    refine tk_call (i := 28) (.int .u16 id) (by kernel_rfl) rfl (by kernel_rfl) (by exact ex_call (by exact rfl) Try.func12 (by kernel_rfl) (by kernel_rfl) (by simp only [List.map_toArray, List.map_cons, List.map_nil] <;> rfl)) ((ident_any (withId d1 id) hok3 A3 c3 _).mono fun e w' g => ⟨by rw [g.1, withId_ident hok], hS24.keep g.2⟩) ?_
    intro W29 hS29
    simp only [Act.put, List.setIfInBounds_toArray, List.set_cons_zero, List.set_cons_succ]
    refine tk (i := 30) (.bool true) hS29 rfl (by kernel_rfl) (by kernel_rfl) (by kernel_rfl) (fun _ _ _ h => h) (by kernel_rfl) (by intro _ _; exact eq_int_self (m := id) (by exact rfl) (by exact rfl) (by exact rfl)) ?_
    simp only [Act.put, List.setIfInBounds_toArray, List.set_cons_zero, List.set_cons_succ]
    refine tk (i := 31) (.bool true) hS29 rfl (by kernel_rfl) (by kernel_rfl) (by kernel_rfl) (fun _ _ _ h => h) (by kernel_rfl) (by intro _ _; exact rfl) ?_
    simp only [Act.put, List.setIfInBounds_toArray, List.set_cons_zero, List.set_cons_succ]
    refine tk (i := 32) (.bool true) hS29 rfl (by kernel_rfl) (by kernel_rfl) (by kernel_rfl) (fun _ _ _ h => h) (by kernel_rfl) (by intro _ _; exact rfl) ?_
    simp only [Act.put, List.setIfInBounds_toArray, List.set_cons_zero, List.set_cons_succ]
    refine tk (i := 33) (.agg (d1.cells A c)) hS29 rfl (by kernel_rfl) (by kernel_rfl) (by kernel_rfl) (fun _ _ _ h => h) (by kernel_rfl) (by intro _ h; exact ex_load (by exact rfl) (by exact rfl) (h.h1.load (P := Try.prog) 25 Try.underlying25 rfl icmp_info)) ?_
    simp only [Act.put, List.setIfInBounds_toArray, List.set_cons_zero, List.set_cons_succ]
    refine tk (i := 34) (.agg (o1.cells A2 c2)) hS29 rfl (by kernel_rfl) (by kernel_rfl) (by kernel_rfl) (fun _ _ _ h => h) (by kernel_rfl) (by intro _ h; exact ex_load (by exact rfl) (by exact rfl) (h.h2.load (P := Try.prog) 25 Try.underlying25 rfl icmp_info)) ?_
    simp only [Act.put, List.setIfInBounds_toArray, List.set_cons_zero, List.set_cons_succ]
    refine tk (i := 36) (.agg (d1.cells A c)) hS29 rfl (by kernel_rfl) (by kernel_rfl) (by kernel_rfl) (fun _ _ _ h => h) (by kernel_rfl) (by intro _ h; exact ex_load (by exact rfl) (by exact rfl) (h.h1.load (P := Try.prog) 25 Try.underlying25 rfl icmp_info)) ?_
    simp only [Act.put, List.setIfInBounds_toArray, List.set_cons_zero, List.set_cons_succ]
    refine tk (i := 37) (.agg (o1.cells A2 c2)) hS29 rfl (by kernel_rfl) (by kernel_rfl) (by kernel_rfl) (fun _ _ _ h => h) (by kernel_rfl) (by intro _ h; exact ex_load (by exact rfl) (by exact rfl) (h.h2.load (P := Try.prog) 25 Try.underlying25 rfl icmp_info)) ?_
    simp only [Act.put, List.setIfInBounds_toArray, List.set_cons_zero, List.set_cons_succ]
    refine tk_call (i := 35) (.bool (same7 d1 o1)) (by kernel_rfl) rfl (by kernel_rfl) (by exact ex_call (by exact rfl) Try.func16 (by kernel_rfl) (by kernel_rfl) (by simp only [List.map_toArray, List.map_cons, List.map_nil] <;> rfl)) (by refine (same_any _ _ d1 o1 A A2 c c2 _ hS29.y1 hS29.y2 hS29.big hS29.big).mono fun e w' g => ?_; obtain ⟨q, rfl, hq, hb⟩ := g; exact ⟨by rw [hq.out], hS29.keep hb⟩) ?_
    intro W37 hS37
    simp only [Act.put, List.setIfInBounds_toArray, List.set_cons_zero, List.set_cons_succ]
    refine tk_call (i := 38) (.bool (same7 d1 o1)) (by kernel_rfl) rfl (by kernel_rfl) (by exact ex_call (by exact rfl) Try.func14 (by kernel_rfl) (by kernel_rfl) (by simp only [List.map_toArray, List.map_cons, List.map_nil] <;> rfl)) (by refine (rsame_any _ _ d1 o1 A A2 c c2 _ hS37.y1 hS37.y2 hS37.big hS37.big).mono fun e w' g => ?_; obtain ⟨q, rfl, hq, hb⟩ := g; exact ⟨by rw [hq.out], hS37.keep hb⟩) ?_
    intro W38 hS38
    simp only [Act.put, List.setIfInBounds_toArray, List.set_cons_zero, List.set_cons_succ]
    refine tk (i := 39) (.bool true) hS38 rfl (by kernel_rfl) (by kernel_rfl) (by kernel_rfl) (fun _ _ _ h => h) (by kernel_rfl) (by intro _ _; exact eq_bool_self (b := (same7 d1 o1)) (by exact rfl) Try.underlying4 (by exact rfl) (by exact rfl)) ?_
    simp only [Act.put, List.setIfInBounds_toArray, List.set_cons_zero, List.set_cons_succ]
    refine tk (i := 40) (.bool true) hS38 rfl (by kernel_rfl) (by kernel_rfl) (by kernel_rfl) (fun _ _ _ h => h) (by kernel_rfl) (by intro _ _; exact rfl) ?_
    simp only [Act.put, List.setIfInBounds_toArray, List.set_cons_zero, List.set_cons_succ]
    refine tk (i := 41) (.bool true) hS38 rfl (by kernel_rfl) (by kernel_rfl) (by kernel_rfl) (fun _ _ _ h => h) (by kernel_rfl) (by intro _ _; exact rfl) ?_
    simp only [Act.put, List.setIfInBounds_toArray, List.set_cons_zero, List.set_cons_succ]
    refine tk (i := 42) (.agg (d1.cells A c)) hS38 rfl (by kernel_rfl) (by kernel_rfl) (by kernel_rfl) (fun _ _ _ h => h) (by kernel_rfl) (by intro _ h; exact ex_load (by exact rfl) (by exact rfl) (h.h1.load (P := Try.prog) 25 Try.underlying25 rfl icmp_info)) ?_
    simp only [Act.put, List.setIfInBounds_toArray, List.set_cons_zero, List.set_cons_succ]
    refine tk (i := 43) (.agg (d1.cells A c)) hS38 rfl (by kernel_rfl) (by kernel_rfl) (by kernel_rfl) (fun _ _ _ h => h) (by kernel_rfl) (by intro _ h; exact ex_load (by exact rfl) (by exact rfl) (h.h1.load (P := Try.prog) 25 Try.underlying25 rfl icmp_info)) ?_
    simp only [Act.put, List.setIfInBounds_toArray, List.set_cons_zero, List.set_cons_succ]
    refine tk_call (i := 44) (.bool true) (by kernel_rfl) rfl (by kernel_rfl) (by exact ex_call (by exact rfl) Try.func16 (by kernel_rfl) (by kernel_rfl) (by simp only [List.map_toArray, List.map_cons, List.map_nil] <;> rfl)) (by refine (same_any _ _ d1 d1 A A c c _ hS38.y1 hS38.y1 hS38.big hS38.big).mono fun e w' g => ?_; obtain ⟨q, rfl, hq, hb⟩ := g; exact ⟨by rw [hq.out, same7_self], hS38.keep hb⟩) ?_
    intro W44 hS44
    simp only [Act.put, List.setIfInBounds_toArray, List.set_cons_zero, List.set_cons_succ]
    refine tk (i := 45) (.bool true) hS44 rfl (by kernel_rfl) (by kernel_rfl) (by kernel_rfl) (fun _ _ _ h => h) (by kernel_rfl) (by intro _ _; exact rfl) ?_
    simp only [Act.put, List.setIfInBounds_toArray, List.set_cons_zero, List.set_cons_succ]
    refine tk (i := 46) (.bool true) hS44 rfl (by kernel_rfl) (by kernel_rfl) (by kernel_rfl) (fun _ _ _ h => h) (by kernel_rfl) (by intro _ _; exact rfl) ?_
    simp only [Act.put, List.setIfInBounds_toArray, List.set_cons_zero, List.set_cons_succ]
    refine tk_call (i := 47) (.bool true) (by kernel_rfl) rfl (by kernel_rfl) (by exact ex_call (by exact rfl) Try.func17 (by kernel_rfl) (by kernel_rfl) (by simp only [List.map_toArray, List.map_cons, List.map_nil] <;> rfl)) ((alive_any _).mono fun e w' g => ⟨g.1, hS44.keep g.2⟩) ?_
    intro W47 hS47
    simp only [Act.put, List.setIfInBounds_toArray, List.set_cons_zero, List.set_cons_succ]
    refine tk (i := 48) (.bool true) hS47 rfl (by kernel_rfl) (by kernel_rfl) (by kernel_rfl) (fun _ _ _ h => h) (by kernel_rfl) (by intro _ _; exact rfl) ?_
    simp only [Act.put, List.setIfInBounds_toArray, List.set_cons_zero, List.set_cons_succ]
    refine tk (i := 49) (.bool true) hS47 rfl (by kernel_rfl) (by kernel_rfl) (by kernel_rfl) (fun _ _ _ h => h) (by kernel_rfl) (by intro _ _; exact rfl) ?_
    simp only [Act.put, List.setIfInBounds_toArray, List.set_cons_zero, List.set_cons_succ]
    refine wpAnyH_done (by kernel_rfl) ?_ _
    go_wp2
    go_ret
    exact ⟨rfl, hS47.bel⟩
    -- END 3
end Go.Proofs.YtgigdaemecokbaaRRR
