/-
  Lemmas and walks for the row of TofourPackets,TofourMessages,TofourInside (part 36 of 42).
-/
import Derived.Test.YtjnphelfloiadaaFpAG
import Derived.Test.YtjnphelfloiadaaFpBA
import Derived.Test.YtjnphelfloiadaaFpBD
import Derived.Test.YtjnphelfloiadaaFpBF
import Derived.Test.YtjnphelfloiadaaFpBI
set_option linter.unusedVariables false
set_option linter.unusedSimpArgs false
namespace Go.Proofs.Ytjnphelfloiadaa
open Go.RowKit Go.Shelf
attribute [local irreducible] wpList Code.wp Oper.wp wpOp wpAnyH

theorem szerr_ps {n : Nat} {l ps : List Int} (hl : l.length = n) (h : ¬ szerr n = 0) : parse7 l ps = zero7 ∧ perr7 l ps = szerr n := by
 unfold parse7 perr7
 unfold szerr at h ⊢
 rw [hl]
 by_cases h1 : n < 8
 ·rw [if_pos (.inl h1), if_pos h1, if_pos h1]
  exact ⟨rfl, rfl⟩
 ·rw [if_neg h1] at h
  by_cases h2 : 65535 < n
  ·rw [if_pos (.inr (.inl h2)), if_neg h1, if_neg h1, if_pos h2, if_pos h2]
   exact ⟨rfl, rfl⟩
  ·rw [if_neg h2] at h
   exact absurd rfl h

set_option maxRecDepth 100000 in
set_option maxHeartbeats 4000000 in
theorem rparse6m_any (s t : List Int) (hE : E6ok s t) (A : Option Addr) (n c : Nat) (l : List Int) (w : World) (y : By w.heap.size w A n c l) :
  Calls Try.prog 63 #[.agg ((u8s (l16 s)).toArray), .agg ((u8s (l16 t)).toArray), .slice A n c] w fun e w' => Par7 w.heap.size w' l (pse6 s t (l.length : Int) 58) e ∧ Below w.heap.size w w' := by
 have yl := y.len
 have sL := hE.sL
 have tL := hE.tL
 go_enter Try.func63, Try.ntmps63
 refine wp_sr ?_
 refine lz (ow_box 24 (.tmp 0) _ rfl rfl ?_)
 intro g1 W2 hg3 ge4 sz5 hb6
 have z7 := hb6.size
 simp only [lay]
 refine lz (ow_box 24 (.tmp 1) _ rfl rfl ?_)
 intro g8 W9 hg10 ge11 sz12 hb13
 have z14 := hb13.size
 simp only [lay]
 refine lz (oa #[.int .u8 0, .int .u8 0, .int .u32 0, .slice none 0 0] ?_)
 intro g15 W16 hg17 ge18 sz19 hb20
 have z21 := hb20.size
 simp only [lay]
 refine lv (.int .i64 0) (by exact xa) ?_
 simp only [lay]
 refine wn ?_
 refine wp_sr ?_
 refine lv (.slice A n c) (by exact xm) ?_
 simp only [lay]
 refine lz (ow_same (.int .i64 (szerr n)) (by exact xk Try.func91) (rsize7_any _ n _ W16 (Nat.le_trans y.cap y.big)) ?_)
 simp only [lay]
 refine lv (.int .i64 (szerr n)) (by exact xa) ?_
 simp only [lay]
 refine wn ?_
 refine wp_seq ?_
 refine wp_sr ?_
 refine lv (.int .i64 (szerr n)) (by exact xm) ?_
 simp only [lay]
 by_cases q22 : szerr n = 0
 case pos =>
  have hz2 := szerr_zero q22
  refine lv (.bool false) (by exact neq_int_eq (by rfl) (by rfl) (by rfl) (by first|assumption|omega)) ?_
  simp only [lay]
  refine wn ?_
  refine cF9 ?_
  refine wp_skip ?_
  change Code.wp _ _ _ _ _
  refine wp_sr ?_
  refine lv (.agg ((u8s (l16 s)).toArray)) (by exact xo ((hg3.to (bt hb13 hb20)).load (P := Try.prog) 24 Try.underlying24 rfl (by kernel_rfl))) ?_
  simp only [lay]
  refine lv (.agg ((u8s (l16 t)).toArray)) (by exact xo ((hg10.to hb20).load (P := Try.prog) 24 Try.underlying24 rfl (by kernel_rfl))) ?_
  refine lv (.slice A n c) (by exact xm) ?_
  refine lv (.int .i64 (n : Int)) (by exact xz Try.underlying26) ?_
  simp only [lay]
  refine lz (ow_call (fun v w' => (∃ u, v = .tuple #[u, .int .i64 0] ∧ OwnB w' W16.heap.size u (pse6 s t (l.length : Int) 58)) ∧ Below W16.heap.size W16 w') (by exact xk Try.func61) (by have := rpseudo6_l hE.sL hE.tL hE.s hE.t (p := 58) (n := (n : Int)) (by decide) (by omega) W16; rw [show (n : Int) = (l.length : Int) from by rw [yl]] at this ⊢; exact this) ?_)
  rintro _ W26 ⟨⟨u28, rfl, hO29⟩, hb27⟩
  have z30 := hb27.size
  obtain ⟨A31, c32, rfl, y33⟩ := hO29.by_
  simp only [lay]
  refine lv (.tuple #[.slice A31 ((pse6 s t (l.length : Int) 58).length) c32, .int .i64 0]) (by exact xm) ?_
  refine lv (.slice A31 ((pse6 s t (l.length : Int) 58).length) c32) (by exact xe) ?_
  refine lv (.int .i64 0) (by exact xe) ?_
  refine lv (.slice A31 ((pse6 s t (l.length : Int) 58).length) c32) (by exact xa) ?_
  simp only [lay]
  refine lv (.int .i64 0) (by exact xa) ?_
  simp only [lay]
  refine wn ?_
  refine wp_sr ?_
  refine lv (.slice A n c) (by exact xm) ?_
  refine lv (.slice A31 ((pse6 s t (l.length : Int) 58).length) c32) (by exact xm) ?_
  simp only [lay]
  have b34 := bt hb6 hb13
  have b36 := bt (bt b34 hb20) hb27
  have by37 := y.to b36
  refine lz (ow_call (fun v w' => (∃ A' c', v = .tuple #[.agg ((parse7 l (pse6 s t (l.length : Int) 58)).cells A' c'), .int .i64 (perr7 l (pse6 s t (l.length : Int) 58))] ∧ (parse7 l (pse6 s t (l.length : Int) 58)).ok ∧ OwnB w' W26.heap.size (.slice A' (parse7 l (pse6 s t (l.length : Int) 58)).bl.length c') (parse7 l (pse6 s t (l.length : Int) 58)).bl) ∧ Below W26.heap.size W26 w') (by exact xk Try.func92) ((rparse7_any _ _ _ l _ _ _ (pse6 s t (l.length : Int) 58) W26 by37 (own_byS hO29) (by omega) (by omega) (by simp only [pse6, List.length_append, List.length_cons, List.length_nil, hE.sL, hE.tL]; decide)).mono (by rintro e w' ⟨⟨A', c', rfl, hk, ho⟩, hb⟩; exact ⟨_, rfl, ⟨A', c', rfl, hk, ho⟩, hb⟩)) ?_)
  rintro _ W38 ⟨⟨A40, c41, rfl, hk42, hO43⟩, hb39⟩
  have z44 := hb39.size
  simp only [lay]
  refine lv (.agg ((parse7 l (pse6 s t (l.length : Int) 58)).cells A40 c41)) (by exact xe) ?_
  refine lv (.int .i64 (perr7 l (pse6 s t (l.length : Int) 58))) (by exact xe) ?_
  simp only [lay]
  refine lz (ow_st 43 (.tmp 6) (.tmp 28) g15 ((parse7 l (pse6 s t (l.length : Int) 58)).cells A40 c41) _ _ rfl (by rfl) (by rfl) (hg17.to (bt hb27 hb39)) (by kernel_rfl) rfl (by kernel_rfl) ?_)
  intro W45 hg46 bs47 hb48
  have z52 := hb48.size
  have own53 := (hO29.to hb39).but6 bs47 (by omega)
  simp only [lay]
  refine lv (.int .i64 (perr7 l (pse6 s t (l.length : Int) 58))) (by exact xa) ?_
  simp only [lay]
  refine wn ?_
  refine wp_ret ?_
  try simp only [Exit.then]
  exact bodyPost_ret (res_cell2 Try.results63 rfl (hg46.load (P := Try.prog) 43 Try.underlying43 rfl (by kernel_rfl)) rfl) rfl ⟨⟨_, _, rfl, hk42, ((hO43.but6 bs47 (by omega)).more b36.size)⟩, ((bt b36 hb39).trans (hb48.mono (lq b34 ge18)))⟩
 have hz := q22
 refine lv (.bool true) (by exact neq_int_ne (by rfl) (by rfl) (by rfl) (by first|assumption|omega)) ?_
 simp only [lay]
 refine wn ?_
 refine cT9 ?_
 refine wp_sr ?_
 refine lv (.agg #[.int .u8 0, .int .u8 0, .int .u32 0, .slice none 0 0]) (by kernel_rfl) ?_
 refine lv (.int .i64 (szerr n)) (by exact xm) ?_
 simp only [lay]
 refine lz (ow_st 43 (.tmp 6) (.tmp 15) g15 #[.int .u8 0, .int .u8 0, .int .u32 0, .slice none 0 0] _ _ rfl (by rfl) (by rfl) hg17 (by kernel_rfl) rfl (by kernel_rfl) ?_)
 intro W58 hg59 bs60 hb61
 have z62 := hb61.size
 simp only [lay]
 refine lv (.int .i64 (szerr n)) (by exact xa) ?_
 simp only [lay]
 refine wn ?_
 refine wp_ret ?_
 try simp only [Exit.then]
 obtain ⟨e1, e2⟩ := szerr_ps (l := l) (ps := pse6 s t (l.length : Int) 58) yl hz
 have b63 := bt hb6 hb13
 exact bodyPost_ret (res_cell2 Try.results63 rfl (hg59.load (P := Try.prog) 43 Try.underlying43 rfl (by kernel_rfl)) rfl) rfl ⟨⟨none, 0, by rw [e1, e2]; rfl, by rw [e1]; exact zero7_ok, by rw [e1]; exact OwnB.nil _ _⟩, ((bt b63 hb20).trans (hb61.mono (lq b63 ge18)))⟩
set_option maxRecDepth 100000 in
set_option maxHeartbeats 4000000 in
theorem rwrite4m_any (m : D7) (A : Option Addr) (c : Nat) (w : World) (hR : Rd7 w.heap.size w m A c) :
  Calls Try.prog 75 #[.agg (m.cells A c)] w fun e w' => TwoR (m.write [], m.err) w.heap.size w' e ∧ Below w.heap.size w w' := by
 have y := hR.body
 go_enter Try.func75, Try.ntmps75
 refine wp_sr ?_
 refine lz (ow_box 43 (.tmp 0) _ rfl rfl ?_)
 intro g1 W2 hg3 ge4 sz5 hb6
 have z7 := hb6.size
 simp only [lay]
 refine lv (.slice none 0 0) (by exact xa) ?_
 refine lv (.int .i64 0) (by exact xa) ?_
 simp only [lay]
 refine wn ?_
 refine wp_seq ?_
 refine wp_sr ?_
 refine lv (.agg (m.cells A c)) (by exact xo (hg3.load (P := Try.prog) 43 Try.underlying43 rfl (by kernel_rfl))) ?_
 simp only [lay]
 by_cases q8 : 65527 < m.bl.length
 case pos =>
  refine lz (ow_call (fun v w' => v = .bool true ∧ Below W2.heap.size W2 w') (by exact xk Try.func98) ((rlong7_any m A c W2).mono fun e w' h => ⟨_, h.1, by rw [decide_eq_true (by assumption)], h.2⟩) ?_)
  rintro _ W9 ⟨rfl, hb10⟩
  have z11 := hb10.size
  simp only [lay]
  refine wn ?_
  refine cT9 ?_
  refine wp_sr ?_
  refine lv (.slice none 0 0) (by exact xa) ?_
  refine lv (.int .i64 2) (by exact xa) ?_
  simp only [lay]
  refine wn ?_
  refine wp_ret ?_
  try simp only [Exit.then]
  have e : (m.write [], m.err) = ([], 2) := by rw [D7.write, D7.err, if_pos (by assumption), if_pos (by assumption)]
  exact bodyPost_ret (res_tt Try.results75 rfl rfl) rfl ⟨TwoR.ok e (OwnB.nil _ _), (bt hb6 hb10)⟩
 refine lz (ow_call (fun v w' => v = .bool false ∧ Below W2.heap.size W2 w') (by exact xk Try.func98) ((rlong7_any m A c W2).mono fun e w' h => ⟨_, h.1, by rw [decide_eq_false (by assumption)], h.2⟩) ?_)
 rintro _ W13 ⟨rfl, hb14⟩
 have z15 := hb14.size
 simp only [lay]
 refine wn ?_
 refine cF9 ?_
 refine wp_skip ?_
 change Code.wp _ _ _ _ _
 refine wp_sr ?_
 refine lv (.agg (m.cells A c)) (by exact xo ((hg3.to hb14).load (P := Try.prog) 43 Try.underlying43 rfl (by kernel_rfl))) ?_
 simp only [lay]
 have b17 := bt hb6 hb14
 have rd18 := hR.to b17
 refine lz (ow_call (fun v w' => OwnB w' W13.heap.size v (m.bytes []) ∧ Below W13.heap.size W13 w') (by exact xk Try.func99) (rwrite7_any m A c _ _ _ [] W13 rd18 (By.nil _ _ none (by decide)) (by decide) (by omega)) ?_)
 rintro v21 W19 ⟨hO22, hb20⟩
 have z23 := hb20.size
 obtain ⟨A24, c25, rfl, y26⟩ := hO22.by_
 simp only [lay]
 refine lv (.slice A24 ((m.bytes []).length) c25) (by exact xa) ?_
 refine lv (.int .i64 0) (by exact xa) ?_
 simp only [lay]
 refine wn ?_
 refine wp_ret ?_
 try simp only [Exit.then]
 have e : (m.write [], m.err) = (m.bytes [], 0) := by rw [D7.write, D7.err, if_neg (by omega), if_neg (by omega)]
 exact bodyPost_ret (res_tt Try.results75 rfl rfl) rfl ⟨TwoR.ok e (hO22.more b17.size), (bt b17 hb20)⟩
set_option maxRecDepth 100000 in
set_option maxHeartbeats 8000000 in
theorem rInside18_any (A : Option Addr) (n c : Nat) (l s t : List Int) (hE : E4ok s t) (w : World) (y : By w.heap.size w A n c l) :
  Calls Try.prog 17 #[.slice A n c, .agg (e4c s t)] w fun e w' => TwoR (inside18 l s t) w.heap.size w' e ∧ Below w.heap.size w w' := by
 obtain ⟨D, hD⟩ : ∃ D, got6 false l = D := ⟨_, rfl⟩
 obtain ⟨E, hEr⟩ : ∃ E, (g6 false l).err = E := ⟨_, rfl⟩
 obtain ⟨PT, hPT⟩ : ∃ P, ((g6 false l).pat : Int) = P := ⟨_, rfl⟩
 have sL := hE.sL
 have tL := hE.tL
 go_enter Try.func17, Try.ntmps17
 refine wp_sr ?_
 refine lz (ow_box 32 (.tmp 1) _ rfl rfl ?_)
 intro g1 W2 hg3 ge4 sz5 hb6
 have z7 := hb6.size
 simp only [lay]
 refine lv (.slice none 0 0) (by exact xa) ?_
 refine lv (.int .i64 0) (by exact xa) ?_
 simp only [lay]
 refine wn ?_
 refine wp_sr ?_
 refine lv (.slice A n c) (by exact xm) ?_
 simp only [lay]
 have by8 := y.to hb6
 refine lz (ow_call (fun v w' => (∃ p, v = .tuple #[.agg (D.cells p), .int .i64 PT, .int .i64 E] ∧ Own6 w' W2.heap.size D p) ∧ Below W2.heap.size W2 w') (by exact xk Try.func55) (by have := rpart6_x by8; rw [hD, hEr, hPT] at this; exact this) ?_)
 rintro _ W9 ⟨⟨p11, rfl, ho12⟩, hb10⟩
 have z13 := hb10.size
 have hr14 := ho12.rd
 have hO15 := ho12.body
 simp only [lay]
 refine lv (.tuple #[.agg (D.cells p11), .int .i64 PT, .int .i64 E]) (by exact xm) ?_
 refine lv (.agg (D.cells p11)) (by exact xe) ?_
 refine lv (.int .i64 PT) (by exact xe) ?_
 refine lv (.int .i64 E) (by exact xe) ?_
 simp only [lay]
 refine lz (oa (g41 0 0 0 (.slice none 0 0) false 0 0 false 0 (.slice none 0 0)) ?_)
 intro g16 W17 hg18 ge19 sz20 hb21
 have z22 := hb21.size
 simp only [lay]
 refine lz (ow_st 28 (.tmp 6) (.tmp 17) g16 (D.cells p11) _ _ rfl (by rfl) (by rfl) hg18 (by kernel_rfl) rfl (by kernel_rfl) ?_)
 intro W23 hg24 bs25 hb26
 have z27 := hb26.size
 simp only [lay]
 refine lv (.int .i64 PT) (by exact xa) ?_
 refine lv (.int .i64 E) (by exact xa) ?_
 simp only [lay]
 refine wn ?_
 refine wp_seq ?_
 refine wp_sr ?_
 by_cases q28 : E = 0
 case pos =>
  subst q28
  obtain ⟨hck0, hal, ha40, hsd, h40⟩ := got6_part y.rng hEr
  rw [hD] at hck0 hal ha40
  obtain ⟨hokh, hof, hbl⟩ := check18 hck0
  have yl := y.len
  obtain ⟨SD, hSD⟩ : ∃ SD, said18 l = SD := ⟨_, rfl⟩
  rw [hSD] at hsd
  obtain ⟨hsd0, hsd1⟩ := hsd
  have hsdE : two17 l 4 - ((D.ahead : Int) - 40) = SD := by rw [← hSD, said18, hD]; rfl
  have hch := (head18_check hof s t []).trans (if_neg (by decide))
  have hwr := head18_write hof s t
  have t4 := two17_rng y.rng 4
  have t5 := getD_byte y.rng 4
  have t6 := getD_byte y.rng 5
  refine wpList_cut 32 (fun a W => ∃ (b60 : Bool) (x29 x30 x31 x32 x33 x34 x35 x36 x37 x38 x39 x40 x41 x42 x43 x44 x45 x46 x47 x48 x49 x50 x51 x52 x53 x54 x55 x56 x57 x58 x59 : Value), none18 l = b60 ∧ a = ⟨#[.slice A n c, .agg (e4c s t), undef, pq9 g1 0, .slice none 0 0, .int .i64 0, pq9 g16 0, .int .i64 PT, .int .i64 0, undef, undef, undef, undef, undef, .tuple #[.agg (D.cells p11), .int .i64 PT, .int .i64 0], .slice A n c, .tuple #[.agg (D.cells p11), .int .i64 PT, .int .i64 0], .agg (D.cells p11), .int .i64 PT, .int .i64 0, x29, x30, x31, x32, x33, x34, x35, x36, x37, x38, x39, x40, x41, x42, x43, x44, x45, x46, x47, x48, x49, x50, x51, x52, x53, x54, x55, x56, x57, x58, x59, .bool b60, undef, undef, undef, undef, undef, undef, undef, undef, undef, undef, undef, undef, undef, undef, undef, undef, undef, undef, undef, undef, undef, undef, undef, undef, undef, undef, undef, undef, undef, undef, undef, undef, undef, undef, undef, undef, undef, undef, undef, undef, undef, undef, undef, undef, undef, undef, undef, undef, undef, undef, undef, undef, undef, undef, undef, undef, undef, undef], []⟩ ∧ W23 = W) (fun hk61 => ?_) ?_
  case refine_1 =>
   refine lv (.int .i64 0) (by exact xm) ?_
   refine lv (.bool false) (by exact neq_int_eq (by rfl) (by rfl) (by rfl) (by decide)) ?_
   refine lv (.bool false) (by exact xm) ?_
   refine lv (pq9 g16 38) (by exact xf 38 0 Try.underlying28) ?_
   simp only [lay]
   refine lv (.int .i64 D.off) (by exact xc Try.underlying3 (hg24.cell 38 rfl)) ?_
   simp only [lay]
   by_cases q62 : D.off = 0
   case pos =>
    refine lv (.bool true) (by exact yq) ?_
    refine lv (.bool true) (by exact xm) ?_
    refine lv (pq9 g16 40) (by exact xf 40 0 Try.underlying28) ?_
    refine lv (.int .u8 D.pro) (by exact xc Try.underlying5 (hg24.cell 40 rfl)) ?_
    simp only [lay]
    by_cases q63 : D.pro = 58
    case pos =>
     refine lv (.bool true) (by exact yq) ?_
     refine lv (.bool true) (by exact xp (b := true)) ?_
     refine lv (.bool true) (by exact xm) ?_
     refine lv (pq9 g16 41) (by exact xf 41 0 Try.underlying28) ?_
     simp only [lay]
     refine lv (.slice p11.bA D.bl.length p11.bc) (by exact xc Try.underlying26 (hg24.cell 41 rfl)) ?_
     refine lv (.int .i64 (D.bl.length : Int)) (by exact xz Try.underlying26) ?_
     simp only [lay]
     by_cases q64 : (D.bl.length : Int) > 0
     case pos =>
      refine lv (.bool true) (by exact ex_gtr (by rfl) (by rfl) (by rfl) (decide_eq_true (by first|assumption|omega|decide))) ?_
      refine lv (.bool true) (by exact xp (b := true)) ?_
      refine lv (.bool true) (by exact xm) ?_
      refine lv (pq9 g16 41) (by exact xf 41 0 Try.underlying28) ?_
      simp only [lay]
      refine lv (.slice p11.bA D.bl.length p11.bc) (by exact xc Try.underlying26 (hg24.cell 41 rfl)) ?_
      simp only [lay]
      have l65 : W9.heap.size ≤ g16 := Nat.le_of_eq ge19.symm
      have own67 := hO15.to (hb21.trans (hb26.mono l65))
      have y68 := (own_byS own67)
      obtain ⟨b69, o70, hA71⟩ := y68.form (k := 0) (by omega)
      refine lv (pq9 b69 (o70 + 0)) (by exact xi 0 Try.underlying26 hA71) ?_
      refine lv (.int .u8 (D.bl.getD 0 0)) (by exact xc Try.underlying5 (y68.atE (k := 0) hA71 (by omega))) ?_
      simp only [lay]
      by_cases q72 : D.bl.getD 0 0 = 128
      case pos =>
       refine lv (.bool false) (by exact neq_int_eq (by rfl) (by rfl) (by rfl) (by first|assumption|omega)) ?_
       refine lv (.bool false) (by exact xp (b := true)) ?_
       refine lv (.bool false) (by exact xm) ?_
       refine lzn ?_
       simp only [lay]
       refine lzn ?_
       refine lzn ?_
       refine lzn ?_
       refine lzn ?_
       simp only [lay]
       refine lv (.bool false) (by exact xp (b := false)) ?_
       refine lv (.bool false) (by exact xp (b := false)) ?_
       simp only [lay]
       exact hk61 _ _ ⟨false, _, _, _, _, _, _, _, _, _, _, _, _, _, _, _, _, _, _, _, _, _, _, _, _, _, _, _, _, _, _, _, (by cases hn : none18 l with | false => rfl | true => exfalso; have hx := none18_iff.1 hn; rw [hD, hEr] at hx; omega), rfl, rfl⟩
      refine lv (.bool true) (by exact neq_int_ne (by rfl) (by rfl) (by rfl) (by first|assumption|omega)) ?_
      refine lv (.bool true) (by exact xp (b := true)) ?_
      refine lv (.bool true) (by exact xm) ?_
      refine lv (pq9 g16 41) (by exact xf 41 0 Try.underlying28) ?_
      simp only [lay]
      refine lv (.slice p11.bA D.bl.length p11.bc) (by exact xc Try.underlying26 (hg24.cell 41 rfl)) ?_
      simp only [lay]
      have y73 := (own_byS own67)
      obtain ⟨b74, o75, hA76⟩ := y73.form (k := 0) (by omega)
      refine lv (pq9 b74 (o75 + 0)) (by exact xi 0 Try.underlying26 hA76) ?_
      refine lv (.int .u8 (D.bl.getD 0 0)) (by exact xc Try.underlying5 (y73.atE (k := 0) hA76 (by omega))) ?_
      simp only [lay]
      by_cases q77 : D.bl.getD 0 0 = 129
      case pos =>
       refine lv (.bool false) (by exact neq_int_eq (by rfl) (by rfl) (by rfl) (by first|assumption|omega)) ?_
       refine lv (.bool false) (by exact xp (b := true)) ?_
       refine lv (.bool false) (by exact xp (b := false)) ?_
       simp only [lay]
       exact hk61 _ _ ⟨false, _, _, _, _, _, _, _, _, _, _, _, _, _, _, _, _, _, _, _, _, _, _, _, _, _, _, _, _, _, _, _, (by cases hn : none18 l with | false => rfl | true => exfalso; have hx := none18_iff.1 hn; rw [hD, hEr] at hx; omega), rfl, rfl⟩
      refine lv (.bool true) (by exact neq_int_ne (by rfl) (by rfl) (by rfl) (by first|assumption|omega)) ?_
      refine lv (.bool true) (by exact xp (b := true)) ?_
      refine lv (.bool true) (by exact xp (b := false)) ?_
      simp only [lay]
      exact hk61 _ _ ⟨true, _, _, _, _, _, _, _, _, _, _, _, _, _, _, _, _, _, _, _, _, _, _, _, _, _, _, _, _, _, _, _, none18_iff.2 (by rw [hD, hEr]; omega), rfl, rfl⟩
     refine lv (.bool false) (by exact ex_gtr (by rfl) (by rfl) (by rfl) (decide_eq_false (by first|assumption|omega|decide))) ?_
     refine lv (.bool false) (by exact xp (b := true)) ?_
     refine lv (.bool false) (by exact xm) ?_
     refine lzn ?_
     simp only [lay]
     refine lzn ?_
     refine lzn ?_
     refine lzn ?_
     refine lzn ?_
     simp only [lay]
     refine lv (.bool false) (by exact xp (b := false)) ?_
     refine lv (.bool false) (by exact xm) ?_
     refine lzn ?_
     refine lzn ?_
     simp only [lay]
     refine lzn ?_
     refine lzn ?_
     refine lzn ?_
     refine lv (.bool false) (by exact xp (b := false)) ?_
     simp only [lay]
     refine lv (.bool false) (by exact xp (b := false)) ?_
     simp only [lay]
     exact hk61 _ _ ⟨false, _, _, _, _, _, _, _, _, _, _, _, _, _, _, _, _, _, _, _, _, _, _, _, _, _, _, _, _, _, _, _, (by cases hn : none18 l with | false => rfl | true => exfalso; have hx := none18_iff.1 hn; rw [hD, hEr] at hx; omega), rfl, rfl⟩
    refine lv (.bool false) (by exact yqn) ?_
    refine lv (.bool false) (by exact xp (b := true)) ?_
    refine lv (.bool false) (by exact xm) ?_
    refine lzn ?_
    simp only [lay]
    refine lzn ?_
    refine lzn ?_
    refine lzn ?_
    refine lv (.bool false) (by exact xp (b := false)) ?_
    simp only [lay]
    refine lv (.bool false) (by exact xm) ?_
    refine lzn ?_
    refine lzn ?_
    refine lzn ?_
    simp only [lay]
    refine lzn ?_
    refine lzn ?_
    refine lv (.bool false) (by exact xp (b := false)) ?_
    refine lv (.bool false) (by exact xm) ?_
    simp only [lay]
    refine lzn ?_
    refine lzn ?_
    refine lzn ?_
    refine lzn ?_
    simp only [lay]
    refine lzn ?_
    refine lv (.bool false) (by exact xp (b := false)) ?_
    refine lv (.bool false) (by exact xp (b := false)) ?_
    simp only [lay]
    exact hk61 _ _ ⟨false, _, _, _, _, _, _, _, _, _, _, _, _, _, _, _, _, _, _, _, _, _, _, _, _, _, _, _, _, _, _, _, (by cases hn : none18 l with | false => rfl | true => exfalso; have hx := none18_iff.1 hn; rw [hD, hEr] at hx; omega), rfl, rfl⟩
   refine lv (.bool false) (by exact yqn) ?_
   refine lv (.bool false) (by exact xm) ?_
   refine lzn ?_
   refine lzn ?_
   simp only [lay]
   refine lzn ?_
   refine lv (.bool false) (by exact xp (b := false)) ?_
   refine lv (.bool false) (by exact xm) ?_
   refine lzn ?_
   simp only [lay]
   refine lzn ?_
   refine lzn ?_
   refine lzn ?_
   refine lv (.bool false) (by exact xp (b := false)) ?_
   simp only [lay]
   refine lv (.bool false) (by exact xm) ?_
   refine lzn ?_
   refine lzn ?_
   refine lzn ?_
   simp only [lay]
   refine lzn ?_
   refine lzn ?_
   refine lv (.bool false) (by exact xp (b := false)) ?_
   refine lv (.bool false) (by exact xm) ?_
   simp only [lay]
   refine lzn ?_
   refine lzn ?_
   refine lzn ?_
   refine lzn ?_
   simp only [lay]
   refine lzn ?_
   refine lv (.bool false) (by exact xp (b := false)) ?_
   refine lv (.bool false) (by exact xp (b := false)) ?_
   simp only [lay]
   exact hk61 _ _ ⟨false, _, _, _, _, _, _, _, _, _, _, _, _, _, _, _, _, _, _, _, _, _, _, _, _, _, _, _, _, _, _, _, (by cases hn : none18 l with | false => rfl | true => exfalso; have hx := none18_iff.1 hn; rw [hD, hEr] at hx; omega), rfl, rfl⟩
  rintro _ _ ⟨b60, x29, x30, x31, x32, x33, x34, x35, x36, x37, x38, x39, x40, x41, x42, x43, x44, x45, x46, x47, x48, x49, x50, x51, x52, x53, x54, x55, x56, x57, x58, x59, hnn, rfl, rfl⟩
  simp only [List.drop_succ_cons, List.drop_zero]
  cases b60
  case false =>
   refine wn ?_
   refine cF9 ?_
   refine wp_skip ?_
   change Code.wp _ _ _ _ _
   refine wp_seq ?_
   refine wp_sr ?_
   refine lv (.agg (D.cells p11)) (by exact xo (hg24.load (P := Try.prog) 28 Try.underlying28 rfl (by kernel_rfl))) ?_
   simp only [lay]
   have l78 : W9.heap.size ≤ g16 := Nat.le_of_eq ge19.symm
   have b79 := hb21.trans (hb26.mono l78)
   have rd80 := hr14.to b79
   refine lz (ow_call (fun v w' => v = .bool (routed18 D.hs) ∧ Below W23.heap.size W23 w') (by exact xk Try.func37) ((rrouted18_any D _ W23 rd80 hokh).mono (by rintro e w' ⟨⟨q, rfl, hq⟩, hb⟩; exact ⟨_, rfl, by rw [hq.out], hb⟩)) ?_)
   rintro _ W81 ⟨rfl, hb82⟩
   have z83 := hb82.size
   simp only [lay]
   refine wn ?_
   by_cases q84 : (routed18 D.hs) = true
   case pos =>
    rw [q84]
    refine cT9 ?_
    refine wp_sr ?_
    refine lv (.slice none 0 0) (by exact xa) ?_
    refine lv (.int .i64 170) (by exact xa) ?_
    simp only [lay]
    refine wn ?_
    refine wp_ret ?_
    try simp only [Exit.then]
    have e := inside18_route (s := s) (t := t) hnn (by rw [hD]; assumption)
    have b85 := bt hb6 hb10
    exact bodyPost_ret (res_tt Try.results17 rfl rfl) rfl ⟨TwoR.ok e (OwnB.nil _ _), (bt ((bt b85 hb21).trans (hb26.mono (lq b85 ge19))) hb82)⟩
   replace q84 := eq_false_of_ne_true q84
   rw [q84]
   refine cF9 ?_
   refine wp_skip ?_
   change Code.wp _ _ _ _ _
   refine wp_seq ?_
   refine wp_sr ?_
   refine lv (pq9 g16 40) (by exact xf 40 0 Try.underlying28) ?_
   simp only [lay]
   have has90 := hg24.to hb82
   refine lv (.int .u8 D.pro) (by exact xc Try.underlying5 (has90.cell 40 rfl)) ?_
   simp only [lay]
   refine lz (ow_same (.bool (wrong18 D.pro)) (by exact xk Try.func38) (rwrong18_any D.pro W81) ?_)
   simp only [lay]
   refine wn ?_
   by_cases q91 : wrong18 D.pro = true
   case pos =>
    rw [q91]
    refine cT9 ?_
    refine wp_sr ?_
    refine lv (.slice none 0 0) (by exact xa) ?_
    refine lv (.int .i64 171) (by exact xa) ?_
    simp only [lay]
    refine wn ?_
    refine wp_ret ?_
    try simp only [Exit.then]
    have e := inside18_wrong (s := s) (t := t) hnn (by rw [hD]; assumption) (by rw [hD]; assumption)
    have b92 := bt hb6 hb10
    exact bodyPost_ret (res_tt Try.results17 rfl rfl) rfl ⟨TwoR.ok e (OwnB.nil _ _), (bt ((bt b92 hb21).trans (hb26.mono (lq b92 ge19))) hb82)⟩
   replace q91 := eq_false_of_ne_true q91
   rw [q91]
   refine cF9 ?_
   refine wp_skip ?_
   change Code.wp _ _ _ _ _
   refine wp_sr ?_
   refine lv (.slice A n c) (by exact xm) ?_
   refine lv (.int .i64 (n : Int)) (by exact xz Try.underlying26) ?_
   refine lv (pq9 g16 41) (by exact xf 41 0 Try.underlying28) ?_
   refine lv (.slice p11.bA D.bl.length p11.bc) (by exact xc Try.underlying26 (has90.cell 41 rfl)) ?_
   simp only [lay]
   refine lv (.int .i64 (D.bl.length : Int)) (by exact xz Try.underlying26) ?_
   refine lv (.int .i64 ((n : Int) - (D.bl.length : Int))) (by exact xb (b_sub _ ((n : Int) - (D.bl.length : Int)) rfl (by omega) _)) ?_
   refine lv (.int .i64 ((n : Int) - (D.bl.length : Int) - 40)) (by exact xb (b_sub _ ((n : Int) - (D.bl.length : Int) - 40) rfl (by omega) _)) ?_
   refine lv (.int .i64 ((n : Int) - (D.bl.length : Int) - 40)) (by exact xa) ?_
   simp only [lay]
   refine wn ?_
   refine wp_seq ?_
   refine rg_drawn W81.heap.size (by kernel_rfl) (Nat.le_refl _) ?_
   intro W97 hb98 hs99 hS100
   have z101 := hb98.size
   refine te 0 (.slice A n c) hS100 rfl (by intro _ _; exact xm) ?_
   simp only [lay]
   obtain ⟨b102, o103, hA104⟩ := y.form (k := 4) (by omega)
   refine te 1 (pq9 b102 (o103 + 4)) hS100 rfl (by intro _ _; exact xi 4 Try.underlying26 hA104) ?_
   simp only [lay]
   have b105 := bt hb6 hb10
   have b109 := bt ((bt b105 hb21).trans (hb26.mono (lq b105 ge19))) hb82
   have by110 := y.to b109
   refine te 2 (.int .u8 (l.getD 4 0)) hS100 rfl (by intro _ h; exact xc Try.underlying5 ((by110.to h).atE (k := 4) hA104 (by omega))) ?_
   refine te 3 (.int .i64 (l.getD 4 0)) hS100 rfl (by intro _ _; exact xv (conv_i64 5 3 .u8 (l.getD 4 0) (by kernel_rfl) Try.underlying3 (in_rng6 (getD_byte y.rng 4)) _)) ?_
   refine te 4 (.int .i64 ((l.getD 4 0) * 256)) hS100 rfl (by intro _ _; exact xb (w_shl64 _ _ (getD_byte y.rng 4) _)) ?_
   refine te 5 (.slice A n c) hS100 rfl (by intro _ _; exact xm) ?_
   simp only [lay]
   refine te 6 (pq9 b102 (o103 + 5)) hS100 rfl (by intro _ _; exact xi 5 Try.underlying26 hA104) ?_
   refine te 7 (.int .u8 (l.getD 5 0)) hS100 rfl (by intro _ h; exact xc Try.underlying5 ((by110.to h).atE (k := 5) hA104 (by omega))) ?_
   refine te 8 (.int .i64 (l.getD 5 0)) hS100 rfl (by intro _ _; exact xv (conv_i64 5 3 .u8 (l.getD 5 0) (by kernel_rfl) Try.underlying3 (in_rng6 (getD_byte y.rng 5)) _)) ?_
   refine te 9 (.int .i64 ((l.getD 4 0) * 256 + l.getD 5 0)) hS100 rfl (by intro _ _; exact xb (b_add _ ((l.getD 4 0) * 256 + l.getD 5 0) rfl (by have := (getD_byte y.rng 4); have := (getD_byte y.rng 5); omega) _)) ?_
   simp only [lay]
   refine te 10 (.int .i64 ((n : Int) - (D.bl.length : Int) - 40)) hS100 rfl (by intro _ _; exact xm) ?_
   simp only [lay]
   have hsdR : l.getD 4 0 * 256 + l.getD 5 0 - ((n : Int) - (D.bl.length : Int) - 40) = SD := by have := hsdE; unfold two17 at this; simp only [Nat.reduceAdd] at this; omega
   refine te 11 (.int .i64 SD) hS100 rfl (by intro _ _; exact xb (b_sub _ SD hsdR (by omega) _)) ?_
   refine te 12 (.int .i64 SD) hS100 rfl (by intro _ _; exact xa) ?_
   simp only [lay]
   refine wpAnyH_done (by kernel_rfl) ?_ _
   change Code.wp _ _ _ _ _
   refine wp_sr ?_
   have b111 := bt hb82 hb98
   refine lv (.agg (D.cells p11)) (by exact xo ((hg24.to b111).load (P := Try.prog) 28 Try.underlying28 rfl (by kernel_rfl))) ?_
   simp only [lay]
   have b117 := bt (bt ((bt hb10 hb21).trans (hb26.mono (lq hb10 ge19))) hb82) hb98
   refine lv (.agg (e4c s t)) (by exact xo ((hg3.to b117).load (P := Try.prog) 32 Try.underlying32 rfl (by kernel_rfl))) ?_
   simp only [lay]
   refine lz (ow_call (fun v w' => v = .agg ((head18 D s t []).cells (pB4 none 0)) ∧ Below W97.heap.size W97 w') (by exact xk Try.func41) ((rheader18_any D ho12.ok _ s t [] none 0 W97).mono fun e w' h => ⟨_, h.1, rfl, h.2⟩) ?_)
   rintro _ W119 ⟨rfl, hb120⟩
   have z121 := hb120.size
   simp only [lay]
   refine lz (ow_call (fun v w' => OwnB w' W119.heap.size v ((head18 D s t []).first 0) ∧ Below W119.heap.size W119 w') (by exact xk Try.func56) (rhead4_x (w := W119) (head18_rd0 ho12.ok hE) hch rfl) ?_)
   rintro v124 W122 ⟨hO125, hb123⟩
   have z126 := hb123.size
   obtain ⟨A127, c128, rfl, y129⟩ := hO125.by_
   have hfl : ((head18 D s t []).first 0).length = 20 := rfl
   simp only [lay]
   refine lv (.slice A127 (((head18 D s t []).first 0).length) c128) (by exact xa) ?_
   simp only [lay]
   refine wn ?_
   refine wp_sr ?_
   refine lv (.int .i64 SD) (by exact xm) ?_
   refine lv (.int .i64 (SD + 20)) (by exact xb (b_add _ (SD + 20) rfl (by omega) _)) ?_
   simp only [lay]
   obtain ⟨NN, hNN⟩ : ∃ NN, min (SD + 20) 65535 = NN := ⟨_, rfl⟩
   have hN2 : 0 ≤ NN ∧ NN < 65536 := by omega
   refine lv (.int .i64 NN) (by exact ex_min (r := NN) (by rfl) (by rfl) (by rfl) (by split <;> omega)) ?_
   refine lv (.int .i64 NN) (by exact xa) ?_
   simp only [lay]
   refine wn ?_
   refine wp_sr ?_
   refine lv (.slice A127 (((head18 D s t []).first 0).length) c128) (by exact xm) ?_
   refine lv (.slice A127 (((head18 D s t []).first 0).length) c128) (by exact xm) ?_
   refine lv (.int .i64 NN) (by exact xm) ?_
   refine lv (.int .i64 (NN / 256)) (by exact xb (shr8_i64 _ _ _)) ?_
   simp only [lay]
   refine lv (.int .u8 (NN / 256)) (by exact xv (conv_u8' 3 5 .i64 (NN / 256) (by kernel_rfl) Try.underlying5 (by omega) _)) ?_
   refine lv (.int .i64 NN) (by exact xm) ?_
   refine lv (.int .u8 (NN % 256)) (by exact xv (conv_u8 3 5 .i64 NN (by kernel_rfl) Try.underlying5 _)) ?_
   simp only [lay]
   obtain ⟨g130, rfl, h131, h132⟩ := own_form hO125 (by first|omega|(simp only [List.length_append]; omega) | simp [D4.src])
   refine lv (pq9 g130 (0 + 2)) (by exact ex_index (k := 2) (by rfl) Try.underlying26 (by kernel_rfl) (by rfl) (by rfl) (show 2 < ((head18 D s t []).first 0).length by omega)) ?_
   simp only [lay]
   refine lz (ow_stB 5 (.tmp 90) (.tmp 87) g130 _ W119.heap.size (((head18 D s t []).first 0).length) c128 (NN / 256) _ rfl (by rfl) (by rfl) (by kernel_rfl) hO125 (by omega) (own_len hO125) (by omega) ?_)
   intro W133 hO134 bs135 hb136
   have z137 := hb136.size
   simp only [lay]
   refine lv (pq9 g130 (0 + 3)) (by exact ex_index (k := 3) (by rfl) Try.underlying26 (by kernel_rfl) (by rfl) (by rfl) (show 3 < ((head18 D s t []).first 0).length by omega)) ?_
   simp only [lay]
   refine lz (ow_stB 5 (.tmp 91) (.tmp 89) g130 _ W119.heap.size (((head18 D s t []).first 0).length) c128 (NN % 256) _ rfl (by rfl) (by rfl) (by kernel_rfl) hO134 (by omega) (own_len hO134) (by omega) ?_)
   intro W138 hO139 bs140 hb141
   have z142 := hb141.size
   simp only [lay]
   refine wn ?_
   refine wp_sr ?_
   refine lv (sq9 g130 0 (((head18 D s t []).first 0).length) c128) (by exact xm) ?_
   simp only [lay]
   refine lz (ow_build [sq9 g130 0 (((head18 D s t []).first 0).length) c128] rfl Try.underlying100 (by kernel_rfl) (by kernel_rfl) rfl (by decide) (by decide) (by first|rfl|(simp only [List.map_toArray, List.map_cons, List.map_nil] <;> rfl)) (by simp [Value.cells]) ?_)
   intro g143 W144 hg145 ge146 sz147 hb148
   have z149 := hb148.size
   simp only [lay]
   refine lz (ow_call (fun v w' => (∃ q, v = .int .u16 q ∧ q = 65535 - sumw ((((head18 D s t []).first 0).set (0 + 2) (NN / 256)).set (0 + 3) (NN % 256)) ∧ 0 ≤ q ∧ q < 65536) ∧ Below W144.heap.size W144 w') (by exact xk Try.func57) (rof1 hg145 (own_byS (hO139.to hb148)) (by omega)) ?_)
   rintro _ W151 ⟨⟨q153, rfl, hq154, q0155, q1156⟩, hb152⟩
   have z157 := hb152.size
   simp only [lay]
   refine lv (.int .u16 q153) (by exact xa) ?_
   simp only [lay]
   refine wn ?_
   refine wp_sr ?_
   refine lv (sq9 g130 0 (((head18 D s t []).first 0).length) c128) (by exact xm) ?_
   refine lv (sq9 g130 0 (((head18 D s t []).first 0).length) c128) (by exact xm) ?_
   refine lv (.int .u16 q153) (by exact xm) ?_
   refine lv (.int .u16 (q153 / 256)) (by exact xb (w_shr16 _ _ _)) ?_
   simp only [lay]
   refine lv (.int .u8 (q153 / 256)) (by exact xv (conv_u8' 33 5 .u16 (q153 / 256) (by kernel_rfl) Try.underlying5 (by omega) _)) ?_
   refine lv (.int .u16 q153) (by exact xm) ?_
   refine lv (.int .u8 (q153 % 256)) (by exact xv (conv_u8 33 5 .u16 q153 (by kernel_rfl) Try.underlying5 _)) ?_
   refine lv (pq9 g130 (0 + 10)) (by exact ex_index (k := 10) (by rfl) Try.underlying26 (by kernel_rfl) (by rfl) (by rfl) (show 10 < ((head18 D s t []).first 0).length by omega)) ?_
   simp only [lay]
   have own163 := hO139.to (bt hb148 hb152)
   refine lz (ow_stB 5 (.tmp 102) (.tmp 99) g130 _ W119.heap.size (((head18 D s t []).first 0).length) c128 (q153 / 256) _ rfl (by rfl) (by rfl) (by kernel_rfl) own163 (by omega) (own_len own163) (by omega) ?_)
   intro W158 hO159 bs160 hb161
   have z165 := hb161.size
   simp only [lay]
   refine lv (pq9 g130 (0 + 11)) (by exact ex_index (k := 11) (by rfl) Try.underlying26 (by kernel_rfl) (by rfl) (by rfl) (show 11 < ((head18 D s t []).first 0).length by omega)) ?_
   simp only [lay]
   refine lz (ow_stB 5 (.tmp 103) (.tmp 101) g130 _ W119.heap.size (((head18 D s t []).first 0).length) c128 (q153 % 256) _ rfl (by rfl) (by rfl) (by kernel_rfl) hO159 (by omega) (own_len hO159) (by omega) ?_)
   intro W167 hO168 bs169 hb170
   have z171 := hb170.size
   have has172 := ((hg145.to hb152).but6 bs160 (by omega)).but6 bs169 (by omega)
   simp only [lay]
   refine wn ?_
   refine wp_sr ?_
   refine lv (sq9 g130 0 (((head18 D s t []).first 0).length) c128) (by exact xm) ?_
   simp only [lay]
   have b173 := bt b111 hb120
   have l175 := Nat.le_trans b173.size h131
   refine lv (.agg (D.cells p11)) (by exact xo ((hg24.to (((bt (bt (((bt b173 hb123).trans (hb136.mono l175)).trans (hb141.mono l175)) hb148) hb152).trans (hb161.mono l175)).trans (hb170.mono l175))).load (P := Try.prog) 28 Try.underlying28 rfl (by kernel_rfl))) ?_
   simp only [lay]
   have b183 := bt b117 hb120
   have l185 := Nat.le_trans b183.size h131
   refine lv (.agg (e4c s t)) (by exact xo ((hg3.to (((bt (bt (((bt b183 hb123).trans (hb136.mono l185)).trans (hb141.mono l185)) hb148) hb152).trans (hb161.mono l185)).trans (hb170.mono l185))).load (P := Try.prog) 32 Try.underlying32 rfl (by kernel_rfl))) ?_
   refine lv (.int .i64 SD) (by exact xm) ?_
   simp only [lay]
   have b195 := bt (bt (bt b79 hb82) hb98) hb120
   have l197 := Nat.le_trans b195.size h131
   have rd204 := hr14.to (((bt (bt (((bt b195 hb123).trans (hb136.mono l197)).trans (hb141.mono l197)) hb148) hb152).trans (hb161.mono l197)).trans (hb170.mono l197))
   refine lz (ow_call (fun v w' => OwnB w' W167.heap.size v (told18 D s t SD) ∧ Below W167.heap.size W167 w') (by exact xk Try.func58) (rtold18_any _ _ _ _ hE SD (by omega) W167 rd204 hbl) ?_)
   rintro v207 W205 ⟨hO208, hb206⟩
   have z209 := hb206.size
   obtain ⟨A210, c211, rfl, y212⟩ := hO208.by_
   simp only [lay]
   refine lz (ow_app (.tmp 104) (.tmp 108) 26 rfl Try.underlying26 info8 _ _ ((((((head18 D s t []).first 0).set (0 + 2) (NN / 256)).set (0 + 3) (NN % 256)).set (0 + 10) (q153 / 256)).set (0 + 11) (q153 % 256)) rfl (hO168.to hb206) _ _ _ _ (told18 D s t SD) rfl (own_byS hO208) (by simp only [List.length_set]; have := told18_len D s t SD; omega) (bt (((bt (bt ((hb123.trans (hb136.mono h131)).trans (hb141.mono h131)) hb148) hb152).trans (hb161.mono h131)).trans (hb170.mono h131)) hb206).size ?_)
   intro v217 W213 hO214 hb215 hgr216
   have z226 := hb215.size
   obtain ⟨A227, c228, rfl, y229⟩ := hO214.by_
   simp only [lay]
   refine lv (.slice A227 (((((((head18 D s t []).first 0).set (0 + 2) (NN / 256)).set (0 + 3) (NN % 256)).set (0 + 10) (q153 / 256)).set (0 + 11) (q153 % 256) ++ (told18 D s t SD)).length) c228) (by exact xa) ?_
   refine lv (.int .i64 0) (by exact xa) ?_
   simp only [lay]
   refine wn ?_
   refine wp_ret ?_
   try simp only [Exit.then]
   have e : inside18 l s t = ((((((head18 D s t []).first 0).set (0 + 2) (NN / 256)).set (0 + 3) (NN % 256)).set (0 + 10) (q153 / 256)).set (0 + 11) (q153 % 256) ++ (told18 D s t SD), 0) := by
    rw [inside18_ok hD hnn (by assumption) (by assumption), hSD, hNN, sum18, sum18_zero]
    simp only [Nat.zero_add] at hq154
    rw [show put17 ((head18 D s t []).first 0) 2 NN = (((head18 D s t []).first 0).set 2 (NN / 256)).set 3 (NN % 256) from rfl, ← hq154]
    rfl
   have b231 := bt (bt b109 hb98) hb120
   have l233 := Nat.le_trans b231.size h131
   have b242 := (bt (((bt (bt (((bt b231 hb123).trans (hb136.mono l233)).trans (hb141.mono l233)) hb148) hb152).trans (hb161.mono l233)).trans (hb170.mono l233)) hb206).trans (hb215.mono (Nat.le_trans b231.size (Nat.le_refl _)))
   exact bodyPost_ret (res_tt Try.results17 rfl rfl) rfl ⟨TwoR.ok e (hO214.more b231.size), b242⟩
  refine wn ?_
  refine cT9 ?_
  refine wp_sr ?_
  refine lv (.slice none 0 0) (by exact xa) ?_
  refine lv (.int .i64 176) (by exact xa) ?_
  simp only [lay]
  refine wn ?_
  refine wp_ret ?_
  try simp only [Exit.then]
  have e := inside18_none (s := s) (t := t) (l := l) hnn
  have b243 := bt hb6 hb10
  exact bodyPost_ret (res_tt Try.results17 rfl rfl) rfl ⟨TwoR.ok e (OwnB.nil _ _), ((bt b243 hb21).trans (hb26.mono (lq b243 ge19)))⟩
 refine lv (.int .i64 E) (by exact xm) ?_
 refine lv (.bool true) (by exact neq_int_ne (by rfl) (by rfl) (by rfl) (by first|assumption|omega)) ?_
 refine lv (.bool true) (by exact xm) ?_
 refine lzn ?_
 simp only [lay]
 refine lzn ?_
 refine lzn ?_
 refine lzn ?_
 refine lzn ?_
 simp only [lay]
 refine lzn ?_
 refine lzn ?_
 refine lzn ?_
 refine lzn ?_
 simp only [lay]
 refine lzn ?_
 refine lzn ?_
 refine lzn ?_
 refine lzn ?_
 simp only [lay]
 refine lzn ?_
 refine lzn ?_
 refine lzn ?_
 refine lzn ?_
 simp only [lay]
 refine lzn ?_
 refine lzn ?_
 refine lzn ?_
 refine lzn ?_
 simp only [lay]
 refine lzn ?_
 refine lzn ?_
 refine lzn ?_
 refine lzn ?_
 simp only [lay]
 refine lzn ?_
 refine lzn ?_
 refine lzn ?_
 refine lv (.bool true) (by exact xp (b := true)) ?_
 simp only [lay]
 refine wn ?_
 refine cT9 ?_
 refine wp_sr ?_
 refine lv (.slice none 0 0) (by exact xa) ?_
 refine lv (.int .i64 176) (by exact xa) ?_
 simp only [lay]
 refine wn ?_
 refine wp_ret ?_
 try simp only [Exit.then]
 have e := inside18_none (s := s) (t := t) (l := l) (none18_iff.2 (by rw [hEr]; omega))
 have b248 := bt hb6 hb10
 exact bodyPost_ret (res_tt Try.results17 rfl rfl) rfl ⟨TwoR.ok e (OwnB.nil _ _), ((bt b248 hb21).trans (hb26.mono (lq b248 ge19)))⟩
end Go.Proofs.Ytjnphelfloiadaa
