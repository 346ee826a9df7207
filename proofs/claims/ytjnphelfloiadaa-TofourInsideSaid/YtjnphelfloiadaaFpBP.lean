/-
  Lemmas and walks for the row of TofourPackets,TofourMessages,TofourInside (part 42 of 42).
-/
import Derived.Test.YtjnphelfloiadaaFpAC
import Derived.Test.YtjnphelfloiadaaFpAD
import Derived.Test.YtjnphelfloiadaaFpAG
import Derived.Test.YtjnphelfloiadaaFpAL
import Derived.Test.YtjnphelfloiadaaFpBA
import Derived.Test.YtjnphelfloiadaaFpBO
set_option linter.unusedVariables false
set_option linter.unusedSimpArgs false
namespace Go.Proofs.Ytjnphelfloiadaa
open Go.RowKit Go.Shelf
attribute [local irreducible] wpList Code.wp Oper.wp wpOp wpAnyH

theorem By.takeL {B : Nat} {w : World} {A : Option Addr} {c : Nat} {l : List Int} (h : By B w A l.length c l) (k : Nat) : By B w A (l.take k).length c (l.take k) := by
 by_cases hk : k ≤ l.length
 ·rw [show (l.take k).length = k by rw [List.length_take]; omega]
  exact h.take hk
 ·rw [List.take_of_length_le (by omega)]
  exact h
def cutm18 (m : D7) : D7 := ⟨m.ty, m.code, m.rest, m.bl.take 70000⟩

set_option maxRecDepth 100000 in
set_option maxHeartbeats 4000000 in
theorem packets18_walk (d : D6) (p : W6) (s t s' t' : List Int) (w : World) (hR : Rd6 w.heap.size w d p) (hE : E4ok s t) (hE' : E4ok s' t') :
  Calls Try.prog 3 #[.agg (d.cells p), .agg (e4c s t), .agg (e4c s' t')] w fun e w' => e = .returned (.bool true) ∧ Below w.heap.size w w' := by
 obtain ⟨PD, hPD⟩ : ∃ x, (pack18 d s t s' t').1 = x := ⟨_, rfl⟩
 obtain ⟨PE, hPE⟩ : ∃ x, (pack18 d s t s' t').2 = x := ⟨_, rfl⟩
 have yb6 := hR.body
 have hlb := yb6.len
 go_enter Try.func3, Try.ntmps3
 refine wp_sr ?_
 refine lz (ow_box 28 (.tmp 0) _ rfl rfl ?_)
 intro g1 W2 hg3 ge4 sz5 hb6
 have z7 := hb6.size
 simp only [lay]
 refine lz (ow_box 32 (.tmp 1) _ rfl rfl ?_)
 intro g8 W9 hg10 ge11 sz12 hb13
 have z14 := hb13.size
 simp only [lay]
 refine lz (ow_box 32 (.tmp 2) _ rfl rfl ?_)
 intro g15 W16 hg17 ge18 sz19 hb20
 have z21 := hb20.size
 simp only [lay]
 refine lv (.bool false) (by exact xa) ?_
 simp only [lay]
 refine wn ?_
 refine wp_sr ?_
 have b22 := bt hb13 hb20
 refine lv (.agg (d.cells p)) (by exact xo ((hg3.to b22).load (P := Try.prog) 28 Try.underlying28 rfl (by kernel_rfl))) ?_
 simp only [lay]
 refine lv (.agg (e4c s t)) (by exact xo ((hg10.to hb20).load (P := Try.prog) 32 Try.underlying32 rfl (by kernel_rfl))) ?_
 refine lv (.agg (e4c s' t')) (by exact xo (hg17.load (P := Try.prog) 32 Try.underlying32 rfl (by kernel_rfl))) ?_
 simp only [lay]
 have b26 := bt (bt hb6 hb13) hb20
 have rd27 := hR.to b26
 refine lz (ow_call (fun v w' => (∃ q, v = .tuple #[.agg (PD.cells q), .int .i64 PE] ∧ Own4 w' W16.heap.size PD q) ∧ Below W16.heap.size W16 w') (by exact xk Try.func9) ((pack18_any d p s t s' t' hE hE' W16 rd27).mono (by rintro e w' ⟨⟨q, rfl, ho⟩, hb⟩; rw [hPD] at ho; exact ⟨_, rfl, ⟨q, by rw [hPD, hPE], ho⟩, hb⟩)) ?_)
 rintro _ W28 ⟨⟨p30, rfl, ho31⟩, hb29⟩
 have z32 := hb29.size
 have hO33 := ho31.opt
 have hO34 := ho31.body
 simp only [lay]
 refine lv (.tuple #[.agg (PD.cells p30), .int .i64 PE]) (by exact xm) ?_
 refine lv (.agg (PD.cells p30)) (by exact xe) ?_
 refine lv (.int .i64 PE) (by exact xe) ?_
 simp only [lay]
 refine lz (oa (v17 0 0 false false 0 0 0 [] [] (.slice none 0 0) (.slice none 0 0)) ?_)
 intro g35 W36 hg37 ge38 sz39 hb40
 have z41 := hb40.size
 simp only [lay]
 refine lz (ow_st 35 (.tmp 7) (.tmp 16) g35 (PD.cells p30) _ _ rfl (by rfl) (by rfl) hg37 (by kernel_rfl) rfl (by kernel_rfl) ?_)
 intro W42 hg43 bs44 hb45
 have z46 := hb45.size
 simp only [lay]
 refine lv (.int .i64 PE) (by exact xa) ?_
 simp only [lay]
 refine wn ?_
 refine wp_sr ?_
 have b47 := bt b22 hb29
 refine lv (.agg (d.cells p)) (by exact xo ((hg3.to ((bt b47 hb40).trans (hb45.mono (lq b47 ge38)))).load (P := Try.prog) 28 Try.underlying28 rfl (by kernel_rfl))) ?_
 simp only [lay]
 have b52 := bt hb20 hb29
 refine lv (.agg (e4c s t)) (by exact xo ((hg10.to ((bt b52 hb40).trans (hb45.mono (lq b52 ge38)))).load (P := Try.prog) 32 Try.underlying32 rfl (by kernel_rfl))) ?_
 simp only [lay]
 refine lv (.agg (e4c s' t')) (by exact xo ((hg17.to ((bt hb29 hb40).trans (hb45.mono (lq hb29 ge38)))).load (P := Try.prog) 32 Try.underlying32 rfl (by kernel_rfl))) ?_
 simp only [lay]
 have b61 := bt b26 hb29
 have b64 := (bt b61 hb40).trans (hb45.mono (lq b61 ge38))
 have rd65 := hR.to b64
 refine lz (ow_call (fun v w' => (∃ q, v = .tuple #[.agg (PD.cells q), .int .i64 PE] ∧ Own4 w' W42.heap.size PD q) ∧ Below W42.heap.size W42 w') (by exact xk Try.func10) ((rpack18_any d p s t s' t' hE hE' W42 rd65).mono (by rintro e w' ⟨⟨q, rfl, ho⟩, hb⟩; rw [hPD] at ho; exact ⟨_, rfl, ⟨q, by rw [hPD, hPE], ho⟩, hb⟩)) ?_)
 rintro _ W66 ⟨⟨p68, rfl, ho69⟩, hb67⟩
 have z70 := hb67.size
 have hO71 := ho69.opt
 have hO72 := ho69.body
 simp only [lay]
 refine lv (.tuple #[.agg (PD.cells p68), .int .i64 PE]) (by exact xm) ?_
 refine lv (.agg (PD.cells p68)) (by exact xe) ?_
 refine lv (.int .i64 PE) (by exact xe) ?_
 simp only [lay]
 refine lz (oa (v17 0 0 false false 0 0 0 [] [] (.slice none 0 0) (.slice none 0 0)) ?_)
 intro g73 W74 hg75 ge76 sz77 hb78
 have z79 := hb78.size
 simp only [lay]
 refine lz (ow_st 35 (.tmp 9) (.tmp 23) g73 (PD.cells p68) _ _ rfl (by rfl) (by rfl) hg75 (by kernel_rfl) rfl (by kernel_rfl) ?_)
 intro W80 hg81 bs82 hb83
 have z84 := hb83.size
 simp only [lay]
 refine lv (.int .i64 PE) (by exact xa) ?_
 simp only [lay]
 refine wn ?_
 refine wp_sr ?_
 refine lv (.agg (PD.cells p30)) (by exact xo ((hg43.to ((bt hb67 hb78).trans (hb83.mono (lq hb67 ge76)))).load (P := Try.prog) 35 Try.underlying35 rfl (by kernel_rfl))) ?_
 refine lv (.agg (PD.cells p68)) (by exact xo (hg81.load (P := Try.prog) 35 Try.underlying35 rfl (by kernel_rfl))) ?_
 simp only [lay]
 have l89 : W28.heap.size ≤ g35 := Nat.le_of_eq ge38.symm
 have b91 := bt (hb40.trans (hb45.mono l89)) hb67
 have own495 := ho31.to ((bt b91 hb78).trans (hb83.mono (lq b91 ge76)))
 have l96 : W66.heap.size ≤ g73 := Nat.le_of_eq ge76.symm
 have own498 := ho69.to (hb78.trans (hb83.mono l96))
 refine lz (ow_call (fun v w' => v = .bool true ∧ Below W80.heap.size W80 w') (by exact xk Try.func11) ((rsame4_any _ _ PD PD p30 p68 W80 (own_byS own495.opt) (own_byS own498.opt) (own_byS own495.body) (own_byS own498.body) (Nat.le_refl _) (Nat.le_refl _)).mono (by rintro e w' ⟨q, rfl, hq, hb⟩; obtain rfl : q = true := hq.out.trans (by simp [same4]); exact ⟨_, rfl, rfl, hb⟩)) ?_)
 rintro _ W99 ⟨rfl, hb100⟩
 have z101 := hb100.size
 simp only [lay]
 refine lv (.bool true) (by exact xm) ?_
 refine lv (.int .i64 PE) (by exact xm) ?_
 refine lv (.int .i64 PE) (by exact xm) ?_
 refine lv (.bool true) (by exact yq (h := rfl)) ?_
 simp only [lay]
 refine lv (.bool true) (by exact xp (b := true)) ?_
 refine lv (.bool true) (by exact xm) ?_
 simp only [lay]
 refine lz (ow_call (fun v w' => v = .bool true ∧ Below W99.heap.size W99 w') (by exact xk Try.func12) ((awake18_any W99).mono fun e w' h => ⟨_, h.1, rfl, h.2⟩) ?_)
 rintro _ W102 ⟨rfl, hb103⟩
 have z104 := hb103.size
 simp only [lay]
 refine lv (.bool true) (by exact xp (b := true)) ?_
 refine lv (.bool true) (by exact xa) ?_
 simp only [lay]
 refine wn ?_
 refine wp_ret ?_
 try simp only [Exit.then]
 have b105 := bt b64 hb67
 exact bodyPost_ret (res_one Try.results3 rfl) rfl ⟨rfl, (bt (bt ((bt b105 hb78).trans (hb83.mono (lq b105 ge76))) hb100) hb103)⟩
set_option maxRecDepth 100000 in
set_option maxHeartbeats 4000000 in
theorem messages18_walk (m : D7) (A : Option Addr) (c : Nat) (s t : List Int) (w : World) (hR : Rd7 w.heap.size w m A c) (hE : E4ok s t) :
  Calls Try.prog 4 #[.agg (m.cells A c), .agg (e4c s t)] w fun e w' => e = .returned (.bool true) ∧ Below w.heap.size w w' := by
 have y := hR.body
 go_enter Try.func4, Try.ntmps4
 refine wp_sr ?_
 refine lz (ow_box 43 (.tmp 0) _ rfl rfl ?_)
 intro g1 W2 hg3 ge4 sz5 hb6
 have z7 := hb6.size
 simp only [lay]
 refine lz (ow_box 32 (.tmp 1) _ rfl rfl ?_)
 intro g8 W9 hg10 ge11 sz12 hb13
 have z14 := hb13.size
 simp only [lay]
 refine lv (.bool false) (by exact xa) ?_
 simp only [lay]
 refine wn ?_
 refine wp_seq ?_
 refine wp_sr ?_
 refine lv (pq9 g1 3) (by exact xf 3 0 Try.underlying43) ?_
 simp only [lay]
 have has15 := hg3.to hb13
 refine lv (.slice A m.bl.length c) (by exact xc Try.underlying26 (has15.cell 3 rfl)) ?_
 refine lv (.int .i64 (m.bl.length : Int)) (by exact xz Try.underlying26) ?_
 simp only [lay]
 by_cases q16 : (m.bl.length : Int) > 70000
 case pos =>
  refine lv (.bool true) (by exact ex_gtr (by rfl) (by rfl) (by rfl) (decide_eq_true (by first|assumption|omega|decide))) ?_
  simp only [lay]
  refine wn ?_
  refine cT9 ?_
  refine wp_region_lit ?_
  refine lv (pq9 g1 3) (by exact xf 3 0 Try.underlying43) ?_
  refine lv (.slice A m.bl.length c) (by exact xc Try.underlying26 (has15.cell 3 rfl)) ?_
  simp only [lay]
  have b18 := bt hb6 hb13
  have by19 := y.to b18
  have y17 := by19.to_ (P := Try.prog) 26 Try.underlying26 (by kernel_rfl) (k := 70000) (by omega)
  refine lv (.slice A 70000 c) (by exact ex_slice (by rfl) (by rfl) (y17.1 _)) ?_
  refine lv (pq9 g1 3) (by exact xf 3 0 Try.underlying43) ?_
  simp only [lay]
  refine lz (ow_st1 26 (.tmp 16) (.tmp 15) g1 3 (.slice A 70000 c) _ #[.int .u8 m.ty, .int .u8 m.code, .int .u32 m.rest, .slice A 70000 c] _ rfl (by rfl) (by rfl) rfl (by kernel_rfl) has15 rfl rfl (by kernel_rfl) ?_)
  intro W20 hg21 bs22 hb23
  have z24 := hb23.size
  have has25 := hg10.but6 bs22 (by omega)
  simp only [lay]
  refine wn ?_
  refine wp_sr ?_
  refine lv (.agg #[.int .u8 m.ty, .int .u8 m.code, .int .u32 m.rest, .slice A 70000 c]) (by exact xo (hg21.load (P := Try.prog) 43 Try.underlying43 rfl (by kernel_rfl))) ?_
  refine lv (.agg (e4c s t)) (by exact xo (has25.load (P := Try.prog) 32 Try.underlying32 rfl (by kernel_rfl))) ?_
  simp only [lay]
  have hl : (m.bl.take 70000).length = 70000 := by rw [List.length_take]; omega
  have hcl : (cutm18 m).cells A c = #[.int .u8 m.ty, .int .u8 m.code, .int .u32 m.rest, .slice A 70000 c] := by
   show (#[.int .u8 m.ty, .int .u8 m.code, .int .u32 m.rest, .slice A (m.bl.take 70000).length c] : Array Value) = _
   rw [hl]
  have hR2 : Rd7 w.heap.size w (cutm18 m) A c := ⟨⟨hR.ok.ty, hR.ok.code, hR.ok.rest⟩, hR.body.takeL 70000⟩
  obtain ⟨MD, hMD⟩ : ∃ x, (msg18 (cutm18 m) s t).1 = x := ⟨_, rfl⟩
  obtain ⟨ME, hME⟩ : ∃ x, (msg18 (cutm18 m) s t).2 = x := ⟨_, rfl⟩
  have l26 : w.heap.size ≤ g1 := Nat.le_of_eq ge4.symm
  have b27 := b18.trans (hb23.mono l26)
  have rd28 := hR2.to b27
  refine lz (ow_call (fun v w' => (∃ A' c', v = .tuple #[.agg (MD.cells A' c'), .int .i64 ME] ∧ MD.ok ∧ OwnB w' W20.heap.size (.slice A' MD.bl.length c') MD.bl) ∧ Below W20.heap.size W20 w') (by exact xk Try.func13) (by have hz : Calls _ _ #[.agg ((cutm18 m).cells A c), .agg (e4c s t)] _ fun e w' => ∃ v, e = .returned v ∧ (fun v w' => (∃ A' c', v = .tuple #[.agg (MD.cells A' c'), .int .i64 ME] ∧ MD.ok ∧ OwnB w' W20.heap.size (.slice A' MD.bl.length c') MD.bl) ∧ Below W20.heap.size W20 w') v w' := (msg18_any (cutm18 m) A c s t hE W20 rd28).mono (by rintro e w' ⟨⟨A', c', rfl, hk, ho⟩, hb⟩; rw [hMD] at ho hk; exact ⟨_, rfl, ⟨A', c', by rw [hMD, hME], hk, ho⟩, hb⟩); rw [hcl] at hz; exact hz) ?_)
  rintro _ W29 ⟨⟨A31, c32, rfl, hk33, hO34⟩, hb30⟩
  have z35 := hb30.size
  simp only [lay]
  refine lv (.tuple #[.agg (MD.cells A31 c32), .int .i64 ME]) (by exact xm) ?_
  refine lv (.agg (MD.cells A31 c32)) (by exact xe) ?_
  refine lv (.int .i64 ME) (by exact xe) ?_
  simp only [lay]
  refine lz (oa #[.int .u8 0, .int .u8 0, .int .u32 0, .slice none 0 0] ?_)
  intro g36 W37 hg38 ge39 sz40 hb41
  have z42 := hb41.size
  simp only [lay]
  refine lz (ow_st 43 (.tmp 5) (.tmp 21) g36 (MD.cells A31 c32) _ _ rfl (by rfl) (by rfl) hg38 (by kernel_rfl) rfl (by kernel_rfl) ?_)
  intro W43 hg44 bs45 hb46
  have z47 := hb46.size
  simp only [lay]
  refine lv (.int .i64 ME) (by exact xa) ?_
  simp only [lay]
  refine wn ?_
  refine wp_sr ?_
  have b50 := (bt hb30 hb41).trans (hb46.mono (lq hb30 ge39))
  refine lv (.agg #[.int .u8 m.ty, .int .u8 m.code, .int .u32 m.rest, .slice A 70000 c]) (by exact xo ((hg21.to b50).load (P := Try.prog) 43 Try.underlying43 rfl (by kernel_rfl))) ?_
  simp only [lay]
  refine lv (.agg (e4c s t)) (by exact xo ((has25.to b50).load (P := Try.prog) 32 Try.underlying32 rfl (by kernel_rfl))) ?_
  simp only [lay]
  have b53 := bt b27 hb30
  have b56 := (bt b53 hb41).trans (hb46.mono (lq b53 ge39))
  have rd57 := hR2.to b56
  refine lz (ow_call (fun v w' => (∃ A' c', v = .tuple #[.agg (MD.cells A' c'), .int .i64 ME] ∧ MD.ok ∧ OwnB w' W43.heap.size (.slice A' MD.bl.length c') MD.bl) ∧ Below W43.heap.size W43 w') (by exact xk Try.func14) (by have hz : Calls _ _ #[.agg ((cutm18 m).cells A c), .agg (e4c s t)] _ fun e w' => ∃ v, e = .returned v ∧ (fun v w' => (∃ A' c', v = .tuple #[.agg (MD.cells A' c'), .int .i64 ME] ∧ MD.ok ∧ OwnB w' W43.heap.size (.slice A' MD.bl.length c') MD.bl) ∧ Below W43.heap.size W43 w') v w' := (rmsg18_any (cutm18 m) A c s t hE W43 rd57).mono (by rintro e w' ⟨⟨A', c', rfl, hk, ho⟩, hb⟩; rw [hMD] at ho hk; exact ⟨_, rfl, ⟨A', c', by rw [hMD, hME], hk, ho⟩, hb⟩); rw [hcl] at hz; exact hz) ?_)
  rintro _ W58 ⟨⟨A60, c61, rfl, hk62, hO63⟩, hb59⟩
  have z64 := hb59.size
  simp only [lay]
  refine lv (.tuple #[.agg (MD.cells A60 c61), .int .i64 ME]) (by exact xm) ?_
  refine lv (.agg (MD.cells A60 c61)) (by exact xe) ?_
  refine lv (.int .i64 ME) (by exact xe) ?_
  simp only [lay]
  refine lz (oa #[.int .u8 0, .int .u8 0, .int .u32 0, .slice none 0 0] ?_)
  intro g65 W66 hg67 ge68 sz69 hb70
  have z71 := hb70.size
  simp only [lay]
  refine lz (ow_st 43 (.tmp 7) (.tmp 27) g65 (MD.cells A60 c61) _ _ rfl (by rfl) (by rfl) hg67 (by kernel_rfl) rfl (by kernel_rfl) ?_)
  intro W72 hg73 bs74 hb75
  have z76 := hb75.size
  simp only [lay]
  refine lv (.int .i64 ME) (by exact xa) ?_
  simp only [lay]
  refine wn ?_
  refine wp_sr ?_
  refine lv (.agg (MD.cells A31 c32)) (by exact xo ((hg44.to ((bt hb59 hb70).trans (hb75.mono (lq hb59 ge68)))).load (P := Try.prog) 43 Try.underlying43 rfl (by kernel_rfl))) ?_
  refine lv (.agg (MD.cells A60 c61)) (by exact xo (hg73.load (P := Try.prog) 43 Try.underlying43 rfl (by kernel_rfl))) ?_
  simp only [lay]
  have l81 : W29.heap.size ≤ g36 := Nat.le_of_eq ge39.symm
  have b83 := bt (hb41.trans (hb46.mono l81)) hb59
  have l88 : W58.heap.size ≤ g65 := Nat.le_of_eq ge68.symm
  refine lz (ow_call (fun v w' => v = .bool true ∧ Below W72.heap.size W72 w') (by exact xk Try.func15) ((rsame_any _ _ MD MD A31 A60 c32 c61 W72 (own_byS (hO34.to ((bt b83 hb70).trans (hb75.mono (lq b83 ge68))))) (own_byS (hO63.to (hb70.trans (hb75.mono l88)))) (Nat.le_refl _) (Nat.le_refl _)).mono (by rintro e w' ⟨q, rfl, hq, hb⟩; obtain rfl : q = true := hq.out.trans (by simp [same7]); exact ⟨_, rfl, rfl, hb⟩)) ?_)
  rintro _ W91 ⟨rfl, hb92⟩
  have z93 := hb92.size
  simp only [lay]
  refine lv (.bool true) (by exact xm) ?_
  refine lv (.int .i64 ME) (by exact xm) ?_
  refine lv (.int .i64 ME) (by exact xm) ?_
  refine lv (.bool true) (by exact yq (h := rfl)) ?_
  simp only [lay]
  refine lv (.bool true) (by exact xp (b := true)) ?_
  refine lv (.bool true) (by exact xm) ?_
  simp only [lay]
  refine lz (ow_call (fun v w' => v = .bool true ∧ Below W91.heap.size W91 w') (by exact xk Try.func12) ((awake18_any W91).mono fun e w' h => ⟨_, h.1, rfl, h.2⟩) ?_)
  rintro _ W94 ⟨rfl, hb95⟩
  have z96 := hb95.size
  simp only [lay]
  refine lv (.bool true) (by exact xp (b := true)) ?_
  refine lv (.bool true) (by exact xa) ?_
  simp only [lay]
  refine wn ?_
  refine wp_ret ?_
  try simp only [Exit.then]
  have b97 := bt b56 hb59
  exact bodyPost_ret (res_one Try.results4 rfl) rfl ⟨rfl, (bt (bt ((bt b97 hb70).trans (hb75.mono (lq b97 ge68))) hb92) hb95)⟩
 refine lv (.bool false) (by exact ex_gtr (by rfl) (by rfl) (by rfl) (decide_eq_false (by first|assumption|omega|decide))) ?_
 simp only [lay]
 refine wn ?_
 refine cF9 ?_
 refine wp_skip ?_
 change Code.wp _ _ _ _ _
 refine wp_sr ?_
 refine lv (.agg (m.cells A c)) (by exact xo (has15.load (P := Try.prog) 43 Try.underlying43 rfl (by kernel_rfl))) ?_
 refine lv (.agg (e4c s t)) (by exact xo (hg10.load (P := Try.prog) 32 Try.underlying32 rfl (by kernel_rfl))) ?_
 simp only [lay]
 have hR2 := hR
 obtain ⟨MD, hMD⟩ : ∃ x, (msg18 m s t).1 = x := ⟨_, rfl⟩
 obtain ⟨ME, hME⟩ : ∃ x, (msg18 m s t).2 = x := ⟨_, rfl⟩
 have b103 := bt hb6 hb13
 have rd104 := hR2.to b103
 refine lz (ow_call (fun v w' => (∃ A' c', v = .tuple #[.agg (MD.cells A' c'), .int .i64 ME] ∧ MD.ok ∧ OwnB w' W9.heap.size (.slice A' MD.bl.length c') MD.bl) ∧ Below W9.heap.size W9 w') (by exact xk Try.func13) ((msg18_any m A c s t hE W9 rd104).mono (by rintro e w' ⟨⟨A', c', rfl, hk, ho⟩, hb⟩; rw [hMD] at ho hk; exact ⟨_, rfl, ⟨A', c', by rw [hMD, hME], hk, ho⟩, hb⟩)) ?_)
 rintro _ W105 ⟨⟨A107, c108, rfl, hk109, hO110⟩, hb106⟩
 have z111 := hb106.size
 simp only [lay]
 refine lv (.tuple #[.agg (MD.cells A107 c108), .int .i64 ME]) (by exact xm) ?_
 refine lv (.agg (MD.cells A107 c108)) (by exact xe) ?_
 refine lv (.int .i64 ME) (by exact xe) ?_
 simp only [lay]
 refine lz (oa #[.int .u8 0, .int .u8 0, .int .u32 0, .slice none 0 0] ?_)
 intro g112 W113 hg114 ge115 sz116 hb117
 have z118 := hb117.size
 simp only [lay]
 refine lz (ow_st 43 (.tmp 5) (.tmp 21) g112 (MD.cells A107 c108) _ _ rfl (by rfl) (by rfl) hg114 (by kernel_rfl) rfl (by kernel_rfl) ?_)
 intro W119 hg120 bs121 hb122
 have z123 := hb122.size
 simp only [lay]
 refine lv (.int .i64 ME) (by exact xa) ?_
 simp only [lay]
 refine wn ?_
 refine wp_sr ?_
 have b124 := bt hb13 hb106
 refine lv (.agg (m.cells A c)) (by exact xo ((hg3.to ((bt b124 hb117).trans (hb122.mono (lq b124 ge115)))).load (P := Try.prog) 43 Try.underlying43 rfl (by kernel_rfl))) ?_
 simp only [lay]
 refine lv (.agg (e4c s t)) (by exact xo ((hg10.to ((bt hb106 hb117).trans (hb122.mono (lq hb106 ge115)))).load (P := Try.prog) 32 Try.underlying32 rfl (by kernel_rfl))) ?_
 simp only [lay]
 have b133 := bt b103 hb106
 have b136 := (bt b133 hb117).trans (hb122.mono (lq b133 ge115))
 have rd137 := hR2.to b136
 refine lz (ow_call (fun v w' => (∃ A' c', v = .tuple #[.agg (MD.cells A' c'), .int .i64 ME] ∧ MD.ok ∧ OwnB w' W119.heap.size (.slice A' MD.bl.length c') MD.bl) ∧ Below W119.heap.size W119 w') (by exact xk Try.func14) ((rmsg18_any m A c s t hE W119 rd137).mono (by rintro e w' ⟨⟨A', c', rfl, hk, ho⟩, hb⟩; rw [hMD] at ho hk; exact ⟨_, rfl, ⟨A', c', by rw [hMD, hME], hk, ho⟩, hb⟩)) ?_)
 rintro _ W138 ⟨⟨A140, c141, rfl, hk142, hO143⟩, hb139⟩
 have z144 := hb139.size
 simp only [lay]
 refine lv (.tuple #[.agg (MD.cells A140 c141), .int .i64 ME]) (by exact xm) ?_
 refine lv (.agg (MD.cells A140 c141)) (by exact xe) ?_
 refine lv (.int .i64 ME) (by exact xe) ?_
 simp only [lay]
 refine lz (oa #[.int .u8 0, .int .u8 0, .int .u32 0, .slice none 0 0] ?_)
 intro g145 W146 hg147 ge148 sz149 hb150
 have z151 := hb150.size
 simp only [lay]
 refine lz (ow_st 43 (.tmp 7) (.tmp 27) g145 (MD.cells A140 c141) _ _ rfl (by rfl) (by rfl) hg147 (by kernel_rfl) rfl (by kernel_rfl) ?_)
 intro W152 hg153 bs154 hb155
 have z156 := hb155.size
 simp only [lay]
 refine lv (.int .i64 ME) (by exact xa) ?_
 simp only [lay]
 refine wn ?_
 refine wp_sr ?_
 refine lv (.agg (MD.cells A107 c108)) (by exact xo ((hg120.to ((bt hb139 hb150).trans (hb155.mono (lq hb139 ge148)))).load (P := Try.prog) 43 Try.underlying43 rfl (by kernel_rfl))) ?_
 refine lv (.agg (MD.cells A140 c141)) (by exact xo (hg153.load (P := Try.prog) 43 Try.underlying43 rfl (by kernel_rfl))) ?_
 simp only [lay]
 have l161 : W105.heap.size ≤ g112 := Nat.le_of_eq ge115.symm
 have b163 := bt (hb117.trans (hb122.mono l161)) hb139
 have l168 : W138.heap.size ≤ g145 := Nat.le_of_eq ge148.symm
 refine lz (ow_call (fun v w' => v = .bool true ∧ Below W152.heap.size W152 w') (by exact xk Try.func15) ((rsame_any _ _ MD MD A107 A140 c108 c141 W152 (own_byS (hO110.to ((bt b163 hb150).trans (hb155.mono (lq b163 ge148))))) (own_byS (hO143.to (hb150.trans (hb155.mono l168)))) (Nat.le_refl _) (Nat.le_refl _)).mono (by rintro e w' ⟨q, rfl, hq, hb⟩; obtain rfl : q = true := hq.out.trans (by simp [same7]); exact ⟨_, rfl, rfl, hb⟩)) ?_)
 rintro _ W171 ⟨rfl, hb172⟩
 have z173 := hb172.size
 simp only [lay]
 refine lv (.bool true) (by exact xm) ?_
 refine lv (.int .i64 ME) (by exact xm) ?_
 refine lv (.int .i64 ME) (by exact xm) ?_
 refine lv (.bool true) (by exact yq (h := rfl)) ?_
 simp only [lay]
 refine lv (.bool true) (by exact xp (b := true)) ?_
 refine lv (.bool true) (by exact xm) ?_
 simp only [lay]
 refine lz (ow_call (fun v w' => v = .bool true ∧ Below W171.heap.size W171 w') (by exact xk Try.func12) ((awake18_any W171).mono fun e w' h => ⟨_, h.1, rfl, h.2⟩) ?_)
 rintro _ W174 ⟨rfl, hb175⟩
 have z176 := hb175.size
 simp only [lay]
 refine lv (.bool true) (by exact xp (b := true)) ?_
 refine lv (.bool true) (by exact xa) ?_
 simp only [lay]
 refine wn ?_
 refine wp_ret ?_
 try simp only [Exit.then]
 have b177 := bt b136 hb139
 exact bodyPost_ret (res_one Try.results4 rfl) rfl ⟨rfl, (bt (bt ((bt b177 hb150).trans (hb155.mono (lq b177 ge148))) hb172) hb175)⟩
set_option maxRecDepth 100000 in
set_option maxHeartbeats 4000000 in
theorem inside18_walk (A : Option Addr) (c : Nat) (l s t : List Int) (w : World) (y : By w.heap.size w A l.length c l) (hE : E4ok s t) :
  Calls Try.prog 5 #[.slice A l.length c, .agg (e4c s t)] w fun e w' => e = .returned (.bool true) ∧ Below w.heap.size w w' := by
 go_enter Try.func5, Try.ntmps5
 refine wp_sr ?_
 refine lz (ow_box 32 (.tmp 1) _ rfl rfl ?_)
 intro g1 W2 hg3 ge4 sz5 hb6
 have z7 := hb6.size
 simp only [lay]
 refine lv (.bool false) (by exact xa) ?_
 simp only [lay]
 refine wn ?_
 refine wp_seq ?_
 refine wp_sr ?_
 refine lv (.slice A l.length c) (by exact xm) ?_
 refine lv (.int .i64 (l.length : Int)) (by exact xz Try.underlying26) ?_
 simp only [lay]
 by_cases q8 : (l.length : Int) > 70000
 case pos =>
  refine lv (.bool true) (by exact ex_gtr (by rfl) (by rfl) (by rfl) (decide_eq_true (by first|assumption|omega|decide))) ?_
  simp only [lay]
  refine wn ?_
  refine cT9 ?_
  refine wp_region_lit ?_
  refine lv (.slice A l.length c) (by exact xm) ?_
  simp only [lay]
  have by10 := y.to hb6
  have y9 := by10.to_ (P := Try.prog) 26 Try.underlying26 (by kernel_rfl) (k := 70000) (by omega)
  refine lv (.slice A 70000 c) (by exact ex_slice (by rfl) (by rfl) (y9.1 _)) ?_
  refine lv (.slice A 70000 c) (by exact xa) ?_
  simp only [lay]
  refine wn ?_
  refine wp_sr ?_
  refine lv (.slice A 70000 c) (by exact xm) ?_
  refine lv (.agg (e4c s t)) (by exact xo (hg3.load (P := Try.prog) 32 Try.underlying32 rfl (by kernel_rfl))) ?_
  simp only [lay]
  obtain ⟨IL, hIL⟩ : ∃ x, (inside18 (l.take 70000) s t).1 = x := ⟨_, rfl⟩
  obtain ⟨IE, hIE⟩ : ∃ x, (inside18 (l.take 70000) s t).2 = x := ⟨_, rfl⟩
  refine lz (ow_call (fun v w' => (∃ u, v = .tuple #[u, .int .i64 IE] ∧ OwnB w' W2.heap.size u IL) ∧ Below W2.heap.size W2 w') (by exact xk Try.func16) ((inside18_any _ _ _ _ s t hE W2 y9.2).mono (by rintro e w' ⟨⟨v, rfl, ho⟩, hb⟩; rw [hIL] at ho; exact ⟨_, rfl, ⟨v, by rw [hIE], ho⟩, hb⟩)) ?_)
  rintro _ W11 ⟨⟨u13, rfl, hO14⟩, hb12⟩
  have z15 := hb12.size
  obtain ⟨A16, c17, rfl, y18⟩ := hO14.by_
  simp only [lay]
  refine lv (.tuple #[.slice A16 IL.length c17, .int .i64 IE]) (by exact xm) ?_
  refine lv (.slice A16 IL.length c17) (by exact xe) ?_
  refine lv (.int .i64 IE) (by exact xe) ?_
  refine lv (.slice A16 IL.length c17) (by exact xa) ?_
  simp only [lay]
  refine lv (.int .i64 IE) (by exact xa) ?_
  simp only [lay]
  refine wn ?_
  refine wp_sr ?_
  refine lv (.slice A 70000 c) (by exact xm) ?_
  simp only [lay]
  refine lv (.agg (e4c s t)) (by exact xo ((hg3.to hb12).load (P := Try.prog) 32 Try.underlying32 rfl (by kernel_rfl))) ?_
  simp only [lay]
  have by20 := y9.2.to hb12
  refine lz (ow_call (fun v w' => (∃ u, v = .tuple #[u, .int .i64 IE] ∧ OwnB w' W11.heap.size u IL) ∧ Below W11.heap.size W11 w') (by exact xk Try.func17) ((rInside18_any _ _ _ _ s t hE W11 by20).mono (by rintro e w' ⟨⟨v, rfl, ho⟩, hb⟩; rw [hIL] at ho; exact ⟨_, rfl, ⟨v, by rw [hIE], ho⟩, hb⟩)) ?_)
  rintro _ W21 ⟨⟨u23, rfl, hO24⟩, hb22⟩
  have z25 := hb22.size
  obtain ⟨A26, c27, rfl, y28⟩ := hO24.by_
  simp only [lay]
  refine lv (.tuple #[.slice A26 IL.length c27, .int .i64 IE]) (by exact xm) ?_
  refine lv (.slice A26 IL.length c27) (by exact xe) ?_
  refine lv (.int .i64 IE) (by exact xe) ?_
  refine lv (.slice A26 IL.length c27) (by exact xa) ?_
  simp only [lay]
  refine lv (.int .i64 IE) (by exact xa) ?_
  simp only [lay]
  refine wn ?_
  refine wp_sr ?_
  refine lv (.slice A16 IL.length c17) (by exact xm) ?_
  simp only [lay]
  refine lv (.string (strOfNums IL)) (by exact xv (By.conv (P := Try.prog) (own_byS (hO14.to hb22)) 26 9 Try.underlying26 Try.underlying5 Try.underlying9)) ?_
  refine lv (.slice A26 IL.length c27) (by exact xm) ?_
  refine lv (.string (strOfNums IL)) (by exact xv (By.conv (P := Try.prog) (own_byS hO24) 26 9 Try.underlying26 Try.underlying5 Try.underlying9)) ?_
  refine lv (.bool true) (by exact eq_str_self (s := (strOfNums IL)) (by rfl) (by rfl) (by rfl)) ?_
  simp only [lay]
  refine lv (.bool true) (by exact xm) ?_
  refine lv (.int .i64 IE) (by exact xm) ?_
  refine lv (.int .i64 IE) (by exact xm) ?_
  refine lv (.bool true) (by exact yq (h := rfl)) ?_
  simp only [lay]
  refine lv (.bool true) (by exact xp (b := true)) ?_
  refine lv (.bool true) (by exact xm) ?_
  simp only [lay]
  refine lz (ow_call (fun v w' => v = .bool true ∧ Below W21.heap.size W21 w') (by exact xk Try.func12) ((awake18_any W21).mono fun e w' h => ⟨_, h.1, rfl, h.2⟩) ?_)
  rintro _ W30 ⟨rfl, hb31⟩
  have z32 := hb31.size
  simp only [lay]
  refine lv (.bool true) (by exact xp (b := true)) ?_
  refine lv (.bool true) (by exact xa) ?_
  simp only [lay]
  refine wn ?_
  refine wp_ret ?_
  try simp only [Exit.then]
  exact bodyPost_ret (res_one Try.results5 rfl) rfl ⟨rfl, (bt (bt (bt hb6 hb12) hb22) hb31)⟩
 refine lv (.bool false) (by exact ex_gtr (by rfl) (by rfl) (by rfl) (decide_eq_false (by first|assumption|omega|decide))) ?_
 simp only [lay]
 refine wn ?_
 refine cF9 ?_
 refine wp_skip ?_
 change Code.wp _ _ _ _ _
 refine wp_sr ?_
 refine lv (.slice A l.length c) (by exact xm) ?_
 refine lv (.agg (e4c s t)) (by exact xo (hg3.load (P := Try.prog) 32 Try.underlying32 rfl (by kernel_rfl))) ?_
 simp only [lay]
 obtain ⟨IL, hIL⟩ : ∃ x, (inside18 l s t).1 = x := ⟨_, rfl⟩
 obtain ⟨IE, hIE⟩ : ∃ x, (inside18 l s t).2 = x := ⟨_, rfl⟩
 have by36 := y.to hb6
 refine lz (ow_call (fun v w' => (∃ u, v = .tuple #[u, .int .i64 IE] ∧ OwnB w' W2.heap.size u IL) ∧ Below W2.heap.size W2 w') (by exact xk Try.func16) ((inside18_any _ _ _ _ s t hE W2 by36).mono (by rintro e w' ⟨⟨v, rfl, ho⟩, hb⟩; rw [hIL] at ho; exact ⟨_, rfl, ⟨v, by rw [hIE], ho⟩, hb⟩)) ?_)
 rintro _ W37 ⟨⟨u39, rfl, hO40⟩, hb38⟩
 have z41 := hb38.size
 obtain ⟨A42, c43, rfl, y44⟩ := hO40.by_
 simp only [lay]
 refine lv (.tuple #[.slice A42 IL.length c43, .int .i64 IE]) (by exact xm) ?_
 refine lv (.slice A42 IL.length c43) (by exact xe) ?_
 refine lv (.int .i64 IE) (by exact xe) ?_
 refine lv (.slice A42 IL.length c43) (by exact xa) ?_
 simp only [lay]
 refine lv (.int .i64 IE) (by exact xa) ?_
 simp only [lay]
 refine wn ?_
 refine wp_sr ?_
 refine lv (.slice A l.length c) (by exact xm) ?_
 simp only [lay]
 refine lv (.agg (e4c s t)) (by exact xo ((hg3.to hb38).load (P := Try.prog) 32 Try.underlying32 rfl (by kernel_rfl))) ?_
 simp only [lay]
 have b46 := bt hb6 hb38
 have by47 := y.to b46
 refine lz (ow_call (fun v w' => (∃ u, v = .tuple #[u, .int .i64 IE] ∧ OwnB w' W37.heap.size u IL) ∧ Below W37.heap.size W37 w') (by exact xk Try.func17) ((rInside18_any _ _ _ _ s t hE W37 by47).mono (by rintro e w' ⟨⟨v, rfl, ho⟩, hb⟩; rw [hIL] at ho; exact ⟨_, rfl, ⟨v, by rw [hIE], ho⟩, hb⟩)) ?_)
 rintro _ W48 ⟨⟨u50, rfl, hO51⟩, hb49⟩
 have z52 := hb49.size
 obtain ⟨A53, c54, rfl, y55⟩ := hO51.by_
 simp only [lay]
 refine lv (.tuple #[.slice A53 IL.length c54, .int .i64 IE]) (by exact xm) ?_
 refine lv (.slice A53 IL.length c54) (by exact xe) ?_
 refine lv (.int .i64 IE) (by exact xe) ?_
 refine lv (.slice A53 IL.length c54) (by exact xa) ?_
 simp only [lay]
 refine lv (.int .i64 IE) (by exact xa) ?_
 simp only [lay]
 refine wn ?_
 refine wp_sr ?_
 refine lv (.slice A42 IL.length c43) (by exact xm) ?_
 simp only [lay]
 refine lv (.string (strOfNums IL)) (by exact xv (By.conv (P := Try.prog) (own_byS (hO40.to hb49)) 26 9 Try.underlying26 Try.underlying5 Try.underlying9)) ?_
 refine lv (.slice A53 IL.length c54) (by exact xm) ?_
 refine lv (.string (strOfNums IL)) (by exact xv (By.conv (P := Try.prog) (own_byS hO51) 26 9 Try.underlying26 Try.underlying5 Try.underlying9)) ?_
 refine lv (.bool true) (by exact eq_str_self (s := (strOfNums IL)) (by rfl) (by rfl) (by rfl)) ?_
 simp only [lay]
 refine lv (.bool true) (by exact xm) ?_
 refine lv (.int .i64 IE) (by exact xm) ?_
 refine lv (.int .i64 IE) (by exact xm) ?_
 refine lv (.bool true) (by exact yq (h := rfl)) ?_
 simp only [lay]
 refine lv (.bool true) (by exact xp (b := true)) ?_
 refine lv (.bool true) (by exact xm) ?_
 simp only [lay]
 refine lz (ow_call (fun v w' => v = .bool true ∧ Below W48.heap.size W48 w') (by exact xk Try.func12) ((awake18_any W48).mono fun e w' h => ⟨_, h.1, rfl, h.2⟩) ?_)
 rintro _ W57 ⟨rfl, hb58⟩
 have z59 := hb58.size
 simp only [lay]
 refine lv (.bool true) (by exact xp (b := true)) ?_
 refine lv (.bool true) (by exact xa) ?_
 simp only [lay]
 refine wn ?_
 refine wp_ret ?_
 try simp only [Exit.then]
 exact bodyPost_ret (res_one Try.results5 rfl) rfl ⟨rfl, (bt (bt b46 hb49) hb58)⟩
end Go.Proofs.Ytjnphelfloiadaa
namespace Go.Proofs.Ytjnphelfloiadaa
open Go.ChangeShapes Go.WideShapes Go.ChangeAt Go.RowKit

section
variable {H : Type} {enc : TypeId × Value → H} {W : World} {base : Nat} {spare : Nat → Bool} {held : Bool}
set_option maxRecDepth 100000 in
theorem open_icmp {v : Value} {d : DataW H} {p : List MemPlace} {r : Reach} {b0 : Nat} (hv : Value.okWide Try.prog W r b0 43 v) (h : DataW.Trod enc Try.prog W base spare held 43 v d p) :
  ∃ D A c, v = .agg (D7.cells D A c) ∧ Rd7 W.heap.size W D A c := by
 have ht := Try.underlying43
 simp only [Value.okWide, ht] at hv
 obtain ⟨cs, rfl, _⟩ := hv
 obtain ⟨fuel, hf⟩ := h
 have hlen : cs.toList.length = 4 := (struct_len ht hf).trans (by kernel_rfl)
 have hk : ∃ m, _ := field_at ht hf
 obtain ⟨m, g⟩ := hk
 obtain ⟨c0, c1, c2, c3, hcs⟩ := len4 hlen
 have g : ∀ (i : Nat) (f : Field) (n : Nat), _ → _ → ∃ y, DataW.trod enc Try.prog W base spare held m f.type (([c0, c1, c2, c3].drop f.offset).take n) = some y := hcs ▸ g
 obtain ⟨y0, e0⟩ := g 0 _ 1 rfl (by kernel_rfl)
 obtain ⟨y1, e1⟩ := g 1 _ 1 rfl (by kernel_rfl)
 obtain ⟨y2, e2⟩ := g 2 _ 1 rfl (by kernel_rfl)
 obtain ⟨y3, e3⟩ := g 3 _ 1 rfl (by kernel_rfl)
 obtain ⟨ty, q0, _, w0⟩ := DataW.trod_int Try.underlying5 e0
 obtain ⟨code, q1, _, w1⟩ := DataW.trod_int Try.underlying5 e1
 obtain ⟨rest, q2, _, w2⟩ := DataW.trod_int Try.underlying22 e2
 obtain ⟨A, c, l, q3, y⟩ := cell_bytes Try.underlying26 Try.underlying5 (by kernel_rfl) e3
 have k0 : c0 = .int .u8 ty := one_eq q0
 have k1 : c1 = .int .u8 code := one_eq q1
 have k2 : c2 = .int .u32 rest := one_eq q2
 have k3 : c3 = .slice A l.length c := one_eq q3
 subst k0 k1 k2 k3
 have b2 := bounds_u32 w2
 have b3 : rest < 4294967296 := by omega
 refine ⟨⟨ty, code, rest, l⟩, A, c, ?_, ⟨⟨bounds_u8 w0, bounds_u8 w1, b2.1, b3⟩, y⟩⟩
 rw [← Array.toArray_toList (xs := cs), hcs]; rfl
end
end Go.Proofs.Ytjnphelfloiadaa
