/-
  Lemmas and walks for the row of TofourRight,TofourLong (part 33 of 33).
-/
import Derived.Test.YtjnphelfloiadaaFrAF
import Derived.Test.YtjnphelfloiadaaFrAU
import Derived.Test.YtjnphelfloiadaaFrBE
import Derived.Test.YtjnphelfloiadaaFrBF
set_option linter.unusedVariables false
set_option linter.unusedSimpArgs false
namespace Go.Proofs.Ytjnphelfloiadaa
open Go.RowKit Go.Shelf
attribute [local irreducible] wpList Code.wp Oper.wp wpOp wpAnyH

theorem ex_ne_a4 {ρ : Operand → Value} {o : Oper} {z : TypeId} {x y : Operand} {w : World} {a0 a1 a2 a3 : Int} (s : List Int) (ho : o.op = .binOp .neq 30 x y z) (hx : ρ x = .agg #[.int .u8 a0, .int .u8 a1, .int .u8 a2, .int .u8 a3]) (hy : ρ y = .agg #[.int .u8 (s.getD 0 0), .int .u8 (s.getD 1 0), .int .u8 (s.getD 2 0), .int .u8 (s.getD 3 0)]) (h : [a0, a1, a2, a3] = l4 s) : (execOp ρ o).run Try.prog w = .ok (.value (.bool false)) w :=
 ex_ne_arrN (n := 4) (a := [a0, a1, a2, a3]) (b := l4 s) ho Try.underlying30 Try.underlying5 (by kernel_rfl) (by kernel_rfl) hx hy rfl rfl (by rw [h]; simp)
theorem pack18_at {d : D6} {s t s' t' : List Int} (h : (pack18 d s t s' t').2 = 0) : (pack18 d s t s' t').1.bl.length ≤ 65535 := by
 obtain ⟨-, -, hpk, h6⟩ := pack18_ok h
 rw [← hpk] at h6
 have := (D4.ok_of_check h6).2.2.2
 omega
theorem D4.all_of {d : D4} (h : d.check = 0) (ho : d.ol = []) : d.all = 20 + (d.bl.length : Int) := by
 unfold D4.all D4.hl
 rw [if_pos h, ho]
 simp

set_option maxRecDepth 100000 in
set_option maxHeartbeats 4000000 in
theorem right18_any (A1 A2 : Option Addr) (n1 n2 c1 c2 : Nat) (l1 l2 : List Int) (w : World) (y1 : By w.heap.size w A1 n1 c1 l1) (y2 : By w.heap.size w A2 n2 c2 l2) (hl : n1 + n2 ≤ 1048576) :
  Calls Try.prog 18 #[.slice A1 n1 c1, .slice A2 n2 c2] w fun e w' => e = .returned (.bool (decide (sumw (l1 ++ l2) = 65535))) ∧ Below w.heap.size w w' := by
 go_enter Try.func18, Try.ntmps18
 refine wp_sr ?_
 refine lv (.bool false) (by exact xa) ?_
 simp only [lay]
 refine wn ?_
 refine wp_sr ?_
 refine lv (.slice A1 n1 c1) (by exact xm) ?_
 simp only [lay]
 refine lv (.slice A2 n2 c2) (by exact xm) ?_
 simp only [lay]
 refine lz (ow_build [.slice A1 n1 c1, .slice A2 n2 c2] rfl Try.underlying100 (by kernel_rfl) (by kernel_rfl) rfl (by decide) (by decide) (by first | rfl | (simp only [List.map_toArray, List.map_cons, List.map_nil] <;> rfl)) (by simp [Value.cells]) ?_)
 intro g1 W2 hg3 ge4 sz5 hb6
 have z7 := hb6.size
 simp only [lay]
 have by8 := y1.to hb6
 have by9 := y2.to hb6
 refine lz (ow_call (fun v w' => v = .int .u16 (sumw (l1 ++ l2)) ∧ Below W2.heap.size W2 w') (by exact xk Try.func59) (rfold2 hg3 by8 by9 (by omega)) ?_)
 rintro _ W10 ⟨rfl, hb11⟩
 have z12 := hb11.size
 simp only [lay]
 by_cases q13 : sumw (l1 ++ l2) = 65535
 case pos =>
  refine lv (.bool true) (by exact yq) ?_
  simp only [lay]
  refine lv (.bool true) (by exact xa) ?_
  simp only [lay]
  refine wn ?_
  refine wp_ret ?_
  try simp only [Exit.then]
  have b14 := bt hb6 hb11
  exact bodyPost_ret (res_one Try.results18 rfl) rfl ⟨by rw [decide_eq_true q13]; rfl, b14⟩
 refine lv (.bool false) (by exact yqn) ?_
 simp only [lay]
 refine lv (.bool false) (by exact xa) ?_
 simp only [lay]
 refine wn ?_
 refine wp_ret ?_
 try simp only [Exit.then]
 have b15 := bt hb6 hb11
 exact bodyPost_ret (res_one Try.results18 rfl) rfl ⟨by rw [decide_eq_false q13]; rfl, b15⟩
set_option maxRecDepth 100000 in
set_option maxHeartbeats 4000000 in
theorem right18_walk (d : D6) (p : W6) (s t s' t' : List Int) (w : World) (hR : Rd6 w.heap.size w d p) (hE : E4ok s t) (hE' : E4ok s' t') :
  Calls Try.prog 6 #[.agg (d.cells p), .agg (e4c s t), .agg (e4c s' t')] w fun e w' => e = .returned (.bool true) ∧ Below w.heap.size w w' := by
 obtain ⟨PD, hPD⟩ : ∃ x, (pack18 d s t s' t').1 = x := ⟨_, rfl⟩
 obtain ⟨PE, hPE⟩ : ∃ x, (pack18 d s t s' t').2 = x := ⟨_, rfl⟩
 have yb6 := hR.body
 have hlb := yb6.len
 go_enter Try.func6, Try.ntmps6
 refine wp_sr ?_
 refine lz (ow_box 28 (.tmp 0) _ rfl rfl ?_)
 intro g1 W2 hg3 ge4 sz5 hb6
 have z7 := hb6.size
 simp only [lay]
 refine lz (ow_box 32 (.tmp 1) _ rfl rfl ?_)
 intro g8 W9 hg10 ge11 sz12 hb13
 have z14 := hb13.size
 simp only [lay]
 refine lz (ow_box 32 (.tmp 2) _ rfl rfl ?_)
 intro g15 W16 hg17 ge18 sz19 hb20
 have z21 := hb20.size
 simp only [lay]
 refine lv (.bool false) (by exact xa) ?_
 simp only [lay]
 refine wn ?_
 refine wp_seq ?_
 refine wp_sr ?_
 refine lz (ow_call (fun v w' => v = .bool true ∧ Below W16.heap.size W16 w') (by exact xk Try.func12) ((awake18_any W16).mono fun e w' h => ⟨_, h.1, rfl, h.2⟩) ?_)
 rintro _ W22 ⟨rfl, hb23⟩
 have z24 := hb23.size
 simp only [lay]
 refine lv (.bool false) (by exact ex_not (b := true) (by exact rfl) (by exact rfl)) ?_
 simp only [lay]
 refine wn ?_
 refine cF9 ?_
 refine wp_skip ?_
 change Code.wp _ _ _ _ _
 refine wp_sr ?_
 have b25 := bt hb13 hb20
 have b26 := bt b25 hb23
 have has27 := hg3.to b26
 refine lv (.agg (d.cells p)) (by exact xo (has27.load (P := Try.prog) 28 Try.underlying28 rfl (by kernel_rfl))) ?_
 simp only [lay]
 have b28 := bt hb20 hb23
 have has29 := hg10.to b28
 refine lv (.agg (e4c s t)) (by exact xo (has29.load (P := Try.prog) 32 Try.underlying32 rfl (by kernel_rfl))) ?_
 simp only [lay]
 have has30 := hg17.to hb23
 refine lv (.agg (e4c s' t')) (by exact xo (has30.load (P := Try.prog) 32 Try.underlying32 rfl (by kernel_rfl))) ?_
 simp only [lay]
 have b31 := bt hb6 hb13
 have b32 := bt b31 hb20
 have b33 := bt b32 hb23
 have rd34 := hR.to b33
 refine lz (ow_call (fun v w' => (∃ q, v = .tuple #[.agg (PD.cells q), .int .i64 PE] ∧ Own4 w' W22.heap.size PD q) ∧ Below W22.heap.size W22 w') (by exact xk Try.func9) ((pack18_any d p s t s' t' hE hE' W22 rd34).mono (by rintro e w' ⟨⟨q, rfl, ho⟩, hb⟩; rw [hPD] at ho; exact ⟨_, rfl, ⟨q, by rw [hPD, hPE], ho⟩, hb⟩)) ?_)
 rintro _ W35 ⟨⟨p37, rfl, ho38⟩, hb36⟩
 have z39 := hb36.size
 have hO40 := ho38.opt
 have hO41 := ho38.body
 simp only [lay]
 have hPok := ho38.ok
 refine lv (.tuple #[.agg (PD.cells p37), .int .i64 PE]) (by exact xm) ?_
 simp only [lay]
 refine lv (.agg (PD.cells p37)) (by exact xe) ?_
 simp only [lay]
 refine lv (.int .i64 PE) (by exact xe) ?_
 simp only [lay]
 refine lz (oa #[.int .u8 0, .int .u16 0, .bool false, .bool false, .int .i64 0, .int .u8 0, .int .u8 0, .int .u8 0, .int .u8 0, .int .u8 0, .int .u8 0, .int .u8 0, .int .u8 0, .int .u8 0, .int .u8 0, .slice none 0 0, .slice none 0 0] ?_)
 intro g42 W43 hg44 ge45 sz46 hb47
 have z48 := hb47.size
 simp only [lay]
 refine lz (ow_st 35 (.tmp 7) (.tmp 16) g42 (PD.cells p37) _ _ rfl (by exact rfl) (by exact rfl) hg44 (by kernel_rfl) rfl (by kernel_rfl) ?_)
 intro W49 hg50 bs51 hb52
 have z53 := hb52.size
 simp only [lay]
 refine lv (.int .i64 PE) (by exact xa) ?_
 simp only [lay]
 refine wn ?_
 refine wp_seq ?_
 refine wp_sr ?_
 refine lv (.int .i64 PE) (by exact xm) ?_
 simp only [lay]
 by_cases q54 : PE = 0
 case pos =>
  obtain ⟨hokh, hof, hbl⟩ := check18 (pack18_ok (hPE.trans q54)).1
  refine lv (.bool false) (by exact neq_int_eq (by exact rfl) (by exact rfl) (by exact rfl) (by first | assumption | omega)) ?_
  simp only [lay]
  refine lv (.bool false) (by exact xm) ?_
  simp only [lay]
  refine lv (.pointer (some ⟨g1, 36, none⟩)) (by exact xf 36 0 Try.underlying28) ?_
  simp only [lay]
  have b55 := bt b26 hb36
  have b56 := bt b55 hb47
  have l57 := lq b55 ge45
  have b58 := b56.trans (hb52.mono l57)
  have has59 := hg3.to b58
  refine lv (.bool d.frag) (by exact xc Try.underlying4 (has59.cell 36 rfl)) ?_
  simp only [lay]
  refine lv (.bool d.frag) (by exact xm) ?_
  simp only [lay]
  by_cases q60 : d.frag = true
  case pos =>
   rw [q60]
   refine lv (.pointer (some ⟨g1, 39, none⟩)) (by exact xf 39 0 Try.underlying28) ?_
   simp only [lay]
   refine lv (.bool d.more) (by exact xc Try.underlying4 (has59.cell 39 rfl)) ?_
   simp only [lay]
   refine lv (.bool d.more) (by exact xm) ?_
   simp only [lay]
   by_cases q61 : d.more = true
   case pos =>
    rw [q61]
    refine lzn ?_
    simp only [lay]
    refine lzn ?_
    simp only [lay]
    refine lzn ?_
    simp only [lay]
    refine lv (.bool true) (by exact xp (b := true)) ?_
    simp only [lay]
    refine lv (.bool true) (by exact xp (b := true)) ?_
    simp only [lay]
    refine lv (.bool true) (by exact xp (b := false)) ?_
    simp only [lay]
    refine wn ?_
    refine cT9 ?_
    refine wp_sr ?_
    refine lv (.int .i64 PE) (by exact xm) ?_
    simp only [lay]
    refine lv (.bool true) (by exact yq) ?_
    simp only [lay]
    refine lv (.bool true) (by exact xm) ?_
    simp only [lay]
    refine lzn ?_
    simp only [lay]
    refine lzn ?_
    simp only [lay]
    refine lzn ?_
    simp only [lay]
    refine lv (.bool true) (by exact xp (b := true)) ?_
    simp only [lay]
    refine lv (.bool true) (by exact xa) ?_
    simp only [lay]
    refine wn ?_
    refine wp_ret ?_
    try simp only [Exit.then]
    have b63 := bt b33 hb36
    have b64 := bt b63 hb47
    have l65 := lq b63 ge45
    have b66 := b64.trans (hb52.mono l65)
    exact bodyPost_ret (res_one Try.results6 rfl) rfl ⟨rfl, b66⟩
   replace q61 := eq_false_of_ne_true q61
   rw [q61]
   refine lv (.pointer (some ⟨g1, 38, none⟩)) (by exact xf 38 0 Try.underlying28) ?_
   simp only [lay]
   refine lv (.int .i64 d.off) (by exact xc Try.underlying3 (has59.cell 38 rfl)) ?_
   simp only [lay]
   by_cases q67 : d.off > 0
   case pos =>
    refine lv (.bool true) (by exact ex_gtr (by exact rfl) (by exact rfl) (by exact rfl) (decide_eq_true (by first | assumption | omega | decide))) ?_
    simp only [lay]
    refine lv (.bool true) (by exact xp (b := false)) ?_
    simp only [lay]
    refine lv (.bool true) (by exact xp (b := true)) ?_
    simp only [lay]
    refine lv (.bool true) (by exact xp (b := false)) ?_
    simp only [lay]
    refine wn ?_
    refine cT9 ?_
    refine wp_sr ?_
    refine lv (.int .i64 PE) (by exact xm) ?_
    simp only [lay]
    refine lv (.bool true) (by exact yq) ?_
    simp only [lay]
    refine lv (.bool true) (by exact xm) ?_
    simp only [lay]
    refine lzn ?_
    simp only [lay]
    refine lzn ?_
    simp only [lay]
    refine lzn ?_
    simp only [lay]
    refine lv (.bool true) (by exact xp (b := true)) ?_
    simp only [lay]
    refine lv (.bool true) (by exact xa) ?_
    simp only [lay]
    refine wn ?_
    refine wp_ret ?_
    try simp only [Exit.then]
    have b69 := bt b33 hb36
    have b70 := bt b69 hb47
    have l71 := lq b69 ge45
    have b72 := b70.trans (hb52.mono l71)
    exact bodyPost_ret (res_one Try.results6 rfl) rfl ⟨rfl, b72⟩
   refine lv (.bool false) (by exact ex_gtr (by exact rfl) (by exact rfl) (by exact rfl) (decide_eq_false (by first | assumption | omega | decide))) ?_
   simp only [lay]
   refine lv (.bool false) (by exact xp (b := false)) ?_
   simp only [lay]
   refine lv (.bool false) (by exact xp (b := true)) ?_
   simp only [lay]
   refine lv (.bool false) (by exact xp (b := false)) ?_
   simp only [lay]
   refine wn ?_
   refine cF9 ?_
   refine wp_skip ?_
   change Code.wp _ _ _ _ _
   refine wp_seq ?_
   refine wp_sr ?_
   refine lv (.pointer (some ⟨g1, 40, none⟩)) (by exact xf 40 0 Try.underlying28) ?_
   simp only [lay]
   refine lv (.int .u8 d.pro) (by exact xc Try.underlying5 (has59.cell 40 rfl)) ?_
   simp only [lay]
   by_cases q73 : d.pro = 58
   case pos =>
    refine lv (.bool true) (by exact yq) ?_
    simp only [lay]
    refine wn ?_
    refine cT9 ?_
    refine wp_sr ?_
    refine lv (.pointer (some ⟨g42, 16, none⟩)) (by exact xf 16 0 Try.underlying35) ?_
    simp only [lay]
    refine lv (.slice p37.bA PD.bl.length p37.bc) (by exact xc Try.underlying26 (hg50.cell 16 rfl)) ?_
    simp only [lay]
    have l74 : W35.heap.size ≤ g42 := Nat.le_of_eq ge45.symm
    have b75 := hb47.trans (hb52.mono l74)
    have own476 := ho38.to b75
    have hy := right18_icmp (s' := s') (t' := t') hR.body.rng (hPE.trans (by assumption)) (by rw [hPD]; exact (own_byS own476.body).rng) (by assumption)
    rw [hPD] at hy
    have hpl := pack18_at (hPE.trans (by assumption))
    rw [hPD] at hpl
    have own77 := hO41.to b75
    refine lz (ow_call (fun v w' => v = .bool true ∧ Below W49.heap.size W49 w') (by exact xk Try.func18) ((right18_any _ _ _ _ _ _ _ _ W49 (By.nil _ _ none (Nat.zero_le _)) (own_byS own77) (by omega)).mono fun e w' h => ⟨_, h.1, by rw [decide_eq_true hy], h.2⟩) ?_)
    rintro _ W78 ⟨rfl, hb79⟩
    have z80 := hb79.size
    simp only [lay]
    refine lv (.bool true) (by exact xa) ?_
    simp only [lay]
    refine wn ?_
    refine wp_ret ?_
    try simp only [Exit.then]
    have b81 := bt b33 hb36
    have b82 := bt b81 hb47
    have l83 := lq b81 ge45
    have b84 := b82.trans (hb52.mono l83)
    have b85 := bt b84 hb79
    exact bodyPost_ret (res_one Try.results6 rfl) rfl ⟨rfl, b85⟩
   refine lv (.bool false) (by exact yqn) ?_
   simp only [lay]
   refine wn ?_
   refine cF9 ?_
   refine wp_skip ?_
   change Code.wp _ _ _ _ _
   refine wp_seq ?_
   refine wp_seq ?_
   refine rg_drawn W49.heap.size (by kernel_rfl) (Nat.le_refl _) ?_
   intro W86 hb87 hs88 hS89
   have z90 := hb87.size
   refine te 0 (.pointer (some ⟨g1, 40, none⟩)) hS89 rfl (by intro _ _; exact xf 40 0 Try.underlying28) ?_
   simp only [lay]
   refine te 1 (.int .u8 d.pro) hS89 rfl (by intro _ h; exact xc Try.underlying5 ((has59.to h).cell 40 rfl)) ?_
   simp only [lay]
   by_cases q91 : d.pro = 6
   case pos =>
    refine te 2 (.bool false) hS89 rfl (by intro _ _; exact neq_int_eq (by exact rfl) (by exact rfl) (by exact rfl) (by first | assumption | omega)) ?_
    simp only [lay]
    refine te 3 (.bool false) hS89 rfl (by intro _ _; exact xm) ?_
    simp only [lay]
    refine tn 4 hS89 rfl ?_
    simp only [lay]
    refine tn 5 hS89 rfl ?_
    simp only [lay]
    refine tn 6 hS89 rfl ?_
    simp only [lay]
    refine te 7 (.bool false) hS89 rfl (by intro _ _; exact xp (b := false)) ?_
    simp only [lay]
    refine te 8 (.bool false) hS89 rfl (by intro _ _; exact xm) ?_
    simp only [lay]
    refine te 9 (.pointer (some ⟨g1, 3, none⟩)) hS89 rfl (by intro _ _; exact xf 3 15 Try.underlying28) ?_
    simp only [lay]
    refine te 10 (.slice (some ⟨g1, 3, none⟩) 16 16) hS89 rfl (by intro _ _; exact ex_arr (by exact rfl) Try.underlying24 (by kernel_rfl) (by exact rfl)) ?_
    simp only [lay]
    refine te 11 (.pointer (some ⟨g1, 19, none⟩)) hS89 rfl (by intro _ _; exact xf 19 15 Try.underlying28) ?_
    simp only [lay]
    refine te 12 (.slice (some ⟨g1, 19, none⟩) 16 16) hS89 rfl (by intro _ _; exact ex_arr (by exact rfl) Try.underlying24 (by kernel_rfl) (by exact rfl)) ?_
    simp only [lay]
    refine te 13 (.pointer (some ⟨g1, 40, none⟩)) hS89 rfl (by intro _ _; exact xf 40 0 Try.underlying28) ?_
    simp only [lay]
    refine te 14 (.int .u8 d.pro) hS89 rfl (by intro _ h; exact xc Try.underlying5 ((has59.to h).cell 40 rfl)) ?_
    simp only [lay]
    refine te 15 (.pointer (some ⟨g1, 41, none⟩)) hS89 rfl (by intro _ _; exact xf 41 0 Try.underlying28) ?_
    simp only [lay]
    refine te 16 (.slice p.bA d.bl.length p.bc) hS89 rfl (by intro _ h; exact xc Try.underlying26 ((has59.to h).cell 41 rfl)) ?_
    simp only [lay]
    refine te 17 (.int .i64 (d.bl.length : Int)) hS89 rfl (by intro _ _; exact xz Try.underlying26) ?_
    simp only [lay]
    refine te 19 (.pointer (some ⟨g1, 41, none⟩)) hS89 rfl (by intro _ _; exact xf 41 0 Try.underlying28) ?_
    simp only [lay]
    refine te 20 (.slice p.bA d.bl.length p.bc) hS89 rfl (by intro _ h; exact xc Try.underlying26 ((has59.to h).cell 41 rfl)) ?_
    simp only [lay]
    have b92 := bt b58 hb87
    have has93 := hg3.to b92
    refine t1 18 rfl (ow_call (fun v w' => OwnB w' W86.heap.size v (pse6 d.src d.dst (d.bl.length : Int) d.pro) ∧ Below W86.heap.size W86 w') (by exact xk Try.func19) (rpse6_any d.src d.dst hR.ok.srcL hR.ok.dstL d.pro (d.bl.length : Int) hR.ok.pro.1 hR.ok.pro.2 (by omega) (by omega) _ _ _ _ W86 (has93.byIn 3 16 d.src hR.ok.srcL ((show (_ : List Value) = u8s (l16 d.src) from by kernel_rfl).trans (u8s_16 hR.ok.srcL)) hR.ok.src (by decide)) (has93.byIn 19 16 d.dst hR.ok.dstL ((show (_ : List Value) = u8s (l16 d.dst) from by kernel_rfl).trans (u8s_16 hR.ok.dstL)) hR.ok.dst (by decide))) ?_)
    rintro v96 W94 ⟨hO97, hb95⟩
    have z98 := hb95.size
    obtain ⟨A99, c100, rfl, y101⟩ := hO97.by_
    refine ⟨(Below.trans hS89 (hb95.mono hS89.size)), ?_⟩
    have hS102 := (Below.trans hS89 (hb95.mono hS89.size))
    simp only [lay]
    by_cases q103 : sumw (pse6 d.src d.dst (d.bl.length : Int) d.pro ++ d.bl) = 65535
    case pos =>
     have b104 := bt b33 hb36
     have b105 := bt b104 hb47
     have l106 := lq b104 ge45
     have b107 := b105.trans (hb52.mono l106)
     have b108 := bt b107 hb87
     have b109 := bt b108 hb95
     have by110 := yb6.to b109
     refine t1 21 rfl (ow_call (fun v w' => v = .bool true ∧ Below W94.heap.size W94 w') (by exact xk Try.func18) ((right18_any _ _ _ _ _ _ _ _ W94 (own_byS hO97) by110 (by simp only [pse6, pse4, D4.src, D4.dst, List.length_append, List.length_cons, List.length_nil, hR.ok.srcL, hR.ok.dstL]; omega)).mono fun e w' h => ⟨_, h.1, by rw [decide_eq_true q103], h.2⟩) ?_)
     rintro _ W111 ⟨rfl, hb112⟩
     have z113 := hb112.size
     refine ⟨(Below.trans hS102 (hb112.mono hS102.size)), ?_⟩
     have hS114 := (Below.trans hS102 (hb112.mono hS102.size))
     simp only [lay]
     refine te 22 (.bool false) hS114 rfl (by intro _ _; exact ex_not (b := true) (by exact rfl) (by exact rfl)) ?_
     simp only [lay]
     refine te 23 (.bool false) hS114 rfl (by intro _ _; exact xp (b := false)) ?_
     simp only [lay]
     refine wpAnyH_done (by kernel_rfl) ?_ _
     change Code.wp _ _ _ _ _
     refine cF9 ?_
     refine wp_skip ?_
     change Code.wp _ _ _ _ _
     refine wp_seq ?_
     refine rg_drawn W111.heap.size (by kernel_rfl) (Nat.le_refl _) ?_
     intro W115 hb116 hs117 hS118
     have z119 := hb116.size
     refine te 0 (.pointer (some ⟨g42, 7, none⟩)) hS118 rfl (by intro _ _; exact xf 7 3 Try.underlying35) ?_
     simp only [lay]
     refine te 1 (.slice (some ⟨g42, 7, none⟩) 4 4) hS118 rfl (by intro _ _; exact ex_arr (by exact rfl) Try.underlying30 (by kernel_rfl) (by exact rfl)) ?_
     simp only [lay]
     refine te 2 (.pointer (some ⟨g42, 11, none⟩)) hS118 rfl (by intro _ _; exact xf 11 3 Try.underlying35) ?_
     simp only [lay]
     refine te 3 (.slice (some ⟨g42, 11, none⟩) 4 4) hS118 rfl (by intro _ _; exact ex_arr (by exact rfl) Try.underlying30 (by kernel_rfl) (by exact rfl)) ?_
     simp only [lay]
     refine te 4 (.pointer (some ⟨g42, 6, none⟩)) hS118 rfl (by intro _ _; exact xf 6 0 Try.underlying35) ?_
     simp only [lay]
     have b120 := bt hb87 hb95
     have b121 := bt b120 hb112
     have has122 := hg50.to b121
     refine te 5 (.int .u8 PD.proto) hS118 rfl (by intro _ h; exact xc Try.underlying5 ((has122.to h).cell 6 rfl)) ?_
     simp only [lay]
     refine te 6 (.pointer (some ⟨g42, 16, none⟩)) hS118 rfl (by intro _ _; exact xf 16 0 Try.underlying35) ?_
     simp only [lay]
     refine te 7 (.slice p37.bA PD.bl.length p37.bc) hS118 rfl (by intro _ h; exact xc Try.underlying26 ((has122.to h).cell 16 rfl)) ?_
     simp only [lay]
     refine te 8 (.int .i64 (PD.bl.length : Int)) hS118 rfl (by intro _ _; exact xz Try.underlying26) ?_
     simp only [lay]
     refine te 10 (.pointer (some ⟨g42, 16, none⟩)) hS118 rfl (by intro _ _; exact xf 16 0 Try.underlying35) ?_
     simp only [lay]
     refine te 11 (.slice p37.bA PD.bl.length p37.bc) hS118 rfl (by intro _ h; exact xc Try.underlying26 ((has122.to h).cell 16 rfl)) ?_
     simp only [lay]
     have hpl := pack18_at (hPE.trans (by assumption))
     rw [hPD] at hpl
     have b123 := bt b121 hb116
     have has124 := hg50.to b123
     refine t1 9 rfl (ow_call (fun v w' => OwnB w' W115.heap.size v (pse4 PD.src PD.dst (PD.bl.length : Int) PD.proto) ∧ Below W115.heap.size W115 w') (by exact xk Try.func19) (rpse4_any PD.src PD.dst rfl rfl PD.proto (PD.bl.length : Int) hPok.proto.1 hPok.proto.2 (by omega) (by omega) _ _ _ _ W115 (has124.byIn 7 4 PD.src rfl (by kernel_rfl) hPok.src (by decide)) (has124.byIn 11 4 PD.dst rfl (by kernel_rfl) hPok.dst (by decide))) ?_)
     rintro v127 W125 ⟨hO128, hb126⟩
     have z129 := hb126.size
     obtain ⟨A130, c131, rfl, y132⟩ := hO128.by_
     refine ⟨(Below.trans hS118 (hb126.mono hS118.size)), ?_⟩
     have hS133 := (Below.trans hS118 (hb126.mono hS118.size))
     simp only [lay]
     have qp : d.part = false := by unfold D6.part; simp [*]; try omega
     have hy := right18_seg (s' := s') (t' := t') hR.ok hE hR.body.rng (hPE.trans (by assumption)) qp (by omega) (by assumption)
     rw [hPD] at hy
     have hy2 : sumw (pse4 PD.src PD.dst (PD.bl.length : Int) PD.proto ++ PD.bl) = 65535 := hy
     have l134 : W35.heap.size ≤ g42 := Nat.le_of_eq ge45.symm
     have b135 := hb47.trans (hb52.mono l134)
     have b136 := bt b135 hb87
     have b137 := bt b136 hb95
     have b138 := bt b137 hb112
     have b139 := bt b138 hb116
     have b140 := bt b139 hb126
     have own141 := hO41.to b140
     refine t1 12 rfl (ow_call (fun v w' => v = .bool true ∧ Below W125.heap.size W125 w') (by exact xk Try.func18) ((right18_any _ _ _ _ _ _ _ _ W125 (own_byS hO128) (own_byS own141) (by simp only [pse6, pse4, D4.src, D4.dst, List.length_append, List.length_cons, List.length_nil, hR.ok.srcL, hR.ok.dstL]; omega)).mono fun e w' h => ⟨_, h.1, by rw [decide_eq_true hy2], h.2⟩) ?_)
     rintro _ W142 ⟨rfl, hb143⟩
     have z144 := hb143.size
     refine ⟨(Below.trans hS133 (hb143.mono hS133.size)), ?_⟩
     have hS145 := (Below.trans hS133 (hb143.mono hS133.size))
     simp only [lay]
     refine te 13 (.bool true) hS145 rfl (by intro _ _; exact xa) ?_
     simp only [lay]
     refine wpAnyH_done (by kernel_rfl) ?_ _
     change Code.wp _ _ _ _ _
     refine wp_ret ?_
     try simp only [Exit.then]
     have b146 := bt b109 hb112
     have b147 := bt b146 hb116
     have b148 := bt b147 hb126
     have b149 := bt b148 hb143
     exact bodyPost_ret (res_one Try.results6 rfl) rfl ⟨rfl, b149⟩
    have b150 := bt b33 hb36
    have b151 := bt b150 hb47
    have l152 := lq b150 ge45
    have b153 := b151.trans (hb52.mono l152)
    have b154 := bt b153 hb87
    have b155 := bt b154 hb95
    have by156 := yb6.to b155
    refine t1 21 rfl (ow_call (fun v w' => v = .bool false ∧ Below W94.heap.size W94 w') (by exact xk Try.func18) ((right18_any _ _ _ _ _ _ _ _ W94 (own_byS hO97) by156 (by simp only [pse6, pse4, D4.src, D4.dst, List.length_append, List.length_cons, List.length_nil, hR.ok.srcL, hR.ok.dstL]; omega)).mono fun e w' h => ⟨_, h.1, by rw [decide_eq_false q103], h.2⟩) ?_)
    rintro _ W157 ⟨rfl, hb158⟩
    have z159 := hb158.size
    refine ⟨(Below.trans hS102 (hb158.mono hS102.size)), ?_⟩
    have hS160 := (Below.trans hS102 (hb158.mono hS102.size))
    simp only [lay]
    refine te 22 (.bool true) hS160 rfl (by intro _ _; exact ex_not (b := false) (by exact rfl) (by exact rfl)) ?_
    simp only [lay]
    refine te 23 (.bool true) hS160 rfl (by intro _ _; exact xp (b := false)) ?_
    simp only [lay]
    refine wpAnyH_done (by kernel_rfl) ?_ _
    change Code.wp _ _ _ _ _
    refine cT9 ?_
    refine wp_sr ?_
    refine lv (.bool true) (by exact xa) ?_
    simp only [lay]
    refine wn ?_
    refine wp_ret ?_
    try simp only [Exit.then]
    have b161 := bt b155 hb158
    exact bodyPost_ret (res_one Try.results6 rfl) rfl ⟨rfl, b161⟩
   refine te 2 (.bool true) hS89 rfl (by intro _ _; exact neq_int_ne (by exact rfl) (by exact rfl) (by exact rfl) (by first | assumption | omega)) ?_
   simp only [lay]
   refine te 3 (.bool true) hS89 rfl (by intro _ _; exact xm) ?_
   simp only [lay]
   refine te 4 (.pointer (some ⟨g1, 40, none⟩)) hS89 rfl (by intro _ _; exact xf 40 0 Try.underlying28) ?_
   simp only [lay]
   refine te 5 (.int .u8 d.pro) hS89 rfl (by intro _ h; exact xc Try.underlying5 ((has59.to h).cell 40 rfl)) ?_
   simp only [lay]
   by_cases q162 : d.pro = 17
   case pos =>
    refine te 6 (.bool false) hS89 rfl (by intro _ _; exact neq_int_eq (by exact rfl) (by exact rfl) (by exact rfl) (by first | assumption | omega)) ?_
    simp only [lay]
    refine te 7 (.bool false) hS89 rfl (by intro _ _; exact xp (b := true)) ?_
    simp only [lay]
    refine te 8 (.bool false) hS89 rfl (by intro _ _; exact xm) ?_
    simp only [lay]
    refine te 9 (.pointer (some ⟨g1, 3, none⟩)) hS89 rfl (by intro _ _; exact xf 3 15 Try.underlying28) ?_
    simp only [lay]
    refine te 10 (.slice (some ⟨g1, 3, none⟩) 16 16) hS89 rfl (by intro _ _; exact ex_arr (by exact rfl) Try.underlying24 (by kernel_rfl) (by exact rfl)) ?_
    simp only [lay]
    refine te 11 (.pointer (some ⟨g1, 19, none⟩)) hS89 rfl (by intro _ _; exact xf 19 15 Try.underlying28) ?_
    simp only [lay]
    refine te 12 (.slice (some ⟨g1, 19, none⟩) 16 16) hS89 rfl (by intro _ _; exact ex_arr (by exact rfl) Try.underlying24 (by kernel_rfl) (by exact rfl)) ?_
    simp only [lay]
    refine te 13 (.pointer (some ⟨g1, 40, none⟩)) hS89 rfl (by intro _ _; exact xf 40 0 Try.underlying28) ?_
    simp only [lay]
    refine te 14 (.int .u8 d.pro) hS89 rfl (by intro _ h; exact xc Try.underlying5 ((has59.to h).cell 40 rfl)) ?_
    simp only [lay]
    refine te 15 (.pointer (some ⟨g1, 41, none⟩)) hS89 rfl (by intro _ _; exact xf 41 0 Try.underlying28) ?_
    simp only [lay]
    refine te 16 (.slice p.bA d.bl.length p.bc) hS89 rfl (by intro _ h; exact xc Try.underlying26 ((has59.to h).cell 41 rfl)) ?_
    simp only [lay]
    refine te 17 (.int .i64 (d.bl.length : Int)) hS89 rfl (by intro _ _; exact xz Try.underlying26) ?_
    simp only [lay]
    refine te 19 (.pointer (some ⟨g1, 41, none⟩)) hS89 rfl (by intro _ _; exact xf 41 0 Try.underlying28) ?_
    simp only [lay]
    refine te 20 (.slice p.bA d.bl.length p.bc) hS89 rfl (by intro _ h; exact xc Try.underlying26 ((has59.to h).cell 41 rfl)) ?_
    simp only [lay]
    have b163 := bt b58 hb87
    have has164 := hg3.to b163
    refine t1 18 rfl (ow_call (fun v w' => OwnB w' W86.heap.size v (pse6 d.src d.dst (d.bl.length : Int) d.pro) ∧ Below W86.heap.size W86 w') (by exact xk Try.func19) (rpse6_any d.src d.dst hR.ok.srcL hR.ok.dstL d.pro (d.bl.length : Int) hR.ok.pro.1 hR.ok.pro.2 (by omega) (by omega) _ _ _ _ W86 (has164.byIn 3 16 d.src hR.ok.srcL ((show (_ : List Value) = u8s (l16 d.src) from by kernel_rfl).trans (u8s_16 hR.ok.srcL)) hR.ok.src (by decide)) (has164.byIn 19 16 d.dst hR.ok.dstL ((show (_ : List Value) = u8s (l16 d.dst) from by kernel_rfl).trans (u8s_16 hR.ok.dstL)) hR.ok.dst (by decide))) ?_)
    rintro v167 W165 ⟨hO168, hb166⟩
    have z169 := hb166.size
    obtain ⟨A170, c171, rfl, y172⟩ := hO168.by_
    refine ⟨(Below.trans hS89 (hb166.mono hS89.size)), ?_⟩
    have hS173 := (Below.trans hS89 (hb166.mono hS89.size))
    simp only [lay]
    by_cases q174 : sumw (pse6 d.src d.dst (d.bl.length : Int) d.pro ++ d.bl) = 65535
    case pos =>
     have b175 := bt b33 hb36
     have b176 := bt b175 hb47
     have l177 := lq b175 ge45
     have b178 := b176.trans (hb52.mono l177)
     have b179 := bt b178 hb87
     have b180 := bt b179 hb166
     have by181 := yb6.to b180
     refine t1 21 rfl (ow_call (fun v w' => v = .bool true ∧ Below W165.heap.size W165 w') (by exact xk Try.func18) ((right18_any _ _ _ _ _ _ _ _ W165 (own_byS hO168) by181 (by simp only [pse6, pse4, D4.src, D4.dst, List.length_append, List.length_cons, List.length_nil, hR.ok.srcL, hR.ok.dstL]; omega)).mono fun e w' h => ⟨_, h.1, by rw [decide_eq_true q174], h.2⟩) ?_)
     rintro _ W182 ⟨rfl, hb183⟩
     have z184 := hb183.size
     refine ⟨(Below.trans hS173 (hb183.mono hS173.size)), ?_⟩
     have hS185 := (Below.trans hS173 (hb183.mono hS173.size))
     simp only [lay]
     refine te 22 (.bool false) hS185 rfl (by intro _ _; exact ex_not (b := true) (by exact rfl) (by exact rfl)) ?_
     simp only [lay]
     refine te 23 (.bool false) hS185 rfl (by intro _ _; exact xp (b := false)) ?_
     simp only [lay]
     refine wpAnyH_done (by kernel_rfl) ?_ _
     change Code.wp _ _ _ _ _
     refine cF9 ?_
     refine wp_skip ?_
     change Code.wp _ _ _ _ _
     refine wp_seq ?_
     refine rg_drawn W182.heap.size (by kernel_rfl) (Nat.le_refl _) ?_
     intro W186 hb187 hs188 hS189
     have z190 := hb187.size
     refine te 0 (.pointer (some ⟨g42, 7, none⟩)) hS189 rfl (by intro _ _; exact xf 7 3 Try.underlying35) ?_
     simp only [lay]
     refine te 1 (.slice (some ⟨g42, 7, none⟩) 4 4) hS189 rfl (by intro _ _; exact ex_arr (by exact rfl) Try.underlying30 (by kernel_rfl) (by exact rfl)) ?_
     simp only [lay]
     refine te 2 (.pointer (some ⟨g42, 11, none⟩)) hS189 rfl (by intro _ _; exact xf 11 3 Try.underlying35) ?_
     simp only [lay]
     refine te 3 (.slice (some ⟨g42, 11, none⟩) 4 4) hS189 rfl (by intro _ _; exact ex_arr (by exact rfl) Try.underlying30 (by kernel_rfl) (by exact rfl)) ?_
     simp only [lay]
     refine te 4 (.pointer (some ⟨g42, 6, none⟩)) hS189 rfl (by intro _ _; exact xf 6 0 Try.underlying35) ?_
     simp only [lay]
     have b191 := bt hb87 hb166
     have b192 := bt b191 hb183
     have has193 := hg50.to b192
     refine te 5 (.int .u8 PD.proto) hS189 rfl (by intro _ h; exact xc Try.underlying5 ((has193.to h).cell 6 rfl)) ?_
     simp only [lay]
     refine te 6 (.pointer (some ⟨g42, 16, none⟩)) hS189 rfl (by intro _ _; exact xf 16 0 Try.underlying35) ?_
     simp only [lay]
     refine te 7 (.slice p37.bA PD.bl.length p37.bc) hS189 rfl (by intro _ h; exact xc Try.underlying26 ((has193.to h).cell 16 rfl)) ?_
     simp only [lay]
     refine te 8 (.int .i64 (PD.bl.length : Int)) hS189 rfl (by intro _ _; exact xz Try.underlying26) ?_
     simp only [lay]
     refine te 10 (.pointer (some ⟨g42, 16, none⟩)) hS189 rfl (by intro _ _; exact xf 16 0 Try.underlying35) ?_
     simp only [lay]
     refine te 11 (.slice p37.bA PD.bl.length p37.bc) hS189 rfl (by intro _ h; exact xc Try.underlying26 ((has193.to h).cell 16 rfl)) ?_
     simp only [lay]
     have hpl := pack18_at (hPE.trans (by assumption))
     rw [hPD] at hpl
     have b194 := bt b192 hb187
     have has195 := hg50.to b194
     refine t1 9 rfl (ow_call (fun v w' => OwnB w' W186.heap.size v (pse4 PD.src PD.dst (PD.bl.length : Int) PD.proto) ∧ Below W186.heap.size W186 w') (by exact xk Try.func19) (rpse4_any PD.src PD.dst rfl rfl PD.proto (PD.bl.length : Int) hPok.proto.1 hPok.proto.2 (by omega) (by omega) _ _ _ _ W186 (has195.byIn 7 4 PD.src rfl (by kernel_rfl) hPok.src (by decide)) (has195.byIn 11 4 PD.dst rfl (by kernel_rfl) hPok.dst (by decide))) ?_)
     rintro v198 W196 ⟨hO199, hb197⟩
     have z200 := hb197.size
     obtain ⟨A201, c202, rfl, y203⟩ := hO199.by_
     refine ⟨(Below.trans hS189 (hb197.mono hS189.size)), ?_⟩
     have hS204 := (Below.trans hS189 (hb197.mono hS189.size))
     simp only [lay]
     have qp : d.part = false := by unfold D6.part; simp [*]; try omega
     have hy := right18_seg (s' := s') (t' := t') hR.ok hE hR.body.rng (hPE.trans (by assumption)) qp (by omega) (by assumption)
     rw [hPD] at hy
     have hy2 : sumw (pse4 PD.src PD.dst (PD.bl.length : Int) PD.proto ++ PD.bl) = 65535 := hy
     have l205 : W35.heap.size ≤ g42 := Nat.le_of_eq ge45.symm
     have b206 := hb47.trans (hb52.mono l205)
     have b207 := bt b206 hb87
     have b208 := bt b207 hb166
     have b209 := bt b208 hb183
     have b210 := bt b209 hb187
     have b211 := bt b210 hb197
     have own212 := hO41.to b211
     refine t1 12 rfl (ow_call (fun v w' => v = .bool true ∧ Below W196.heap.size W196 w') (by exact xk Try.func18) ((right18_any _ _ _ _ _ _ _ _ W196 (own_byS hO199) (own_byS own212) (by simp only [pse6, pse4, D4.src, D4.dst, List.length_append, List.length_cons, List.length_nil, hR.ok.srcL, hR.ok.dstL]; omega)).mono fun e w' h => ⟨_, h.1, by rw [decide_eq_true hy2], h.2⟩) ?_)
     rintro _ W213 ⟨rfl, hb214⟩
     have z215 := hb214.size
     refine ⟨(Below.trans hS204 (hb214.mono hS204.size)), ?_⟩
     have hS216 := (Below.trans hS204 (hb214.mono hS204.size))
     simp only [lay]
     refine te 13 (.bool true) hS216 rfl (by intro _ _; exact xa) ?_
     simp only [lay]
     refine wpAnyH_done (by kernel_rfl) ?_ _
     change Code.wp _ _ _ _ _
     refine wp_ret ?_
     try simp only [Exit.then]
     have b217 := bt b180 hb183
     have b218 := bt b217 hb187
     have b219 := bt b218 hb197
     have b220 := bt b219 hb214
     exact bodyPost_ret (res_one Try.results6 rfl) rfl ⟨rfl, b220⟩
    have b221 := bt b33 hb36
    have b222 := bt b221 hb47
    have l223 := lq b221 ge45
    have b224 := b222.trans (hb52.mono l223)
    have b225 := bt b224 hb87
    have b226 := bt b225 hb166
    have by227 := yb6.to b226
    refine t1 21 rfl (ow_call (fun v w' => v = .bool false ∧ Below W165.heap.size W165 w') (by exact xk Try.func18) ((right18_any _ _ _ _ _ _ _ _ W165 (own_byS hO168) by227 (by simp only [pse6, pse4, D4.src, D4.dst, List.length_append, List.length_cons, List.length_nil, hR.ok.srcL, hR.ok.dstL]; omega)).mono fun e w' h => ⟨_, h.1, by rw [decide_eq_false q174], h.2⟩) ?_)
    rintro _ W228 ⟨rfl, hb229⟩
    have z230 := hb229.size
    refine ⟨(Below.trans hS173 (hb229.mono hS173.size)), ?_⟩
    have hS231 := (Below.trans hS173 (hb229.mono hS173.size))
    simp only [lay]
    refine te 22 (.bool true) hS231 rfl (by intro _ _; exact ex_not (b := false) (by exact rfl) (by exact rfl)) ?_
    simp only [lay]
    refine te 23 (.bool true) hS231 rfl (by intro _ _; exact xp (b := false)) ?_
    simp only [lay]
    refine wpAnyH_done (by kernel_rfl) ?_ _
    change Code.wp _ _ _ _ _
    refine cT9 ?_
    refine wp_sr ?_
    refine lv (.bool true) (by exact xa) ?_
    simp only [lay]
    refine wn ?_
    refine wp_ret ?_
    try simp only [Exit.then]
    have b232 := bt b226 hb229
    exact bodyPost_ret (res_one Try.results6 rfl) rfl ⟨rfl, b232⟩
   refine te 6 (.bool true) hS89 rfl (by intro _ _; exact neq_int_ne (by exact rfl) (by exact rfl) (by exact rfl) (by first | assumption | omega)) ?_
   simp only [lay]
   refine te 7 (.bool true) hS89 rfl (by intro _ _; exact xp (b := true)) ?_
   simp only [lay]
   refine te 8 (.bool true) hS89 rfl (by intro _ _; exact xm) ?_
   simp only [lay]
   refine tn 9 hS89 rfl ?_
   simp only [lay]
   refine tn 10 hS89 rfl ?_
   simp only [lay]
   refine tn 11 hS89 rfl ?_
   simp only [lay]
   refine tn 12 hS89 rfl ?_
   simp only [lay]
   refine tn 13 hS89 rfl ?_
   simp only [lay]
   refine tn 14 hS89 rfl ?_
   simp only [lay]
   refine tn 15 hS89 rfl ?_
   simp only [lay]
   refine tn 16 hS89 rfl ?_
   simp only [lay]
   refine tn 17 hS89 rfl ?_
   simp only [lay]
   refine tn 18 hS89 rfl ?_
   simp only [lay]
   refine tn 19 hS89 rfl ?_
   simp only [lay]
   refine tn 20 hS89 rfl ?_
   simp only [lay]
   refine tn 21 hS89 rfl ?_
   simp only [lay]
   refine tn 22 hS89 rfl ?_
   simp only [lay]
   refine te 23 (.bool true) hS89 rfl (by intro _ _; exact xp (b := true)) ?_
   simp only [lay]
   refine wpAnyH_done (by kernel_rfl) ?_ _
   change Code.wp _ _ _ _ _
   refine cT9 ?_
   refine wp_sr ?_
   refine lv (.bool true) (by exact xa) ?_
   simp only [lay]
   refine wn ?_
   refine wp_ret ?_
   try simp only [Exit.then]
   have b233 := bt b33 hb36
   have b234 := bt b233 hb47
   have l235 := lq b233 ge45
   have b236 := b234.trans (hb52.mono l235)
   have b237 := bt b236 hb87
   exact bodyPost_ret (res_one Try.results6 rfl) rfl ⟨rfl, b237⟩
  replace q60 := eq_false_of_ne_true q60
  rw [q60]
  refine lzn ?_
  simp only [lay]
  refine lzn ?_
  simp only [lay]
  refine lzn ?_
  simp only [lay]
  refine lzn ?_
  simp only [lay]
  refine lzn ?_
  simp only [lay]
  refine lzn ?_
  simp only [lay]
  refine lzn ?_
  simp only [lay]
  refine lv (.bool false) (by exact xp (b := false)) ?_
  simp only [lay]
  refine lv (.bool false) (by exact xp (b := false)) ?_
  simp only [lay]
  refine wn ?_
  refine cF9 ?_
  refine wp_skip ?_
  change Code.wp _ _ _ _ _
  refine wp_seq ?_
  refine wp_sr ?_
  refine lv (.pointer (some ⟨g1, 40, none⟩)) (by exact xf 40 0 Try.underlying28) ?_
  simp only [lay]
  refine lv (.int .u8 d.pro) (by exact xc Try.underlying5 (has59.cell 40 rfl)) ?_
  simp only [lay]
  by_cases q238 : d.pro = 58
  case pos =>
   refine lv (.bool true) (by exact yq) ?_
   simp only [lay]
   refine wn ?_
   refine cT9 ?_
   refine wp_sr ?_
   refine lv (.pointer (some ⟨g42, 16, none⟩)) (by exact xf 16 0 Try.underlying35) ?_
   simp only [lay]
   refine lv (.slice p37.bA PD.bl.length p37.bc) (by exact xc Try.underlying26 (hg50.cell 16 rfl)) ?_
   simp only [lay]
   have l239 : W35.heap.size ≤ g42 := Nat.le_of_eq ge45.symm
   have b240 := hb47.trans (hb52.mono l239)
   have own4241 := ho38.to b240
   have hy := right18_icmp (s' := s') (t' := t') hR.body.rng (hPE.trans (by assumption)) (by rw [hPD]; exact (own_byS own4241.body).rng) (by assumption)
   rw [hPD] at hy
   have hpl := pack18_at (hPE.trans (by assumption))
   rw [hPD] at hpl
   have own242 := hO41.to b240
   refine lz (ow_call (fun v w' => v = .bool true ∧ Below W49.heap.size W49 w') (by exact xk Try.func18) ((right18_any _ _ _ _ _ _ _ _ W49 (By.nil _ _ none (Nat.zero_le _)) (own_byS own242) (by omega)).mono fun e w' h => ⟨_, h.1, by rw [decide_eq_true hy], h.2⟩) ?_)
   rintro _ W243 ⟨rfl, hb244⟩
   have z245 := hb244.size
   simp only [lay]
   refine lv (.bool true) (by exact xa) ?_
   simp only [lay]
   refine wn ?_
   refine wp_ret ?_
   try simp only [Exit.then]
   have b246 := bt b33 hb36
   have b247 := bt b246 hb47
   have l248 := lq b246 ge45
   have b249 := b247.trans (hb52.mono l248)
   have b250 := bt b249 hb244
   exact bodyPost_ret (res_one Try.results6 rfl) rfl ⟨rfl, b250⟩
  refine lv (.bool false) (by exact yqn) ?_
  simp only [lay]
  refine wn ?_
  refine cF9 ?_
  refine wp_skip ?_
  change Code.wp _ _ _ _ _
  refine wp_seq ?_
  refine wp_seq ?_
  refine rg_drawn W49.heap.size (by kernel_rfl) (Nat.le_refl _) ?_
  intro W251 hb252 hs253 hS254
  have z255 := hb252.size
  refine te 0 (.pointer (some ⟨g1, 40, none⟩)) hS254 rfl (by intro _ _; exact xf 40 0 Try.underlying28) ?_
  simp only [lay]
  refine te 1 (.int .u8 d.pro) hS254 rfl (by intro _ h; exact xc Try.underlying5 ((has59.to h).cell 40 rfl)) ?_
  simp only [lay]
  by_cases q256 : d.pro = 6
  case pos =>
   refine te 2 (.bool false) hS254 rfl (by intro _ _; exact neq_int_eq (by exact rfl) (by exact rfl) (by exact rfl) (by first | assumption | omega)) ?_
   simp only [lay]
   refine te 3 (.bool false) hS254 rfl (by intro _ _; exact xm) ?_
   simp only [lay]
   refine tn 4 hS254 rfl ?_
   simp only [lay]
   refine tn 5 hS254 rfl ?_
   simp only [lay]
   refine tn 6 hS254 rfl ?_
   simp only [lay]
   refine te 7 (.bool false) hS254 rfl (by intro _ _; exact xp (b := false)) ?_
   simp only [lay]
   refine te 8 (.bool false) hS254 rfl (by intro _ _; exact xm) ?_
   simp only [lay]
   refine te 9 (.pointer (some ⟨g1, 3, none⟩)) hS254 rfl (by intro _ _; exact xf 3 15 Try.underlying28) ?_
   simp only [lay]
   refine te 10 (.slice (some ⟨g1, 3, none⟩) 16 16) hS254 rfl (by intro _ _; exact ex_arr (by exact rfl) Try.underlying24 (by kernel_rfl) (by exact rfl)) ?_
   simp only [lay]
   refine te 11 (.pointer (some ⟨g1, 19, none⟩)) hS254 rfl (by intro _ _; exact xf 19 15 Try.underlying28) ?_
   simp only [lay]
   refine te 12 (.slice (some ⟨g1, 19, none⟩) 16 16) hS254 rfl (by intro _ _; exact ex_arr (by exact rfl) Try.underlying24 (by kernel_rfl) (by exact rfl)) ?_
   simp only [lay]
   refine te 13 (.pointer (some ⟨g1, 40, none⟩)) hS254 rfl (by intro _ _; exact xf 40 0 Try.underlying28) ?_
   simp only [lay]
   refine te 14 (.int .u8 d.pro) hS254 rfl (by intro _ h; exact xc Try.underlying5 ((has59.to h).cell 40 rfl)) ?_
   simp only [lay]
   refine te 15 (.pointer (some ⟨g1, 41, none⟩)) hS254 rfl (by intro _ _; exact xf 41 0 Try.underlying28) ?_
   simp only [lay]
   refine te 16 (.slice p.bA d.bl.length p.bc) hS254 rfl (by intro _ h; exact xc Try.underlying26 ((has59.to h).cell 41 rfl)) ?_
   simp only [lay]
   refine te 17 (.int .i64 (d.bl.length : Int)) hS254 rfl (by intro _ _; exact xz Try.underlying26) ?_
   simp only [lay]
   refine te 19 (.pointer (some ⟨g1, 41, none⟩)) hS254 rfl (by intro _ _; exact xf 41 0 Try.underlying28) ?_
   simp only [lay]
   refine te 20 (.slice p.bA d.bl.length p.bc) hS254 rfl (by intro _ h; exact xc Try.underlying26 ((has59.to h).cell 41 rfl)) ?_
   simp only [lay]
   have b257 := bt b58 hb252
   have has258 := hg3.to b257
   refine t1 18 rfl (ow_call (fun v w' => OwnB w' W251.heap.size v (pse6 d.src d.dst (d.bl.length : Int) d.pro) ∧ Below W251.heap.size W251 w') (by exact xk Try.func19) (rpse6_any d.src d.dst hR.ok.srcL hR.ok.dstL d.pro (d.bl.length : Int) hR.ok.pro.1 hR.ok.pro.2 (by omega) (by omega) _ _ _ _ W251 (has258.byIn 3 16 d.src hR.ok.srcL ((show (_ : List Value) = u8s (l16 d.src) from by kernel_rfl).trans (u8s_16 hR.ok.srcL)) hR.ok.src (by decide)) (has258.byIn 19 16 d.dst hR.ok.dstL ((show (_ : List Value) = u8s (l16 d.dst) from by kernel_rfl).trans (u8s_16 hR.ok.dstL)) hR.ok.dst (by decide))) ?_)
   rintro v261 W259 ⟨hO262, hb260⟩
   have z263 := hb260.size
   obtain ⟨A264, c265, rfl, y266⟩ := hO262.by_
   refine ⟨(Below.trans hS254 (hb260.mono hS254.size)), ?_⟩
   have hS267 := (Below.trans hS254 (hb260.mono hS254.size))
   simp only [lay]
   by_cases q268 : sumw (pse6 d.src d.dst (d.bl.length : Int) d.pro ++ d.bl) = 65535
   case pos =>
    have b269 := bt b33 hb36
    have b270 := bt b269 hb47
    have l271 := lq b269 ge45
    have b272 := b270.trans (hb52.mono l271)
    have b273 := bt b272 hb252
    have b274 := bt b273 hb260
    have by275 := yb6.to b274
    refine t1 21 rfl (ow_call (fun v w' => v = .bool true ∧ Below W259.heap.size W259 w') (by exact xk Try.func18) ((right18_any _ _ _ _ _ _ _ _ W259 (own_byS hO262) by275 (by simp only [pse6, pse4, D4.src, D4.dst, List.length_append, List.length_cons, List.length_nil, hR.ok.srcL, hR.ok.dstL]; omega)).mono fun e w' h => ⟨_, h.1, by rw [decide_eq_true q268], h.2⟩) ?_)
    rintro _ W276 ⟨rfl, hb277⟩
    have z278 := hb277.size
    refine ⟨(Below.trans hS267 (hb277.mono hS267.size)), ?_⟩
    have hS279 := (Below.trans hS267 (hb277.mono hS267.size))
    simp only [lay]
    refine te 22 (.bool false) hS279 rfl (by intro _ _; exact ex_not (b := true) (by exact rfl) (by exact rfl)) ?_
    simp only [lay]
    refine te 23 (.bool false) hS279 rfl (by intro _ _; exact xp (b := false)) ?_
    simp only [lay]
    refine wpAnyH_done (by kernel_rfl) ?_ _
    change Code.wp _ _ _ _ _
    refine cF9 ?_
    refine wp_skip ?_
    change Code.wp _ _ _ _ _
    refine wp_seq ?_
    refine rg_drawn W276.heap.size (by kernel_rfl) (Nat.le_refl _) ?_
    intro W280 hb281 hs282 hS283
    have z284 := hb281.size
    refine te 0 (.pointer (some ⟨g42, 7, none⟩)) hS283 rfl (by intro _ _; exact xf 7 3 Try.underlying35) ?_
    simp only [lay]
    refine te 1 (.slice (some ⟨g42, 7, none⟩) 4 4) hS283 rfl (by intro _ _; exact ex_arr (by exact rfl) Try.underlying30 (by kernel_rfl) (by exact rfl)) ?_
    simp only [lay]
    refine te 2 (.pointer (some ⟨g42, 11, none⟩)) hS283 rfl (by intro _ _; exact xf 11 3 Try.underlying35) ?_
    simp only [lay]
    refine te 3 (.slice (some ⟨g42, 11, none⟩) 4 4) hS283 rfl (by intro _ _; exact ex_arr (by exact rfl) Try.underlying30 (by kernel_rfl) (by exact rfl)) ?_
    simp only [lay]
    refine te 4 (.pointer (some ⟨g42, 6, none⟩)) hS283 rfl (by intro _ _; exact xf 6 0 Try.underlying35) ?_
    simp only [lay]
    have b285 := bt hb252 hb260
    have b286 := bt b285 hb277
    have has287 := hg50.to b286
    refine te 5 (.int .u8 PD.proto) hS283 rfl (by intro _ h; exact xc Try.underlying5 ((has287.to h).cell 6 rfl)) ?_
    simp only [lay]
    refine te 6 (.pointer (some ⟨g42, 16, none⟩)) hS283 rfl (by intro _ _; exact xf 16 0 Try.underlying35) ?_
    simp only [lay]
    refine te 7 (.slice p37.bA PD.bl.length p37.bc) hS283 rfl (by intro _ h; exact xc Try.underlying26 ((has287.to h).cell 16 rfl)) ?_
    simp only [lay]
    refine te 8 (.int .i64 (PD.bl.length : Int)) hS283 rfl (by intro _ _; exact xz Try.underlying26) ?_
    simp only [lay]
    refine te 10 (.pointer (some ⟨g42, 16, none⟩)) hS283 rfl (by intro _ _; exact xf 16 0 Try.underlying35) ?_
    simp only [lay]
    refine te 11 (.slice p37.bA PD.bl.length p37.bc) hS283 rfl (by intro _ h; exact xc Try.underlying26 ((has287.to h).cell 16 rfl)) ?_
    simp only [lay]
    have hpl := pack18_at (hPE.trans (by assumption))
    rw [hPD] at hpl
    have b288 := bt b286 hb281
    have has289 := hg50.to b288
    refine t1 9 rfl (ow_call (fun v w' => OwnB w' W280.heap.size v (pse4 PD.src PD.dst (PD.bl.length : Int) PD.proto) ∧ Below W280.heap.size W280 w') (by exact xk Try.func19) (rpse4_any PD.src PD.dst rfl rfl PD.proto (PD.bl.length : Int) hPok.proto.1 hPok.proto.2 (by omega) (by omega) _ _ _ _ W280 (has289.byIn 7 4 PD.src rfl (by kernel_rfl) hPok.src (by decide)) (has289.byIn 11 4 PD.dst rfl (by kernel_rfl) hPok.dst (by decide))) ?_)
    rintro v292 W290 ⟨hO293, hb291⟩
    have z294 := hb291.size
    obtain ⟨A295, c296, rfl, y297⟩ := hO293.by_
    refine ⟨(Below.trans hS283 (hb291.mono hS283.size)), ?_⟩
    have hS298 := (Below.trans hS283 (hb291.mono hS283.size))
    simp only [lay]
    have qp : d.part = false := by unfold D6.part; simp [*]; try omega
    have hy := right18_seg (s' := s') (t' := t') hR.ok hE hR.body.rng (hPE.trans (by assumption)) qp (by omega) (by assumption)
    rw [hPD] at hy
    have hy2 : sumw (pse4 PD.src PD.dst (PD.bl.length : Int) PD.proto ++ PD.bl) = 65535 := hy
    have l299 : W35.heap.size ≤ g42 := Nat.le_of_eq ge45.symm
    have b300 := hb47.trans (hb52.mono l299)
    have b301 := bt b300 hb252
    have b302 := bt b301 hb260
    have b303 := bt b302 hb277
    have b304 := bt b303 hb281
    have b305 := bt b304 hb291
    have own306 := hO41.to b305
    refine t1 12 rfl (ow_call (fun v w' => v = .bool true ∧ Below W290.heap.size W290 w') (by exact xk Try.func18) ((right18_any _ _ _ _ _ _ _ _ W290 (own_byS hO293) (own_byS own306) (by simp only [pse6, pse4, D4.src, D4.dst, List.length_append, List.length_cons, List.length_nil, hR.ok.srcL, hR.ok.dstL]; omega)).mono fun e w' h => ⟨_, h.1, by rw [decide_eq_true hy2], h.2⟩) ?_)
    rintro _ W307 ⟨rfl, hb308⟩
    have z309 := hb308.size
    refine ⟨(Below.trans hS298 (hb308.mono hS298.size)), ?_⟩
    have hS310 := (Below.trans hS298 (hb308.mono hS298.size))
    simp only [lay]
    refine te 13 (.bool true) hS310 rfl (by intro _ _; exact xa) ?_
    simp only [lay]
    refine wpAnyH_done (by kernel_rfl) ?_ _
    change Code.wp _ _ _ _ _
    refine wp_ret ?_
    try simp only [Exit.then]
    have b311 := bt b274 hb277
    have b312 := bt b311 hb281
    have b313 := bt b312 hb291
    have b314 := bt b313 hb308
    exact bodyPost_ret (res_one Try.results6 rfl) rfl ⟨rfl, b314⟩
   have b315 := bt b33 hb36
   have b316 := bt b315 hb47
   have l317 := lq b315 ge45
   have b318 := b316.trans (hb52.mono l317)
   have b319 := bt b318 hb252
   have b320 := bt b319 hb260
   have by321 := yb6.to b320
   refine t1 21 rfl (ow_call (fun v w' => v = .bool false ∧ Below W259.heap.size W259 w') (by exact xk Try.func18) ((right18_any _ _ _ _ _ _ _ _ W259 (own_byS hO262) by321 (by simp only [pse6, pse4, D4.src, D4.dst, List.length_append, List.length_cons, List.length_nil, hR.ok.srcL, hR.ok.dstL]; omega)).mono fun e w' h => ⟨_, h.1, by rw [decide_eq_false q268], h.2⟩) ?_)
   rintro _ W322 ⟨rfl, hb323⟩
   have z324 := hb323.size
   refine ⟨(Below.trans hS267 (hb323.mono hS267.size)), ?_⟩
   have hS325 := (Below.trans hS267 (hb323.mono hS267.size))
   simp only [lay]
   refine te 22 (.bool true) hS325 rfl (by intro _ _; exact ex_not (b := false) (by exact rfl) (by exact rfl)) ?_
   simp only [lay]
   refine te 23 (.bool true) hS325 rfl (by intro _ _; exact xp (b := false)) ?_
   simp only [lay]
   refine wpAnyH_done (by kernel_rfl) ?_ _
   change Code.wp _ _ _ _ _
   refine cT9 ?_
   refine wp_sr ?_
   refine lv (.bool true) (by exact xa) ?_
   simp only [lay]
   refine wn ?_
   refine wp_ret ?_
   try simp only [Exit.then]
   have b326 := bt b320 hb323
   exact bodyPost_ret (res_one Try.results6 rfl) rfl ⟨rfl, b326⟩
  refine te 2 (.bool true) hS254 rfl (by intro _ _; exact neq_int_ne (by exact rfl) (by exact rfl) (by exact rfl) (by first | assumption | omega)) ?_
  simp only [lay]
  refine te 3 (.bool true) hS254 rfl (by intro _ _; exact xm) ?_
  simp only [lay]
  refine te 4 (.pointer (some ⟨g1, 40, none⟩)) hS254 rfl (by intro _ _; exact xf 40 0 Try.underlying28) ?_
  simp only [lay]
  refine te 5 (.int .u8 d.pro) hS254 rfl (by intro _ h; exact xc Try.underlying5 ((has59.to h).cell 40 rfl)) ?_
  simp only [lay]
  by_cases q327 : d.pro = 17
  case pos =>
   refine te 6 (.bool false) hS254 rfl (by intro _ _; exact neq_int_eq (by exact rfl) (by exact rfl) (by exact rfl) (by first | assumption | omega)) ?_
   simp only [lay]
   refine te 7 (.bool false) hS254 rfl (by intro _ _; exact xp (b := true)) ?_
   simp only [lay]
   refine te 8 (.bool false) hS254 rfl (by intro _ _; exact xm) ?_
   simp only [lay]
   refine te 9 (.pointer (some ⟨g1, 3, none⟩)) hS254 rfl (by intro _ _; exact xf 3 15 Try.underlying28) ?_
   simp only [lay]
   refine te 10 (.slice (some ⟨g1, 3, none⟩) 16 16) hS254 rfl (by intro _ _; exact ex_arr (by exact rfl) Try.underlying24 (by kernel_rfl) (by exact rfl)) ?_
   simp only [lay]
   refine te 11 (.pointer (some ⟨g1, 19, none⟩)) hS254 rfl (by intro _ _; exact xf 19 15 Try.underlying28) ?_
   simp only [lay]
   refine te 12 (.slice (some ⟨g1, 19, none⟩) 16 16) hS254 rfl (by intro _ _; exact ex_arr (by exact rfl) Try.underlying24 (by kernel_rfl) (by exact rfl)) ?_
   simp only [lay]
   refine te 13 (.pointer (some ⟨g1, 40, none⟩)) hS254 rfl (by intro _ _; exact xf 40 0 Try.underlying28) ?_
   simp only [lay]
   refine te 14 (.int .u8 d.pro) hS254 rfl (by intro _ h; exact xc Try.underlying5 ((has59.to h).cell 40 rfl)) ?_
   simp only [lay]
   refine te 15 (.pointer (some ⟨g1, 41, none⟩)) hS254 rfl (by intro _ _; exact xf 41 0 Try.underlying28) ?_
   simp only [lay]
   refine te 16 (.slice p.bA d.bl.length p.bc) hS254 rfl (by intro _ h; exact xc Try.underlying26 ((has59.to h).cell 41 rfl)) ?_
   simp only [lay]
   refine te 17 (.int .i64 (d.bl.length : Int)) hS254 rfl (by intro _ _; exact xz Try.underlying26) ?_
   simp only [lay]
   refine te 19 (.pointer (some ⟨g1, 41, none⟩)) hS254 rfl (by intro _ _; exact xf 41 0 Try.underlying28) ?_
   simp only [lay]
   refine te 20 (.slice p.bA d.bl.length p.bc) hS254 rfl (by intro _ h; exact xc Try.underlying26 ((has59.to h).cell 41 rfl)) ?_
   simp only [lay]
   have b328 := bt b58 hb252
   have has329 := hg3.to b328
   refine t1 18 rfl (ow_call (fun v w' => OwnB w' W251.heap.size v (pse6 d.src d.dst (d.bl.length : Int) d.pro) ∧ Below W251.heap.size W251 w') (by exact xk Try.func19) (rpse6_any d.src d.dst hR.ok.srcL hR.ok.dstL d.pro (d.bl.length : Int) hR.ok.pro.1 hR.ok.pro.2 (by omega) (by omega) _ _ _ _ W251 (has329.byIn 3 16 d.src hR.ok.srcL ((show (_ : List Value) = u8s (l16 d.src) from by kernel_rfl).trans (u8s_16 hR.ok.srcL)) hR.ok.src (by decide)) (has329.byIn 19 16 d.dst hR.ok.dstL ((show (_ : List Value) = u8s (l16 d.dst) from by kernel_rfl).trans (u8s_16 hR.ok.dstL)) hR.ok.dst (by decide))) ?_)
   rintro v332 W330 ⟨hO333, hb331⟩
   have z334 := hb331.size
   obtain ⟨A335, c336, rfl, y337⟩ := hO333.by_
   refine ⟨(Below.trans hS254 (hb331.mono hS254.size)), ?_⟩
   have hS338 := (Below.trans hS254 (hb331.mono hS254.size))
   simp only [lay]
   by_cases q339 : sumw (pse6 d.src d.dst (d.bl.length : Int) d.pro ++ d.bl) = 65535
   case pos =>
    have b340 := bt b33 hb36
    have b341 := bt b340 hb47
    have l342 := lq b340 ge45
    have b343 := b341.trans (hb52.mono l342)
    have b344 := bt b343 hb252
    have b345 := bt b344 hb331
    have by346 := yb6.to b345
    refine t1 21 rfl (ow_call (fun v w' => v = .bool true ∧ Below W330.heap.size W330 w') (by exact xk Try.func18) ((right18_any _ _ _ _ _ _ _ _ W330 (own_byS hO333) by346 (by simp only [pse6, pse4, D4.src, D4.dst, List.length_append, List.length_cons, List.length_nil, hR.ok.srcL, hR.ok.dstL]; omega)).mono fun e w' h => ⟨_, h.1, by rw [decide_eq_true q339], h.2⟩) ?_)
    rintro _ W347 ⟨rfl, hb348⟩
    have z349 := hb348.size
    refine ⟨(Below.trans hS338 (hb348.mono hS338.size)), ?_⟩
    have hS350 := (Below.trans hS338 (hb348.mono hS338.size))
    simp only [lay]
    refine te 22 (.bool false) hS350 rfl (by intro _ _; exact ex_not (b := true) (by exact rfl) (by exact rfl)) ?_
    simp only [lay]
    refine te 23 (.bool false) hS350 rfl (by intro _ _; exact xp (b := false)) ?_
    simp only [lay]
    refine wpAnyH_done (by kernel_rfl) ?_ _
    change Code.wp _ _ _ _ _
    refine cF9 ?_
    refine wp_skip ?_
    change Code.wp _ _ _ _ _
    refine wp_seq ?_
    refine rg_drawn W347.heap.size (by kernel_rfl) (Nat.le_refl _) ?_
    intro W351 hb352 hs353 hS354
    have z355 := hb352.size
    refine te 0 (.pointer (some ⟨g42, 7, none⟩)) hS354 rfl (by intro _ _; exact xf 7 3 Try.underlying35) ?_
    simp only [lay]
    refine te 1 (.slice (some ⟨g42, 7, none⟩) 4 4) hS354 rfl (by intro _ _; exact ex_arr (by exact rfl) Try.underlying30 (by kernel_rfl) (by exact rfl)) ?_
    simp only [lay]
    refine te 2 (.pointer (some ⟨g42, 11, none⟩)) hS354 rfl (by intro _ _; exact xf 11 3 Try.underlying35) ?_
    simp only [lay]
    refine te 3 (.slice (some ⟨g42, 11, none⟩) 4 4) hS354 rfl (by intro _ _; exact ex_arr (by exact rfl) Try.underlying30 (by kernel_rfl) (by exact rfl)) ?_
    simp only [lay]
    refine te 4 (.pointer (some ⟨g42, 6, none⟩)) hS354 rfl (by intro _ _; exact xf 6 0 Try.underlying35) ?_
    simp only [lay]
    have b356 := bt hb252 hb331
    have b357 := bt b356 hb348
    have has358 := hg50.to b357
    refine te 5 (.int .u8 PD.proto) hS354 rfl (by intro _ h; exact xc Try.underlying5 ((has358.to h).cell 6 rfl)) ?_
    simp only [lay]
    refine te 6 (.pointer (some ⟨g42, 16, none⟩)) hS354 rfl (by intro _ _; exact xf 16 0 Try.underlying35) ?_
    simp only [lay]
    refine te 7 (.slice p37.bA PD.bl.length p37.bc) hS354 rfl (by intro _ h; exact xc Try.underlying26 ((has358.to h).cell 16 rfl)) ?_
    simp only [lay]
    refine te 8 (.int .i64 (PD.bl.length : Int)) hS354 rfl (by intro _ _; exact xz Try.underlying26) ?_
    simp only [lay]
    refine te 10 (.pointer (some ⟨g42, 16, none⟩)) hS354 rfl (by intro _ _; exact xf 16 0 Try.underlying35) ?_
    simp only [lay]
    refine te 11 (.slice p37.bA PD.bl.length p37.bc) hS354 rfl (by intro _ h; exact xc Try.underlying26 ((has358.to h).cell 16 rfl)) ?_
    simp only [lay]
    have hpl := pack18_at (hPE.trans (by assumption))
    rw [hPD] at hpl
    have b359 := bt b357 hb352
    have has360 := hg50.to b359
    refine t1 9 rfl (ow_call (fun v w' => OwnB w' W351.heap.size v (pse4 PD.src PD.dst (PD.bl.length : Int) PD.proto) ∧ Below W351.heap.size W351 w') (by exact xk Try.func19) (rpse4_any PD.src PD.dst rfl rfl PD.proto (PD.bl.length : Int) hPok.proto.1 hPok.proto.2 (by omega) (by omega) _ _ _ _ W351 (has360.byIn 7 4 PD.src rfl (by kernel_rfl) hPok.src (by decide)) (has360.byIn 11 4 PD.dst rfl (by kernel_rfl) hPok.dst (by decide))) ?_)
    rintro v363 W361 ⟨hO364, hb362⟩
    have z365 := hb362.size
    obtain ⟨A366, c367, rfl, y368⟩ := hO364.by_
    refine ⟨(Below.trans hS354 (hb362.mono hS354.size)), ?_⟩
    have hS369 := (Below.trans hS354 (hb362.mono hS354.size))
    simp only [lay]
    have qp : d.part = false := by unfold D6.part; simp [*]; try omega
    have hy := right18_seg (s' := s') (t' := t') hR.ok hE hR.body.rng (hPE.trans (by assumption)) qp (by omega) (by assumption)
    rw [hPD] at hy
    have hy2 : sumw (pse4 PD.src PD.dst (PD.bl.length : Int) PD.proto ++ PD.bl) = 65535 := hy
    have l370 : W35.heap.size ≤ g42 := Nat.le_of_eq ge45.symm
    have b371 := hb47.trans (hb52.mono l370)
    have b372 := bt b371 hb252
    have b373 := bt b372 hb331
    have b374 := bt b373 hb348
    have b375 := bt b374 hb352
    have b376 := bt b375 hb362
    have own377 := hO41.to b376
    refine t1 12 rfl (ow_call (fun v w' => v = .bool true ∧ Below W361.heap.size W361 w') (by exact xk Try.func18) ((right18_any _ _ _ _ _ _ _ _ W361 (own_byS hO364) (own_byS own377) (by simp only [pse6, pse4, D4.src, D4.dst, List.length_append, List.length_cons, List.length_nil, hR.ok.srcL, hR.ok.dstL]; omega)).mono fun e w' h => ⟨_, h.1, by rw [decide_eq_true hy2], h.2⟩) ?_)
    rintro _ W378 ⟨rfl, hb379⟩
    have z380 := hb379.size
    refine ⟨(Below.trans hS369 (hb379.mono hS369.size)), ?_⟩
    have hS381 := (Below.trans hS369 (hb379.mono hS369.size))
    simp only [lay]
    refine te 13 (.bool true) hS381 rfl (by intro _ _; exact xa) ?_
    simp only [lay]
    refine wpAnyH_done (by kernel_rfl) ?_ _
    change Code.wp _ _ _ _ _
    refine wp_ret ?_
    try simp only [Exit.then]
    have b382 := bt b345 hb348
    have b383 := bt b382 hb352
    have b384 := bt b383 hb362
    have b385 := bt b384 hb379
    exact bodyPost_ret (res_one Try.results6 rfl) rfl ⟨rfl, b385⟩
   have b386 := bt b33 hb36
   have b387 := bt b386 hb47
   have l388 := lq b386 ge45
   have b389 := b387.trans (hb52.mono l388)
   have b390 := bt b389 hb252
   have b391 := bt b390 hb331
   have by392 := yb6.to b391
   refine t1 21 rfl (ow_call (fun v w' => v = .bool false ∧ Below W330.heap.size W330 w') (by exact xk Try.func18) ((right18_any _ _ _ _ _ _ _ _ W330 (own_byS hO333) by392 (by simp only [pse6, pse4, D4.src, D4.dst, List.length_append, List.length_cons, List.length_nil, hR.ok.srcL, hR.ok.dstL]; omega)).mono fun e w' h => ⟨_, h.1, by rw [decide_eq_false q339], h.2⟩) ?_)
   rintro _ W393 ⟨rfl, hb394⟩
   have z395 := hb394.size
   refine ⟨(Below.trans hS338 (hb394.mono hS338.size)), ?_⟩
   have hS396 := (Below.trans hS338 (hb394.mono hS338.size))
   simp only [lay]
   refine te 22 (.bool true) hS396 rfl (by intro _ _; exact ex_not (b := false) (by exact rfl) (by exact rfl)) ?_
   simp only [lay]
   refine te 23 (.bool true) hS396 rfl (by intro _ _; exact xp (b := false)) ?_
   simp only [lay]
   refine wpAnyH_done (by kernel_rfl) ?_ _
   change Code.wp _ _ _ _ _
   refine cT9 ?_
   refine wp_sr ?_
   refine lv (.bool true) (by exact xa) ?_
   simp only [lay]
   refine wn ?_
   refine wp_ret ?_
   try simp only [Exit.then]
   have b397 := bt b391 hb394
   exact bodyPost_ret (res_one Try.results6 rfl) rfl ⟨rfl, b397⟩
  refine te 6 (.bool true) hS254 rfl (by intro _ _; exact neq_int_ne (by exact rfl) (by exact rfl) (by exact rfl) (by first | assumption | omega)) ?_
  simp only [lay]
  refine te 7 (.bool true) hS254 rfl (by intro _ _; exact xp (b := true)) ?_
  simp only [lay]
  refine te 8 (.bool true) hS254 rfl (by intro _ _; exact xm) ?_
  simp only [lay]
  refine tn 9 hS254 rfl ?_
  simp only [lay]
  refine tn 10 hS254 rfl ?_
  simp only [lay]
  refine tn 11 hS254 rfl ?_
  simp only [lay]
  refine tn 12 hS254 rfl ?_
  simp only [lay]
  refine tn 13 hS254 rfl ?_
  simp only [lay]
  refine tn 14 hS254 rfl ?_
  simp only [lay]
  refine tn 15 hS254 rfl ?_
  simp only [lay]
  refine tn 16 hS254 rfl ?_
  simp only [lay]
  refine tn 17 hS254 rfl ?_
  simp only [lay]
  refine tn 18 hS254 rfl ?_
  simp only [lay]
  refine tn 19 hS254 rfl ?_
  simp only [lay]
  refine tn 20 hS254 rfl ?_
  simp only [lay]
  refine tn 21 hS254 rfl ?_
  simp only [lay]
  refine tn 22 hS254 rfl ?_
  simp only [lay]
  refine te 23 (.bool true) hS254 rfl (by intro _ _; exact xp (b := true)) ?_
  simp only [lay]
  refine wpAnyH_done (by kernel_rfl) ?_ _
  change Code.wp _ _ _ _ _
  refine cT9 ?_
  refine wp_sr ?_
  refine lv (.bool true) (by exact xa) ?_
  simp only [lay]
  refine wn ?_
  refine wp_ret ?_
  try simp only [Exit.then]
  have b398 := bt b33 hb36
  have b399 := bt b398 hb47
  have l400 := lq b398 ge45
  have b401 := b399.trans (hb52.mono l400)
  have b402 := bt b401 hb252
  exact bodyPost_ret (res_one Try.results6 rfl) rfl ⟨rfl, b402⟩
 refine lv (.bool true) (by exact neq_int_ne (by exact rfl) (by exact rfl) (by exact rfl) (by first | assumption | omega)) ?_
 simp only [lay]
 refine lv (.bool true) (by exact xm) ?_
 simp only [lay]
 refine lzn ?_
 simp only [lay]
 refine lzn ?_
 simp only [lay]
 refine lzn ?_
 simp only [lay]
 refine lzn ?_
 simp only [lay]
 refine lzn ?_
 simp only [lay]
 refine lzn ?_
 simp only [lay]
 refine lzn ?_
 simp only [lay]
 refine lzn ?_
 simp only [lay]
 refine lzn ?_
 simp only [lay]
 refine lzn ?_
 simp only [lay]
 refine lzn ?_
 simp only [lay]
 refine lv (.bool true) (by exact xp (b := true)) ?_
 simp only [lay]
 refine wn ?_
 refine cT9 ?_
 refine wp_sr ?_
 refine lv (.int .i64 PE) (by exact xm) ?_
 simp only [lay]
 refine lv (.bool false) (by exact yqn) ?_
 simp only [lay]
 refine lv (.bool false) (by exact xm) ?_
 simp only [lay]
 refine lv (.agg (PD.cells p37)) (by exact xo (hg50.load (P := Try.prog) 35 Try.underlying35 rfl (by kernel_rfl))) ?_
 simp only [lay]
 refine lv (.agg #[.int .u8 0, .int .u16 0, .bool false, .bool false, .int .i64 0, .int .u8 0, .int .u8 0, .int .u8 0, .int .u8 0, .int .u8 0, .int .u8 0, .int .u8 0, .int .u8 0, .int .u8 0, .int .u8 0, .slice none 0 0, .slice none 0 0]) (by kernel_rfl) ?_
 simp only [lay]
 have l404 : W35.heap.size ≤ g42 := Nat.le_of_eq ge45.symm
 have b405 := hb47.trans (hb52.mono l404)
 have own4406 := ho38.to b405
 have hz := pack18_none (s' := s') (t' := t') (by rw [hPE]; assumption : ¬ (pack18 d s t s' t').2 = 0)
 rw [hPD] at hz
 refine lz (ow_call (fun v w' => v = .bool true ∧ Below W49.heap.size W49 w') (by exact xk Try.func11) ((rsame4_any _ _ PD zero18 p37 pZ18 W49 (own_byS own4406.opt) (By.nil _ _ none (Nat.zero_le _)) (own_byS own4406.body) (By.nil _ _ none (Nat.zero_le _)) (Nat.le_refl _) (Nat.le_refl _)).mono (by rintro e w' ⟨q, rfl, hq, hb⟩; obtain rfl : q = true := hq.out.trans (by rw [hz]; simp [same4]); exact ⟨_, rfl, rfl, hb⟩)) ?_)
 rintro _ W407 ⟨rfl, hb408⟩
 have z409 := hb408.size
 simp only [lay]
 refine lv (.bool true) (by exact xp (b := false)) ?_
 simp only [lay]
 refine lv (.bool true) (by exact xa) ?_
 simp only [lay]
 refine wn ?_
 refine wp_ret ?_
 try simp only [Exit.then]
 have b410 := bt b33 hb36
 have b411 := bt b410 hb47
 have l412 := lq b410 ge45
 have b413 := b411.trans (hb52.mono l412)
 have b414 := bt b413 hb408
 exact bodyPost_ret (res_one Try.results6 rfl) rfl ⟨rfl, b414⟩
set_option maxRecDepth 100000 in
set_option maxHeartbeats 4000000 in
theorem long18_walk (d : D6) (p : W6) (s t s' t' : List Int) (w : World) (hR : Rd6 w.heap.size w d p) (hE : E4ok s t) (hE' : E4ok s' t') :
  Calls Try.prog 7 #[.agg (d.cells p), .agg (e4c s t), .agg (e4c s' t')] w fun e w' => e = .returned (.bool true) ∧ Below w.heap.size w w' := by
 obtain ⟨PD, hPD⟩ : ∃ x, (pack18 d s t s' t').1 = x := ⟨_, rfl⟩
 obtain ⟨PE, hPE⟩ : ∃ x, (pack18 d s t s' t').2 = x := ⟨_, rfl⟩
 have yb6 := hR.body
 have hlb := yb6.len
 go_enter Try.func7, Try.ntmps7
 refine wp_sr ?_
 refine lz (ow_box 28 (.tmp 0) _ rfl rfl ?_)
 intro g1 W2 hg3 ge4 sz5 hb6
 have z7 := hb6.size
 simp only [lay]
 refine lz (ow_box 32 (.tmp 1) _ rfl rfl ?_)
 intro g8 W9 hg10 ge11 sz12 hb13
 have z14 := hb13.size
 simp only [lay]
 refine lz (ow_box 32 (.tmp 2) _ rfl rfl ?_)
 intro g15 W16 hg17 ge18 sz19 hb20
 have z21 := hb20.size
 simp only [lay]
 refine lv (.bool false) (by exact xa) ?_
 simp only [lay]
 refine wn ?_
 refine wp_seq ?_
 refine wp_sr ?_
 refine lz (ow_call (fun v w' => v = .bool true ∧ Below W16.heap.size W16 w') (by exact xk Try.func12) ((awake18_any W16).mono fun e w' h => ⟨_, h.1, rfl, h.2⟩) ?_)
 rintro _ W22 ⟨rfl, hb23⟩
 have z24 := hb23.size
 simp only [lay]
 refine lv (.bool false) (by exact ex_not (b := true) (by exact rfl) (by exact rfl)) ?_
 simp only [lay]
 refine wn ?_
 refine cF9 ?_
 refine wp_skip ?_
 change Code.wp _ _ _ _ _
 refine wp_sr ?_
 have b25 := bt hb13 hb20
 have b26 := bt b25 hb23
 have has27 := hg3.to b26
 refine lv (.agg (d.cells p)) (by exact xo (has27.load (P := Try.prog) 28 Try.underlying28 rfl (by kernel_rfl))) ?_
 simp only [lay]
 have b28 := bt hb20 hb23
 have has29 := hg10.to b28
 refine lv (.agg (e4c s t)) (by exact xo (has29.load (P := Try.prog) 32 Try.underlying32 rfl (by kernel_rfl))) ?_
 simp only [lay]
 have has30 := hg17.to hb23
 refine lv (.agg (e4c s' t')) (by exact xo (has30.load (P := Try.prog) 32 Try.underlying32 rfl (by kernel_rfl))) ?_
 simp only [lay]
 have b31 := bt hb6 hb13
 have b32 := bt b31 hb20
 have b33 := bt b32 hb23
 have rd34 := hR.to b33
 refine lz (ow_call (fun v w' => (∃ q, v = .tuple #[.agg (PD.cells q), .int .i64 PE] ∧ Own4 w' W22.heap.size PD q) ∧ Below W22.heap.size W22 w') (by exact xk Try.func9) ((pack18_any d p s t s' t' hE hE' W22 rd34).mono (by rintro e w' ⟨⟨q, rfl, ho⟩, hb⟩; rw [hPD] at ho; exact ⟨_, rfl, ⟨q, by rw [hPD, hPE], ho⟩, hb⟩)) ?_)
 rintro _ W35 ⟨⟨p37, rfl, ho38⟩, hb36⟩
 have z39 := hb36.size
 have hO40 := ho38.opt
 have hO41 := ho38.body
 simp only [lay]
 refine lv (.tuple #[.agg (PD.cells p37), .int .i64 PE]) (by exact xm) ?_
 simp only [lay]
 refine lv (.agg (PD.cells p37)) (by exact xe) ?_
 simp only [lay]
 refine lv (.int .i64 PE) (by exact xe) ?_
 simp only [lay]
 refine lz (oa #[.int .u8 0, .int .u16 0, .bool false, .bool false, .int .i64 0, .int .u8 0, .int .u8 0, .int .u8 0, .int .u8 0, .int .u8 0, .int .u8 0, .int .u8 0, .int .u8 0, .int .u8 0, .int .u8 0, .slice none 0 0, .slice none 0 0] ?_)
 intro g42 W43 hg44 ge45 sz46 hb47
 have z48 := hb47.size
 simp only [lay]
 refine lz (ow_st 35 (.tmp 7) (.tmp 19) g42 (PD.cells p37) _ _ rfl (by exact rfl) (by exact rfl) hg44 (by kernel_rfl) rfl (by kernel_rfl) ?_)
 intro W49 hg50 bs51 hb52
 have z53 := hb52.size
 simp only [lay]
 refine lv (.int .i64 PE) (by exact xa) ?_
 simp only [lay]
 refine wn ?_
 refine wp_seq ?_
 refine wp_sr ?_
 refine lv (.int .i64 PE) (by exact xm) ?_
 simp only [lay]
 by_cases q54 : PE = 0
 case pos =>
  obtain ⟨hLf1, hLf2, hLf3, hLf4, hLf5, hLf6, hLf7⟩ := long18_fields hE (hPE.trans q54)
  rw [hPD] at hLf1 hLf2 hLf3 hLf4 hLf5 hLf6 hLf7
  obtain ⟨hLg1, hLg2, hLg3, hLg4⟩ := long18 hE (hPE.trans q54)
  rw [hPD] at hLg1 hLg2 hLg3 hLg4
  have hLg5 := D4.all_of hLg1 hLg2
  have hbl := (check18 (pack18_ok (hPE.trans q54)).1).2.2
  refine lv (.bool false) (by exact neq_int_eq (by exact rfl) (by exact rfl) (by exact rfl) (by first | assumption | omega)) ?_
  simp only [lay]
  refine wn ?_
  refine cF9 ?_
  refine wp_skip ?_
  change Code.wp _ _ _ _ _
  refine wp_seq ?_
  refine wp_sr ?_
  refine lv (.pointer (some ⟨g42, 7, none⟩)) (by exact xf 7 3 Try.underlying35) ?_
  simp only [lay]
  refine lv (.agg #[.int .u8 PD.s0, .int .u8 PD.s1, .int .u8 PD.s2, .int .u8 PD.s3]) (by exact ex_loadAt (by exact rfl) (by exact rfl) (hg50.loadIn (P := Try.prog) 7 [.int .u8 PD.s0, .int .u8 PD.s1, .int .u8 PD.s2, .int .u8 PD.s3] (by kernel_rfl) 30 Try.underlying30 rfl (by kernel_rfl))) ?_
  simp only [lay]
  refine lv (.pointer (some ⟨g8, 0, none⟩)) (by exact xf 0 3 Try.underlying32) ?_
  simp only [lay]
  have b55 := bt b28 hb36
  have b56 := bt b55 hb47
  have l57 := lq b55 ge45
  have b58 := b56.trans (hb52.mono l57)
  have has59 := hg10.to b58
  refine lv (.agg #[.int .u8 (s.getD 0 0), .int .u8 (s.getD 1 0), .int .u8 (s.getD 2 0), .int .u8 (s.getD 3 0)]) (by exact ex_loadAt (by exact rfl) (by exact rfl) (has59.loadIn (P := Try.prog) 0 [.int .u8 (s.getD 0 0), .int .u8 (s.getD 1 0), .int .u8 (s.getD 2 0), .int .u8 (s.getD 3 0)] (by kernel_rfl) 30 Try.underlying30 rfl (by kernel_rfl))) ?_
  simp only [lay]
  refine lv (.bool false) (by exact ex_ne_a4 s (by exact rfl) (by exact rfl) (by exact rfl) (hLf1.trans (four_eq hE.sL).symm)) ?_
  simp only [lay]
  refine lv (.bool false) (by exact xm) ?_
  simp only [lay]
  refine lv (.pointer (some ⟨g42, 11, none⟩)) (by exact xf 11 3 Try.underlying35) ?_
  simp only [lay]
  refine lv (.agg #[.int .u8 PD.d0, .int .u8 PD.d1, .int .u8 PD.d2, .int .u8 PD.d3]) (by exact ex_loadAt (by exact rfl) (by exact rfl) (hg50.loadIn (P := Try.prog) 11 [.int .u8 PD.d0, .int .u8 PD.d1, .int .u8 PD.d2, .int .u8 PD.d3] (by kernel_rfl) 30 Try.underlying30 rfl (by kernel_rfl))) ?_
  simp only [lay]
  refine lv (.pointer (some ⟨g8, 4, none⟩)) (by exact xf 4 3 Try.underlying32) ?_
  simp only [lay]
  refine lv (.agg #[.int .u8 (t.getD 0 0), .int .u8 (t.getD 1 0), .int .u8 (t.getD 2 0), .int .u8 (t.getD 3 0)]) (by exact ex_loadAt (by exact rfl) (by exact rfl) (has59.loadIn (P := Try.prog) 4 [.int .u8 (t.getD 0 0), .int .u8 (t.getD 1 0), .int .u8 (t.getD 2 0), .int .u8 (t.getD 3 0)] (by kernel_rfl) 30 Try.underlying30 rfl (by kernel_rfl))) ?_
  simp only [lay]
  refine lv (.bool false) (by exact ex_ne_a4 t (by exact rfl) (by exact rfl) (by exact rfl) (hLf2.trans (four_eq hE.tL).symm)) ?_
  simp only [lay]
  refine lv (.bool false) (by exact xp (b := false)) ?_
  simp only [lay]
  refine lv (.bool false) (by exact xm) ?_
  simp only [lay]
  refine lv (.pointer (some ⟨g42, 5, none⟩)) (by exact xf 5 0 Try.underlying35) ?_
  simp only [lay]
  refine lv (.int .u8 PD.ttl) (by exact xc Try.underlying5 (hg50.cell 5 rfl)) ?_
  simp only [lay]
  refine lv (.pointer (some ⟨g1, 2, none⟩)) (by exact xf 2 0 Try.underlying28) ?_
  simp only [lay]
  have b60 := bt b26 hb36
  have b61 := bt b60 hb47
  have l62 := lq b60 ge45
  have b63 := b61.trans (hb52.mono l62)
  have has64 := hg3.to b63
  refine lv (.int .u8 d.hop) (by exact xc Try.underlying5 (has64.cell 2 rfl)) ?_
  simp only [lay]
  refine lv (.bool false) (by exact neq_int_eq (by exact rfl) (by exact rfl) (by exact rfl) hLf3) ?_
  simp only [lay]
  refine lv (.bool false) (by exact xp (b := false)) ?_
  simp only [lay]
  refine lv (.bool false) (by exact xm) ?_
  simp only [lay]
  refine lv (.pointer (some ⟨g42, 0, none⟩)) (by exact xf 0 0 Try.underlying35) ?_
  simp only [lay]
  refine lv (.int .u8 PD.tos) (by exact xc Try.underlying5 (hg50.cell 0 rfl)) ?_
  simp only [lay]
  refine lv (.pointer (some ⟨g1, 0, none⟩)) (by exact xf 0 0 Try.underlying28) ?_
  simp only [lay]
  refine lv (.int .u8 d.cls) (by exact xc Try.underlying5 (has64.cell 0 rfl)) ?_
  simp only [lay]
  refine lv (.bool false) (by exact neq_int_eq (by exact rfl) (by exact rfl) (by exact rfl) hLf4) ?_
  simp only [lay]
  refine lv (.bool false) (by exact xp (b := false)) ?_
  simp only [lay]
  refine lv (.bool false) (by exact xm) ?_
  simp only [lay]
  refine lv (.pointer (some ⟨g42, 2, none⟩)) (by exact xf 2 0 Try.underlying35) ?_
  simp only [lay]
  refine lv (.bool PD.df) (by exact xc Try.underlying4 (hg50.cell 2 rfl)) ?_
  simp only [lay]
  refine lv (.pointer (some ⟨g1, 36, none⟩)) (by exact xf 36 0 Try.underlying28) ?_
  simp only [lay]
  refine lv (.bool d.frag) (by exact xc Try.underlying4 (has64.cell 36 rfl)) ?_
  simp only [lay]
  refine lv (.bool false) (by exact ex_eq_bool6 (q := false) (by exact rfl) Try.underlying4 (by exact rfl) (by exact rfl) (by rw [hLf5]; cases d.frag <;> rfl)) ?_
  simp only [lay]
  refine lv (.bool false) (by exact xp (b := false)) ?_
  simp only [lay]
  refine lv (.bool false) (by exact xm) ?_
  simp only [lay]
  refine lv (.pointer (some ⟨g42, 3, none⟩)) (by exact xf 3 0 Try.underlying35) ?_
  simp only [lay]
  refine lv (.bool PD.mf) (by exact xc Try.underlying4 (hg50.cell 3 rfl)) ?_
  simp only [lay]
  refine lv (.pointer (some ⟨g1, 39, none⟩)) (by exact xf 39 0 Try.underlying28) ?_
  simp only [lay]
  refine lv (.bool d.more) (by exact xc Try.underlying4 (has64.cell 39 rfl)) ?_
  simp only [lay]
  refine lv (.bool false) (by exact ex_ne_bool6 (q := false) (by exact rfl) Try.underlying4 (by exact rfl) (by exact rfl) (by rw [hLf6]; cases d.more <;> rfl)) ?_
  simp only [lay]
  refine lv (.bool false) (by exact xp (b := false)) ?_
  simp only [lay]
  refine lv (.bool false) (by exact xm) ?_
  simp only [lay]
  refine lv (.pointer (some ⟨g42, 4, none⟩)) (by exact xf 4 0 Try.underlying35) ?_
  simp only [lay]
  refine lv (.int .i64 PD.off) (by exact xc Try.underlying3 (hg50.cell 4 rfl)) ?_
  simp only [lay]
  refine lv (.pointer (some ⟨g1, 38, none⟩)) (by exact xf 38 0 Try.underlying28) ?_
  simp only [lay]
  refine lv (.int .i64 d.off) (by exact xc Try.underlying3 (has64.cell 38 rfl)) ?_
  simp only [lay]
  refine lv (.bool false) (by exact neq_int_eq (by exact rfl) (by exact rfl) (by exact rfl) hLf7) ?_
  simp only [lay]
  refine lv (.bool false) (by exact xp (b := false)) ?_
  simp only [lay]
  refine lv (.bool false) (by exact xm) ?_
  simp only [lay]
  refine lv (.pointer (some ⟨g42, 15, none⟩)) (by exact xf 15 0 Try.underlying35) ?_
  simp only [lay]
  refine lv (.slice p37.oA PD.ol.length p37.oc) (by exact xc Try.underlying26 (hg50.cell 15 rfl)) ?_
  simp only [lay]
  refine lv (.int .i64 (PD.ol.length : Int)) (by exact xz Try.underlying26) ?_
  simp only [lay]
  refine lv (.bool false) (by exact neq_int_eq (by exact rfl) (by exact rfl) (by exact rfl) (by rw [hLg2]; rfl)) ?_
  simp only [lay]
  refine lv (.bool false) (by exact xp (b := false)) ?_
  simp only [lay]
  refine wn ?_
  refine cF9 ?_
  refine wp_skip ?_
  change Code.wp _ _ _ _ _
  refine wp_sr ?_
  refine lv (.agg (PD.cells p37)) (by exact xo (hg50.load (P := Try.prog) 35 Try.underlying35 rfl (by kernel_rfl))) ?_
  simp only [lay]
  have l65 : W35.heap.size ≤ g42 := Nat.le_of_eq ge45.symm
  have b66 := hb47.trans (hb52.mono l65)
  have own467 := ho38.to b66
  refine lz (ow_call (fun v w' => v = .tuple #[.int .i64 PD.all, .int .i64 PD.head, .int .i64 0] ∧ Below W49.heap.size W49 w') (by exact xk Try.func20) ((rsize_any PD _ W49 (Nat.le_trans (own_byS own467.opt).cap (own_byS own467.opt).big) (Nat.le_trans (own_byS own467.body).cap (own_byS own467.body).big)).mono (by rintro e w' ⟨⟨q, r, z, rfl, hq⟩, hb⟩; exact ⟨_, rfl, by rw [hq.out.1, hq.out.2.1, hq.out.2.2, hLg1], hb⟩)) ?_)
  rintro _ W68 ⟨rfl, hb69⟩
  have z70 := hb69.size
  simp only [lay]
  refine lv (.tuple #[.int .i64 PD.all, .int .i64 PD.head, .int .i64 0]) (by exact xm) ?_
  simp only [lay]
  refine lv (.int .i64 PD.all) (by exact xe) ?_
  simp only [lay]
  refine lv (.int .i64 PD.head) (by exact xe) ?_
  simp only [lay]
  refine lv (.int .i64 0) (by exact xe) ?_
  simp only [lay]
  refine lv (.int .i64 PD.all) (by exact xa) ?_
  simp only [lay]
  refine lv (.int .i64 PD.head) (by exact xa) ?_
  simp only [lay]
  refine lv (.int .i64 0) (by exact xa) ?_
  simp only [lay]
  refine wn ?_
  refine wp_seq ?_
  refine wp_sr ?_
  refine lv (.pointer (some ⟨g1, 40, none⟩)) (by exact xf 40 0 Try.underlying28) ?_
  simp only [lay]
  have b71 := bt b63 hb69
  have has72 := hg3.to b71
  refine lv (.int .u8 d.pro) (by exact xc Try.underlying5 (has72.cell 40 rfl)) ?_
  simp only [lay]
  by_cases q73 : d.pro = 58
  case pos =>
   refine lv (.bool false) (by exact neq_int_eq (by exact rfl) (by exact rfl) (by exact rfl) (by first | assumption | omega)) ?_
   simp only [lay]
   refine lv (.bool false) (by exact xm) ?_
   simp only [lay]
   refine lv (.pointer (some ⟨g1, 41, none⟩)) (by exact xf 41 0 Try.underlying28) ?_
   simp only [lay]
   refine lv (.slice p.bA d.bl.length p.bc) (by exact xc Try.underlying26 (has72.cell 41 rfl)) ?_
   simp only [lay]
   refine lv (.int .i64 (d.bl.length : Int)) (by exact xz Try.underlying26) ?_
   simp only [lay]
   by_cases q74 : (d.bl.length : Int) > 0
   case pos =>
    refine lv (.bool true) (by exact ex_gtr (by exact rfl) (by exact rfl) (by exact rfl) (decide_eq_true (by first | assumption | omega | decide))) ?_
    simp only [lay]
    refine lv (.bool true) (by exact xm) ?_
    simp only [lay]
    refine lv (.pointer (some ⟨g1, 41, none⟩)) (by exact xf 41 0 Try.underlying28) ?_
    simp only [lay]
    refine lv (.slice p.bA d.bl.length p.bc) (by exact xc Try.underlying26 (has72.cell 41 rfl)) ?_
    simp only [lay]
    obtain ⟨b75, o76, hA77⟩ := yb6.form (k := 0) (by omega)
    refine lv (.pointer (some ⟨b75, o76 + 0, none⟩)) (by exact xi 0 Try.underlying26 hA77) ?_
    simp only [lay]
    have b78 := bt b33 hb36
    have b79 := bt b78 hb47
    have l80 := lq b78 ge45
    have b81 := b79.trans (hb52.mono l80)
    have b82 := bt b81 hb69
    have by83 := yb6.to b82
    refine lv (.int .u8 (d.bl.getD 0 0)) (by exact xc Try.underlying5 (by83.atE (k := 0) hA77 (by omega))) ?_
    simp only [lay]
    by_cases q84 : d.bl.getD 0 0 ≥ 128
    case pos =>
     refine lv (.bool true) (by exact ex_geq (by exact rfl) (by exact rfl) (by exact rfl) (decide_eq_true (by first | assumption | omega | decide))) ?_
     simp only [lay]
     refine lv (.bool true) (by exact xp (b := true)) ?_
     simp only [lay]
     refine lv (.bool true) (by exact xp (b := false)) ?_
     simp only [lay]
     refine wn ?_
     refine cT9 ?_
     refine wp_sr ?_
     refine lv (.int .i64 0) (by exact xm) ?_
     simp only [lay]
     refine lv (.bool true) (by exact yq (h := (by decide))) ?_
     simp only [lay]
     refine lv (.bool true) (by exact xm) ?_
     simp only [lay]
     refine lv (.int .i64 PD.all) (by exact xm) ?_
     simp only [lay]
     refine lv (.pointer (some ⟨g1, 41, none⟩)) (by exact xf 41 0 Try.underlying28) ?_
     simp only [lay]
     refine lv (.slice p.bA d.bl.length p.bc) (by exact xc Try.underlying26 (has72.cell 41 rfl)) ?_
     simp only [lay]
     refine lv (.int .i64 (d.bl.length : Int)) (by exact xz Try.underlying26) ?_
     simp only [lay]
     refine lv (.int .i64 (20 + (d.bl.length : Int))) (by exact xb (b_add _ (20 + (d.bl.length : Int)) rfl (by omega) _)) ?_
     simp only [lay]
     have hln : PD.all = 20 + (d.bl.length : Int) := by have := hLg3 (by omega); omega
     refine lv (.bool true) (by exact yq (h := hln)) ?_
     simp only [lay]
     refine lv (.bool true) (by exact xp (b := true)) ?_
     simp only [lay]
     refine lv (.bool true) (by exact xa) ?_
     simp only [lay]
     refine wn ?_
     refine wp_ret ?_
     try simp only [Exit.then]
     exact bodyPost_ret (res_one Try.results7 rfl) rfl ⟨rfl, b82⟩
    refine lv (.bool false) (by exact ex_geq (by exact rfl) (by exact rfl) (by exact rfl) (decide_eq_false (by first | assumption | omega | decide))) ?_
    simp only [lay]
    refine lv (.bool false) (by exact xp (b := true)) ?_
    simp only [lay]
    refine lv (.bool false) (by exact xp (b := false)) ?_
    simp only [lay]
    refine wn ?_
    refine cF9 ?_
    refine wp_skip ?_
    change Code.wp _ _ _ _ _
    refine wp_sr ?_
    refine lv (.int .i64 0) (by exact xm) ?_
    simp only [lay]
    refine lv (.bool true) (by exact yq (h := (by decide))) ?_
    simp only [lay]
    refine lv (.bool true) (by exact xm) ?_
    simp only [lay]
    refine lv (.int .i64 PD.all) (by exact xm) ?_
    simp only [lay]
    have hln : PD.all ≤ 576 := by have := hLg4 (by omega); omega
    refine lv (.bool true) (by exact ex_leq (by exact rfl) (by exact rfl) (by exact rfl) (decide_eq_true hln)) ?_
    simp only [lay]
    refine lv (.bool true) (by exact xp (b := true)) ?_
    simp only [lay]
    refine lv (.bool true) (by exact xa) ?_
    simp only [lay]
    refine wn ?_
    refine wp_ret ?_
    try simp only [Exit.then]
    exact bodyPost_ret (res_one Try.results7 rfl) rfl ⟨rfl, b82⟩
   refine lv (.bool false) (by exact ex_gtr (by exact rfl) (by exact rfl) (by exact rfl) (decide_eq_false (by first | assumption | omega | decide))) ?_
   simp only [lay]
   refine lv (.bool false) (by exact xm) ?_
   simp only [lay]
   refine lzn ?_
   simp only [lay]
   refine lzn ?_
   simp only [lay]
   refine lzn ?_
   simp only [lay]
   refine lzn ?_
   simp only [lay]
   refine lzn ?_
   simp only [lay]
   refine lv (.bool false) (by exact xp (b := false)) ?_
   simp only [lay]
   refine lv (.bool false) (by exact xp (b := false)) ?_
   simp only [lay]
   refine wn ?_
   refine cF9 ?_
   refine wp_skip ?_
   change Code.wp _ _ _ _ _
   refine wp_sr ?_
   refine lv (.int .i64 0) (by exact xm) ?_
   simp only [lay]
   refine lv (.bool true) (by exact yq (h := (by decide))) ?_
   simp only [lay]
   refine lv (.bool true) (by exact xm) ?_
   simp only [lay]
   refine lv (.int .i64 PD.all) (by exact xm) ?_
   simp only [lay]
   have hln : PD.all ≤ 576 := by have := hLg4 (by omega); omega
   refine lv (.bool true) (by exact ex_leq (by exact rfl) (by exact rfl) (by exact rfl) (decide_eq_true hln)) ?_
   simp only [lay]
   refine lv (.bool true) (by exact xp (b := true)) ?_
   simp only [lay]
   refine lv (.bool true) (by exact xa) ?_
   simp only [lay]
   refine wn ?_
   refine wp_ret ?_
   try simp only [Exit.then]
   have b85 := bt b33 hb36
   have b86 := bt b85 hb47
   have l87 := lq b85 ge45
   have b88 := b86.trans (hb52.mono l87)
   have b89 := bt b88 hb69
   exact bodyPost_ret (res_one Try.results7 rfl) rfl ⟨rfl, b89⟩
  refine lv (.bool true) (by exact neq_int_ne (by exact rfl) (by exact rfl) (by exact rfl) (by first | assumption | omega)) ?_
  simp only [lay]
  refine lv (.bool true) (by exact xm) ?_
  simp only [lay]
  refine lzn ?_
  simp only [lay]
  refine lzn ?_
  simp only [lay]
  refine lzn ?_
  simp only [lay]
  refine lzn ?_
  simp only [lay]
  refine lzn ?_
  simp only [lay]
  refine lzn ?_
  simp only [lay]
  refine lzn ?_
  simp only [lay]
  refine lzn ?_
  simp only [lay]
  refine lzn ?_
  simp only [lay]
  refine lzn ?_
  simp only [lay]
  refine lzn ?_
  simp only [lay]
  refine lv (.bool true) (by exact xp (b := true)) ?_
  simp only [lay]
  refine wn ?_
  refine cT9 ?_
  refine wp_sr ?_
  refine lv (.int .i64 0) (by exact xm) ?_
  simp only [lay]
  refine lv (.bool true) (by exact yq (h := (by decide))) ?_
  simp only [lay]
  refine lv (.bool true) (by exact xm) ?_
  simp only [lay]
  refine lv (.int .i64 PD.all) (by exact xm) ?_
  simp only [lay]
  refine lv (.pointer (some ⟨g1, 41, none⟩)) (by exact xf 41 0 Try.underlying28) ?_
  simp only [lay]
  refine lv (.slice p.bA d.bl.length p.bc) (by exact xc Try.underlying26 (has72.cell 41 rfl)) ?_
  simp only [lay]
  refine lv (.int .i64 (d.bl.length : Int)) (by exact xz Try.underlying26) ?_
  simp only [lay]
  refine lv (.int .i64 (20 + (d.bl.length : Int))) (by exact xb (b_add _ (20 + (d.bl.length : Int)) rfl (by omega) _)) ?_
  simp only [lay]
  have hln : PD.all = 20 + (d.bl.length : Int) := by have := hLg3 (by omega); omega
  refine lv (.bool true) (by exact yq (h := hln)) ?_
  simp only [lay]
  refine lv (.bool true) (by exact xp (b := true)) ?_
  simp only [lay]
  refine lv (.bool true) (by exact xa) ?_
  simp only [lay]
  refine wn ?_
  refine wp_ret ?_
  try simp only [Exit.then]
  have b90 := bt b33 hb36
  have b91 := bt b90 hb47
  have l92 := lq b90 ge45
  have b93 := b91.trans (hb52.mono l92)
  have b94 := bt b93 hb69
  exact bodyPost_ret (res_one Try.results7 rfl) rfl ⟨rfl, b94⟩
 refine lv (.bool true) (by exact neq_int_ne (by exact rfl) (by exact rfl) (by exact rfl) (by first | assumption | omega)) ?_
 simp only [lay]
 refine wn ?_
 refine cT9 ?_
 refine wp_sr ?_
 refine lv (.agg (PD.cells p37)) (by exact xo (hg50.load (P := Try.prog) 35 Try.underlying35 rfl (by kernel_rfl))) ?_
 simp only [lay]
 refine lv (.agg #[.int .u8 0, .int .u16 0, .bool false, .bool false, .int .i64 0, .int .u8 0, .int .u8 0, .int .u8 0, .int .u8 0, .int .u8 0, .int .u8 0, .int .u8 0, .int .u8 0, .int .u8 0, .int .u8 0, .slice none 0 0, .slice none 0 0]) (by kernel_rfl) ?_
 simp only [lay]
 have l95 : W35.heap.size ≤ g42 := Nat.le_of_eq ge45.symm
 have b96 := hb47.trans (hb52.mono l95)
 have own497 := ho38.to b96
 have hz := pack18_none (s' := s') (t' := t') (by rw [hPE]; assumption : ¬ (pack18 d s t s' t').2 = 0)
 rw [hPD] at hz
 refine lz (ow_call (fun v w' => v = .bool true ∧ Below W49.heap.size W49 w') (by exact xk Try.func11) ((rsame4_any _ _ PD zero18 p37 pZ18 W49 (own_byS own497.opt) (By.nil _ _ none (Nat.zero_le _)) (own_byS own497.body) (By.nil _ _ none (Nat.zero_le _)) (Nat.le_refl _) (Nat.le_refl _)).mono (by rintro e w' ⟨q, rfl, hq, hb⟩; obtain rfl : q = true := hq.out.trans (by rw [hz]; simp [same4]); exact ⟨_, rfl, rfl, hb⟩)) ?_)
 rintro _ W98 ⟨rfl, hb99⟩
 have z100 := hb99.size
 simp only [lay]
 refine lv (.bool true) (by exact xa) ?_
 simp only [lay]
 refine wn ?_
 refine wp_ret ?_
 try simp only [Exit.then]
 have b101 := bt b33 hb36
 have b102 := bt b101 hb47
 have l103 := lq b101 ge45
 have b104 := b102.trans (hb52.mono l103)
 have b105 := bt b104 hb99
 exact bodyPost_ret (res_one Try.results7 rfl) rfl ⟨rfl, b105⟩
end Go.Proofs.Ytjnphelfloiadaa
