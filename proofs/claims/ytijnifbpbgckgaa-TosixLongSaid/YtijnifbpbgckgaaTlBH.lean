/-
  Lemmas and walks for the row of TosixLong (part 34 of 37).
-/
import Derived.Test.YtijnifbpbgckgaaTlAG
import Derived.Test.YtijnifbpbgckgaaTlAM
import Derived.Test.YtijnifbpbgckgaaTlBG
set_option linter.unusedVariables false
set_option linter.unusedSimpArgs false
namespace Go.Proofs.Ytijnifbpbgckgaa
open Go.RowKit Go.Shelf

section
variable {P : Program}
theorem ex_ne_str {ρ : Operand → Value} {o : Oper} {t z : TypeId} {x y : Operand} {s s' : ByteArray} {w : World} {q : Bool} (ho : o.op = .binOp .neq t x y z) (hx : ρ x = .string s) (hy : ρ y = .string s') (h : (s.toList != s'.toList) = q) : (execOp ρ o).run P w = .ok (.value (.bool q)) w := by
  subst h
  unfold execOp
  simp [ho, hx, hy, eqGuard, binOp, Op.stringOp, bne]
end
section
variable {P : Program}
theorem ex_ne_bool6 {ρ : Operand → Value} {o : Oper} {t z : TypeId} {x y : Operand} {b b' q : Bool} {w : World} (ho : o.op = .binOp .neq t x y z) (ht : P.underlying t = some .bool) (hx : ρ x = .bool b) (hy : ρ y = .bool b') (h : (b != b') = q) : (execOp ρ o).run P w = .ok (.value (.bool q)) w := by
  have he : (Op.equal t (.bool b) (.bool b')).run P w = .ok (b == b') w := run_equalIn_bool w 9999 t b b' ht
  subst h
  unfold execOp
  simp [ho, hx, hy, eqGuard, binOp, he, bne]
end
def same6 (d d' : D6) : Bool := decide (d.cls = d'.cls ∧ d.lab = d'.lab ∧ d.hop = d'.hop ∧ d.src = d'.src ∧ d.dst = d'.dst ∧ d.frag = d'.frag ∧ d.id = d'.id ∧ d.off = d'.off ∧ d.more = d'.more ∧ d.pro = d'.pro ∧ d.bl = d'.bl ∧ d.hs = d'.hs)
theorem same6_self (d : D6) : same6 d d = true := by simp [same6]
theorem same6_eq {d d' : D6} (h : d = d') : same6 d d' = true := by subst h; exact same6_self d
theorem D6.load_src {w : World} {g : Nat} {d : D6} {p : W6} (h : Has w g (.cells (d.cells p) 36 (0, 0))) (hs : d.src.length = 16) : (loadVar 29 ⟨g, 3, none⟩).run Try.prog w = .ok (.agg (u8s d.src).toArray) w :=
  h.loadAt (P := Try.prog) 3 (u8s d.src) (fun j v hj => by
    have hj2 : j < 16 := by have := (List.getElem?_eq_some_iff.1 hj).1; rw [u8s_length] at this; omega
    have e : ∀ j, j < 16 → (d.cells p)[3 + j]? = some (.int .u8 (d.src.getD j 0)) := lt16 rfl rfl rfl rfl rfl rfl rfl rfl rfl rfl rfl rfl rfl rfl rfl rfl
    rw [e j hj2, ← hj]
    simp [u8s, List.getD, List.getElem?_eq_getElem (show j < d.src.length by omega)]) 29 Try.underlying29 rfl (by rw [u8s_length, hs]; kernel_rfl)
theorem D6.load_dst {w : World} {g : Nat} {d : D6} {p : W6} (h : Has w g (.cells (d.cells p) 36 (0, 0))) (hs : d.dst.length = 16) : (loadVar 29 ⟨g, 19, none⟩).run Try.prog w = .ok (.agg (u8s d.dst).toArray) w :=
  h.loadAt (P := Try.prog) 19 (u8s d.dst) (fun j v hj => by
    have hj2 : j < 16 := by have := (List.getElem?_eq_some_iff.1 hj).1; rw [u8s_length] at this; omega
    have e : ∀ j, j < 16 → (d.cells p)[19 + j]? = some (.int .u8 (d.dst.getD j 0)) := lt16 rfl rfl rfl rfl rfl rfl rfl rfl rfl rfl rfl rfl rfl rfl rfl rfl
    rw [e j hj2, ← hj]
    simp [u8s, List.getD, List.getElem?_eq_getElem (show j < d.dst.length by omega)]) 29 Try.underlying29 rfl (by rw [u8s_length, hs]; kernel_rfl)

set_option maxRecDepth 100000 in
set_option maxHeartbeats 16000000 in
theorem rsame6_any (d d' : D6) (p p' : W6) (w : World) (hR : Rd6 w.heap.size w d p) (hR' : Rd6 w.heap.size w d' p') :
    Calls Try.prog 12 #[.agg (d.cells p), .agg (d'.cells p')] w fun e w' => Tru (same6 d d') e ∧ Below w.heap.size w w' := by
  obtain ⟨hA1, hc1, ps, bA1, bc1⟩ := p
  obtain ⟨hA2, hc2, qs, bA2, bc2⟩ := p'
  obtain ⟨W1, hW1⟩ : ∃ W, w.alloc (.cells (d.cells ⟨hA1, hc1, ps, bA1, bc1⟩) 36) = W := ⟨_, rfl⟩
  obtain ⟨W2, hW2⟩ : ∃ W, W1.alloc (.cells (d'.cells ⟨hA2, hc2, qs, bA2, bc2⟩) 36) = W := ⟨_, rfl⟩
  have hs1 : W1.heap.size = w.heap.size + 1 := by rw [← hW1]; simp
  have hB1 : Below w.heap.size w W1 := by rw [← hW1]; exact (Below.refl _ _).alloc (Nat.le_refl _) _
  have hB2 : Below W1.heap.size W1 W2 := by rw [← hW2]; exact (Below.refl _ _).alloc (Nat.le_refl _) _
  have hB := hB1.trans (hB2.mono hB1.size)
  have hL : Has W2 w.heap.size (.cells (d.cells ⟨hA1, hc1, ps, bA1, bc1⟩) 36 (0, 0)) := by
    have h : Has W1 w.heap.size (.cells (d.cells ⟨hA1, hc1, ps, bA1, bc1⟩) 36 (0, 0)) := by rw [← hW1]; exact Has.newAt rfl
    exact h.below hB2 h.lt
  have hG : Has W2 (w.heap.size + 1) (.cells (d'.cells ⟨hA2, hc2, qs, bA2, bc2⟩) 36 (0, 0)) := by rw [← hW2, ← hs1]; exact Has.newAt rfl
  have hR1 := (hR.below hB (Nat.le_refl _)).more hB.size
  have hR2 := (hR'.below hB (Nat.le_refl _)).more hB.size
  obtain ⟨V, hV⟩ : ∃ V, same6 d d' = V := ⟨_, rfl⟩
  rw [hV]
  have s1 := hR.ok.srcL
  have s2 := hR'.ok.srcL
  have s3 := hR.ok.dstL
  have s4 := hR'.ok.dstL
  have l1 := D6.load_src hL s1
  have l2 := D6.load_src hG s2
  have l3 := D6.load_dst hL s3
  have l4 := D6.load_dst hG s4
  have u1 := hR1.body.conv (P := Try.prog) 25 9 Try.underlying25 Try.underlying5 Try.underlying9
  have u2 := hR2.body.conv (P := Try.prog) 25 9 Try.underlying25 Try.underlying5 Try.underlying9
  dsimp only at u1 u2
  have c10 := hL.cell 0 (v := .int .u8 d.cls) rfl
  have c20 := hG.cell 0 (v := .int .u8 d'.cls) rfl
  have c11 := hL.cell 1 (v := .int .u32 d.lab) rfl
  have c21 := hG.cell 1 (v := .int .u32 d'.lab) rfl
  have c12 := hL.cell 2 (v := .int .u8 d.hop) rfl
  have c22 := hG.cell 2 (v := .int .u8 d'.hop) rfl
  have c136 := hL.cell 36 (v := .bool d.frag) rfl
  have c236 := hG.cell 36 (v := .bool d'.frag) rfl
  have c137 := hL.cell 37 (v := .int .u32 d.id) rfl
  have c237 := hG.cell 37 (v := .int .u32 d'.id) rfl
  have c138 := hL.cell 38 (v := .int .i64 d.off) rfl
  have c238 := hG.cell 38 (v := .int .i64 d'.off) rfl
  have c139 := hL.cell 39 (v := .bool d.more) rfl
  have c239 := hG.cell 39 (v := .bool d'.more) rfl
  have c140 := hL.cell 40 (v := .int .u8 d.pro) rfl
  have c240 := hG.cell 40 (v := .int .u8 d'.pro) rfl
  have c141 := hL.cell 41 (v := .slice bA1 d.bl.length bc1) rfl
  have c241 := hG.cell 41 (v := .slice bA2 d'.bl.length bc2) rfl
  have c135 := hL.cell 35 (v := .slice hA1 d.hs.length hc1) rfl
  have c235 := hG.cell 35 (v := .slice hA2 d'.hs.length hc2) rfl
  obtain ⟨M1, hM1⟩ : ∃ M, d.hs.length = M := ⟨_, rfl⟩
  obtain ⟨M2, hM2⟩ : ∃ M, d'.hs.length = M := ⟨_, rfl⟩
  obtain ⟨N1, hN1⟩ : ∃ M, d.bl.length = M := ⟨_, rfl⟩
  obtain ⟨N2, hN2⟩ : ∃ M, d'.bl.length = M := ⟨_, rfl⟩
  rw [hN1] at u1 c141
  rw [hN2] at u2 c241
  rw [hM1] at c135
  rw [hM2] at c235
  have K1 := hR1.hd
  have K2 := hR2.hd
  dsimp only at K1 K2
  rw [hM1] at K1
  rw [hM2] at K2
  have hMc1 := Nat.le_trans K1.cap K1.big
  have hMc2 := Nat.le_trans K2.cap K2.big
  go_enter Try.func12, Try.ntmps12
  refine wp_seq (wp_region_lit ?_)
  refine wl_box 36 _ _ rfl rfl rfl ?_
  simp only [lay]
  refine wl_box 36 _ _ rfl rfl rfl ?_
  simp only [lay]
  refine wl (.bool false) (by kernel_rfl) (by exact rfl) ?_
  simp only [lay]
  refine wpList_nil ?_
  change Code.wp _ _ _ _ _
  rw [hW1, hW2, hs1]
  simp only [List.append_eq, List.cons_append, List.nil_append]
  refine wp_seq (wp_seq (wp_region_lit ?_))
  refine wl (.pointer (some ⟨w.heap.size, 0, none⟩)) (by kernel_rfl) (by exact ex_field 0 0 (by exact rfl) Try.underlying36 (by exact rfl) rfl (by kernel_rfl) (by exact rfl)) ?_
  simp only [lay]
  refine wl (.int .u8 d.cls) (by kernel_rfl) (by exact ex_cell (by exact rfl) Try.underlying5 rfl (by exact rfl) c10) ?_
  simp only [lay]
  refine wl (.pointer (some ⟨w.heap.size + 1, 0, none⟩)) (by kernel_rfl) (by exact ex_field 0 0 (by exact rfl) Try.underlying36 (by exact rfl) rfl (by kernel_rfl) (by exact rfl)) ?_
  simp only [lay]
  refine wl (.int .u8 d'.cls) (by kernel_rfl) (by exact ex_cell (by exact rfl) Try.underlying5 rfl (by exact rfl) c20) ?_
  simp only [lay]
  by_cases zcls : d.cls = d'.cls
  case neg =>
    obtain rfl : V = false := by
      rw [← hV]
      refine decide_eq_false (fun h => ?_)
      exact zcls h.1
    refine wl (.bool true) (by kernel_rfl) (by exact neq_int_ne (by exact rfl) (by exact rfl) (by exact rfl) zcls) ?_
    simp only [lay]
    refine skip_ok (t' := #[.agg (d.cells ⟨hA1, hc1, ps, bA1, bc1⟩), .agg (d'.cells ⟨hA2, hc2, qs, bA2, bc2⟩), .pointer (some ⟨w.heap.size, 0, none⟩), .pointer (some ⟨w.heap.size + 1, 0, none⟩), .bool false, undef, .pointer (some ⟨w.heap.size, 0, none⟩), .int .u8 d.cls, .pointer (some ⟨w.heap.size + 1, 0, none⟩), .int .u8 d'.cls, .bool true, .bool true, undef, undef, undef, undef, undef, .bool true, .bool true, undef, undef, undef, undef, undef, .bool true, .bool true, undef, undef, undef, undef, undef, .bool true, .bool true, undef, undef, undef, undef, undef, .bool true, .bool true, undef, undef, undef, undef, undef, .bool true, .bool true, undef, undef, undef, undef, undef, .bool true, .bool true, undef, undef, undef, undef, undef, .bool true, .bool true, undef, undef, undef, undef, undef, .bool true, .bool true, undef, undef, undef, undef, undef, .bool true, .bool true, undef, undef, undef, undef, undef, undef, undef, .bool true, .bool true, undef, undef, undef, undef, undef, undef, undef, .bool true, undef, undef, undef, undef, undef, undef, undef, undef, undef, undef, undef, undef, undef, undef, undef, undef, undef, undef, undef, undef, undef, undef, undef, undef, undef, undef, undef, undef, undef, undef, undef, undef, undef, undef, undef, undef, undef]) _ _ (by kernel_rfl) ?_
    change Code.wp _ _ _ _ _
    go_wp2
    go_ret
    exact ⟨Tru.mk rfl, hB⟩
  case pos =>
  refine wl (.bool false) (by kernel_rfl) (by exact neq_int_eq (by exact rfl) (by exact rfl) (by exact rfl) zcls) ?_
  simp only [lay]
  refine wl (.bool false) (by kernel_rfl) (by exact rfl) ?_
  simp only [lay]
  refine wl (.pointer (some ⟨w.heap.size, 1, none⟩)) (by kernel_rfl) (by exact ex_field 1 0 (by exact rfl) Try.underlying36 (by exact rfl) rfl (by kernel_rfl) (by exact rfl)) ?_
  simp only [lay]
  refine wl (.int .u32 d.lab) (by kernel_rfl) (by exact ex_cell (by exact rfl) Try.underlying33 rfl (by exact rfl) c11) ?_
  simp only [lay]
  refine wl (.pointer (some ⟨w.heap.size + 1, 1, none⟩)) (by kernel_rfl) (by exact ex_field 1 0 (by exact rfl) Try.underlying36 (by exact rfl) rfl (by kernel_rfl) (by exact rfl)) ?_
  simp only [lay]
  refine wl (.int .u32 d'.lab) (by kernel_rfl) (by exact ex_cell (by exact rfl) Try.underlying33 rfl (by exact rfl) c21) ?_
  simp only [lay]
  by_cases zlab : d.lab = d'.lab
  case neg =>
    obtain rfl : V = false := by
      rw [← hV]
      refine decide_eq_false (fun h => ?_)
      exact zlab h.2.1
    refine wl (.bool true) (by kernel_rfl) (by exact neq_int_ne (by exact rfl) (by exact rfl) (by exact rfl) zlab) ?_
    simp only [lay]
    refine skip_ok (t' := #[.agg (d.cells ⟨hA1, hc1, ps, bA1, bc1⟩), .agg (d'.cells ⟨hA2, hc2, qs, bA2, bc2⟩), .pointer (some ⟨w.heap.size, 0, none⟩), .pointer (some ⟨w.heap.size + 1, 0, none⟩), .bool false, undef, .pointer (some ⟨w.heap.size, 0, none⟩), .int .u8 d.cls, .pointer (some ⟨w.heap.size + 1, 0, none⟩), .int .u8 d'.cls, .bool false, .bool false, .pointer (some ⟨w.heap.size, 1, none⟩), .int .u32 d.lab, .pointer (some ⟨w.heap.size + 1, 1, none⟩), .int .u32 d'.lab, .bool true, .bool true, .bool true, undef, undef, undef, undef, undef, .bool true, .bool true, undef, undef, undef, undef, undef, .bool true, .bool true, undef, undef, undef, undef, undef, .bool true, .bool true, undef, undef, undef, undef, undef, .bool true, .bool true, undef, undef, undef, undef, undef, .bool true, .bool true, undef, undef, undef, undef, undef, .bool true, .bool true, undef, undef, undef, undef, undef, .bool true, .bool true, undef, undef, undef, undef, undef, .bool true, .bool true, undef, undef, undef, undef, undef, undef, undef, .bool true, .bool true, undef, undef, undef, undef, undef, undef, undef, .bool true, undef, undef, undef, undef, undef, undef, undef, undef, undef, undef, undef, undef, undef, undef, undef, undef, undef, undef, undef, undef, undef, undef, undef, undef, undef, undef, undef, undef, undef, undef, undef, undef, undef, undef, undef, undef, undef]) _ _ (by kernel_rfl) ?_
    change Code.wp _ _ _ _ _
    go_wp2
    go_ret
    exact ⟨Tru.mk rfl, hB⟩
  case pos =>
  refine wl (.bool false) (by kernel_rfl) (by exact neq_int_eq (by exact rfl) (by exact rfl) (by exact rfl) zlab) ?_
  simp only [lay]
  refine wl (.bool false) (by kernel_rfl) (by exact rfl) ?_
  simp only [lay]
  refine wl (.bool false) (by kernel_rfl) (by exact rfl) ?_
  simp only [lay]
  refine wl (.pointer (some ⟨w.heap.size, 2, none⟩)) (by kernel_rfl) (by exact ex_field 2 0 (by exact rfl) Try.underlying36 (by exact rfl) rfl (by kernel_rfl) (by exact rfl)) ?_
  simp only [lay]
  refine wl (.int .u8 d.hop) (by kernel_rfl) (by exact ex_cell (by exact rfl) Try.underlying5 rfl (by exact rfl) c12) ?_
  simp only [lay]
  refine wl (.pointer (some ⟨w.heap.size + 1, 2, none⟩)) (by kernel_rfl) (by exact ex_field 2 0 (by exact rfl) Try.underlying36 (by exact rfl) rfl (by kernel_rfl) (by exact rfl)) ?_
  simp only [lay]
  refine wl (.int .u8 d'.hop) (by kernel_rfl) (by exact ex_cell (by exact rfl) Try.underlying5 rfl (by exact rfl) c22) ?_
  simp only [lay]
  by_cases zhop : d.hop = d'.hop
  case neg =>
    obtain rfl : V = false := by
      rw [← hV]
      refine decide_eq_false (fun h => ?_)
      exact zhop h.2.2.1
    refine wl (.bool true) (by kernel_rfl) (by exact neq_int_ne (by exact rfl) (by exact rfl) (by exact rfl) zhop) ?_
    simp only [lay]
    refine skip_ok (t' := #[.agg (d.cells ⟨hA1, hc1, ps, bA1, bc1⟩), .agg (d'.cells ⟨hA2, hc2, qs, bA2, bc2⟩), .pointer (some ⟨w.heap.size, 0, none⟩), .pointer (some ⟨w.heap.size + 1, 0, none⟩), .bool false, undef, .pointer (some ⟨w.heap.size, 0, none⟩), .int .u8 d.cls, .pointer (some ⟨w.heap.size + 1, 0, none⟩), .int .u8 d'.cls, .bool false, .bool false, .pointer (some ⟨w.heap.size, 1, none⟩), .int .u32 d.lab, .pointer (some ⟨w.heap.size + 1, 1, none⟩), .int .u32 d'.lab, .bool false, .bool false, .bool false, .pointer (some ⟨w.heap.size, 2, none⟩), .int .u8 d.hop, .pointer (some ⟨w.heap.size + 1, 2, none⟩), .int .u8 d'.hop, .bool true, .bool true, .bool true, undef, undef, undef, undef, undef, .bool true, .bool true, undef, undef, undef, undef, undef, .bool true, .bool true, undef, undef, undef, undef, undef, .bool true, .bool true, undef, undef, undef, undef, undef, .bool true, .bool true, undef, undef, undef, undef, undef, .bool true, .bool true, undef, undef, undef, undef, undef, .bool true, .bool true, undef, undef, undef, undef, undef, .bool true, .bool true, undef, undef, undef, undef, undef, undef, undef, .bool true, .bool true, undef, undef, undef, undef, undef, undef, undef, .bool true, undef, undef, undef, undef, undef, undef, undef, undef, undef, undef, undef, undef, undef, undef, undef, undef, undef, undef, undef, undef, undef, undef, undef, undef, undef, undef, undef, undef, undef, undef, undef, undef, undef, undef, undef, undef, undef]) _ _ (by kernel_rfl) ?_
    change Code.wp _ _ _ _ _
    go_wp2
    go_ret
    exact ⟨Tru.mk rfl, hB⟩
  case pos =>
  refine wl (.bool false) (by kernel_rfl) (by exact neq_int_eq (by exact rfl) (by exact rfl) (by exact rfl) zhop) ?_
  simp only [lay]
  refine wl (.bool false) (by kernel_rfl) (by exact rfl) ?_
  simp only [lay]
  refine wl (.bool false) (by kernel_rfl) (by exact rfl) ?_
  simp only [lay]
  refine wl (.pointer (some ⟨w.heap.size, 3, none⟩)) (by kernel_rfl) (by exact ex_field 3 15 (by exact rfl) Try.underlying36 (by exact rfl) rfl (by kernel_rfl) (by exact rfl)) ?_
  simp only [lay]
  refine wl (.agg (u8s d.src).toArray) (by kernel_rfl) (by exact ex_loadAt (by exact rfl) (by exact rfl) l1) ?_
  simp only [lay]
  refine wl (.pointer (some ⟨w.heap.size + 1, 3, none⟩)) (by kernel_rfl) (by exact ex_field 3 15 (by exact rfl) Try.underlying36 (by exact rfl) rfl (by kernel_rfl) (by exact rfl)) ?_
  simp only [lay]
  refine wl (.agg (u8s d'.src).toArray) (by kernel_rfl) (by exact ex_loadAt (by exact rfl) (by exact rfl) l2) ?_
  simp only [lay]
  by_cases zsrc : d.src = d'.src
  case neg =>
    obtain rfl : V = false := by
      rw [← hV]
      refine decide_eq_false (fun h => ?_)
      exact zsrc h.2.2.2.1
    refine wl (.bool true) (by kernel_rfl) (by exact ex_ne_arrN (by exact rfl) Try.underlying29 Try.underlying5 (by kernel_rfl) (by kernel_rfl) (by exact rfl) (by exact rfl) s1 s2 (by simpa using zsrc)) ?_
    simp only [lay]
    refine skip_ok (t' := #[.agg (d.cells ⟨hA1, hc1, ps, bA1, bc1⟩), .agg (d'.cells ⟨hA2, hc2, qs, bA2, bc2⟩), .pointer (some ⟨w.heap.size, 0, none⟩), .pointer (some ⟨w.heap.size + 1, 0, none⟩), .bool false, undef, .pointer (some ⟨w.heap.size, 0, none⟩), .int .u8 d.cls, .pointer (some ⟨w.heap.size + 1, 0, none⟩), .int .u8 d'.cls, .bool false, .bool false, .pointer (some ⟨w.heap.size, 1, none⟩), .int .u32 d.lab, .pointer (some ⟨w.heap.size + 1, 1, none⟩), .int .u32 d'.lab, .bool false, .bool false, .bool false, .pointer (some ⟨w.heap.size, 2, none⟩), .int .u8 d.hop, .pointer (some ⟨w.heap.size + 1, 2, none⟩), .int .u8 d'.hop, .bool false, .bool false, .bool false, .pointer (some ⟨w.heap.size, 3, none⟩), .agg (u8s d.src).toArray, .pointer (some ⟨w.heap.size + 1, 3, none⟩), .agg (u8s d'.src).toArray, .bool true, .bool true, .bool true, undef, undef, undef, undef, undef, .bool true, .bool true, undef, undef, undef, undef, undef, .bool true, .bool true, undef, undef, undef, undef, undef, .bool true, .bool true, undef, undef, undef, undef, undef, .bool true, .bool true, undef, undef, undef, undef, undef, .bool true, .bool true, undef, undef, undef, undef, undef, .bool true, .bool true, undef, undef, undef, undef, undef, undef, undef, .bool true, .bool true, undef, undef, undef, undef, undef, undef, undef, .bool true, undef, undef, undef, undef, undef, undef, undef, undef, undef, undef, undef, undef, undef, undef, undef, undef, undef, undef, undef, undef, undef, undef, undef, undef, undef, undef, undef, undef, undef, undef, undef, undef, undef, undef, undef, undef, undef]) _ _ (by kernel_rfl) ?_
    change Code.wp _ _ _ _ _
    go_wp2
    go_ret
    exact ⟨Tru.mk rfl, hB⟩
  case pos =>
  refine wl (.bool false) (by kernel_rfl) (by exact ex_ne_arrN (by exact rfl) Try.underlying29 Try.underlying5 (by kernel_rfl) (by kernel_rfl) (by exact rfl) (by exact rfl) s1 s2 (by simpa using zsrc)) ?_
  simp only [lay]
  refine wl (.bool false) (by kernel_rfl) (by exact rfl) ?_
  simp only [lay]
  refine wl (.bool false) (by kernel_rfl) (by exact rfl) ?_
  simp only [lay]
  refine wl (.pointer (some ⟨w.heap.size, 19, none⟩)) (by kernel_rfl) (by exact ex_field 19 15 (by exact rfl) Try.underlying36 (by exact rfl) rfl (by kernel_rfl) (by exact rfl)) ?_
  simp only [lay]
  refine wl (.agg (u8s d.dst).toArray) (by kernel_rfl) (by exact ex_loadAt (by exact rfl) (by exact rfl) l3) ?_
  simp only [lay]
  refine wl (.pointer (some ⟨w.heap.size + 1, 19, none⟩)) (by kernel_rfl) (by exact ex_field 19 15 (by exact rfl) Try.underlying36 (by exact rfl) rfl (by kernel_rfl) (by exact rfl)) ?_
  simp only [lay]
  refine wl (.agg (u8s d'.dst).toArray) (by kernel_rfl) (by exact ex_loadAt (by exact rfl) (by exact rfl) l4) ?_
  simp only [lay]
  by_cases zdst : d.dst = d'.dst
  case neg =>
    obtain rfl : V = false := by
      rw [← hV]
      refine decide_eq_false (fun h => ?_)
      exact zdst h.2.2.2.2.1
    refine wl (.bool true) (by kernel_rfl) (by exact ex_ne_arrN (by exact rfl) Try.underlying29 Try.underlying5 (by kernel_rfl) (by kernel_rfl) (by exact rfl) (by exact rfl) s3 s4 (by simpa using zdst)) ?_
    simp only [lay]
    refine skip_ok (t' := #[.agg (d.cells ⟨hA1, hc1, ps, bA1, bc1⟩), .agg (d'.cells ⟨hA2, hc2, qs, bA2, bc2⟩), .pointer (some ⟨w.heap.size, 0, none⟩), .pointer (some ⟨w.heap.size + 1, 0, none⟩), .bool false, undef, .pointer (some ⟨w.heap.size, 0, none⟩), .int .u8 d.cls, .pointer (some ⟨w.heap.size + 1, 0, none⟩), .int .u8 d'.cls, .bool false, .bool false, .pointer (some ⟨w.heap.size, 1, none⟩), .int .u32 d.lab, .pointer (some ⟨w.heap.size + 1, 1, none⟩), .int .u32 d'.lab, .bool false, .bool false, .bool false, .pointer (some ⟨w.heap.size, 2, none⟩), .int .u8 d.hop, .pointer (some ⟨w.heap.size + 1, 2, none⟩), .int .u8 d'.hop, .bool false, .bool false, .bool false, .pointer (some ⟨w.heap.size, 3, none⟩), .agg (u8s d.src).toArray, .pointer (some ⟨w.heap.size + 1, 3, none⟩), .agg (u8s d'.src).toArray, .bool false, .bool false, .bool false, .pointer (some ⟨w.heap.size, 19, none⟩), .agg (u8s d.dst).toArray, .pointer (some ⟨w.heap.size + 1, 19, none⟩), .agg (u8s d'.dst).toArray, .bool true, .bool true, .bool true, undef, undef, undef, undef, undef, .bool true, .bool true, undef, undef, undef, undef, undef, .bool true, .bool true, undef, undef, undef, undef, undef, .bool true, .bool true, undef, undef, undef, undef, undef, .bool true, .bool true, undef, undef, undef, undef, undef, .bool true, .bool true, undef, undef, undef, undef, undef, undef, undef, .bool true, .bool true, undef, undef, undef, undef, undef, undef, undef, .bool true, undef, undef, undef, undef, undef, undef, undef, undef, undef, undef, undef, undef, undef, undef, undef, undef, undef, undef, undef, undef, undef, undef, undef, undef, undef, undef, undef, undef, undef, undef, undef, undef, undef, undef, undef, undef, undef]) _ _ (by kernel_rfl) ?_
    change Code.wp _ _ _ _ _
    go_wp2
    go_ret
    exact ⟨Tru.mk rfl, hB⟩
  case pos =>
  refine wl (.bool false) (by kernel_rfl) (by exact ex_ne_arrN (by exact rfl) Try.underlying29 Try.underlying5 (by kernel_rfl) (by kernel_rfl) (by exact rfl) (by exact rfl) s3 s4 (by simpa using zdst)) ?_
  simp only [lay]
  refine wl (.bool false) (by kernel_rfl) (by exact rfl) ?_
  simp only [lay]
  refine wl (.bool false) (by kernel_rfl) (by exact rfl) ?_
  simp only [lay]
  refine wl (.pointer (some ⟨w.heap.size, 36, none⟩)) (by kernel_rfl) (by exact ex_field 36 0 (by exact rfl) Try.underlying36 (by exact rfl) rfl (by kernel_rfl) (by exact rfl)) ?_
  simp only [lay]
  refine wl (.bool d.frag) (by kernel_rfl) (by exact ex_cell (by exact rfl) Try.underlying4 rfl (by exact rfl) c136) ?_
  simp only [lay]
  refine wl (.pointer (some ⟨w.heap.size + 1, 36, none⟩)) (by kernel_rfl) (by exact ex_field 36 0 (by exact rfl) Try.underlying36 (by exact rfl) rfl (by kernel_rfl) (by exact rfl)) ?_
  simp only [lay]
  refine wl (.bool d'.frag) (by kernel_rfl) (by exact ex_cell (by exact rfl) Try.underlying4 rfl (by exact rfl) c236) ?_
  simp only [lay]
  by_cases zfrag : d.frag = d'.frag
  case neg =>
    obtain rfl : V = false := by
      rw [← hV]
      refine decide_eq_false (fun h => ?_)
      exact zfrag h.2.2.2.2.2.1
    refine wl (.bool true) (by kernel_rfl) (by exact ex_ne_bool6 (by exact rfl) Try.underlying4 (by exact rfl) (by exact rfl) (by simpa using zfrag)) ?_
    simp only [lay]
    refine skip_ok (t' := #[.agg (d.cells ⟨hA1, hc1, ps, bA1, bc1⟩), .agg (d'.cells ⟨hA2, hc2, qs, bA2, bc2⟩), .pointer (some ⟨w.heap.size, 0, none⟩), .pointer (some ⟨w.heap.size + 1, 0, none⟩), .bool false, undef, .pointer (some ⟨w.heap.size, 0, none⟩), .int .u8 d.cls, .pointer (some ⟨w.heap.size + 1, 0, none⟩), .int .u8 d'.cls, .bool false, .bool false, .pointer (some ⟨w.heap.size, 1, none⟩), .int .u32 d.lab, .pointer (some ⟨w.heap.size + 1, 1, none⟩), .int .u32 d'.lab, .bool false, .bool false, .bool false, .pointer (some ⟨w.heap.size, 2, none⟩), .int .u8 d.hop, .pointer (some ⟨w.heap.size + 1, 2, none⟩), .int .u8 d'.hop, .bool false, .bool false, .bool false, .pointer (some ⟨w.heap.size, 3, none⟩), .agg (u8s d.src).toArray, .pointer (some ⟨w.heap.size + 1, 3, none⟩), .agg (u8s d'.src).toArray, .bool false, .bool false, .bool false, .pointer (some ⟨w.heap.size, 19, none⟩), .agg (u8s d.dst).toArray, .pointer (some ⟨w.heap.size + 1, 19, none⟩), .agg (u8s d'.dst).toArray, .bool false, .bool false, .bool false, .pointer (some ⟨w.heap.size, 36, none⟩), .bool d.frag, .pointer (some ⟨w.heap.size + 1, 36, none⟩), .bool d'.frag, .bool true, .bool true, .bool true, undef, undef, undef, undef, undef, .bool true, .bool true, undef, undef, undef, undef, undef, .bool true, .bool true, undef, undef, undef, undef, undef, .bool true, .bool true, undef, undef, undef, undef, undef, .bool true, .bool true, undef, undef, undef, undef, undef, undef, undef, .bool true, .bool true, undef, undef, undef, undef, undef, undef, undef, .bool true, undef, undef, undef, undef, undef, undef, undef, undef, undef, undef, undef, undef, undef, undef, undef, undef, undef, undef, undef, undef, undef, undef, undef, undef, undef, undef, undef, undef, undef, undef, undef, undef, undef, undef, undef, undef, undef]) _ _ (by kernel_rfl) ?_
    change Code.wp _ _ _ _ _
    go_wp2
    go_ret
    exact ⟨Tru.mk rfl, hB⟩
  case pos =>
  refine wl (.bool false) (by kernel_rfl) (by exact ex_ne_bool6 (by exact rfl) Try.underlying4 (by exact rfl) (by exact rfl) (by simpa using zfrag)) ?_
  simp only [lay]
  refine wl (.bool false) (by kernel_rfl) (by exact rfl) ?_
  simp only [lay]
  refine wl (.bool false) (by kernel_rfl) (by exact rfl) ?_
  simp only [lay]
  refine wl (.pointer (some ⟨w.heap.size, 37, none⟩)) (by kernel_rfl) (by exact ex_field 37 0 (by exact rfl) Try.underlying36 (by exact rfl) rfl (by kernel_rfl) (by exact rfl)) ?_
  simp only [lay]
  refine wl (.int .u32 d.id) (by kernel_rfl) (by exact ex_cell (by exact rfl) Try.underlying33 rfl (by exact rfl) c137) ?_
  simp only [lay]
  refine wl (.pointer (some ⟨w.heap.size + 1, 37, none⟩)) (by kernel_rfl) (by exact ex_field 37 0 (by exact rfl) Try.underlying36 (by exact rfl) rfl (by kernel_rfl) (by exact rfl)) ?_
  simp only [lay]
  refine wl (.int .u32 d'.id) (by kernel_rfl) (by exact ex_cell (by exact rfl) Try.underlying33 rfl (by exact rfl) c237) ?_
  simp only [lay]
  by_cases zid : d.id = d'.id
  case neg =>
    obtain rfl : V = false := by
      rw [← hV]
      refine decide_eq_false (fun h => ?_)
      exact zid h.2.2.2.2.2.2.1
    refine wl (.bool true) (by kernel_rfl) (by exact neq_int_ne (by exact rfl) (by exact rfl) (by exact rfl) zid) ?_
    simp only [lay]
    refine skip_ok (t' := #[.agg (d.cells ⟨hA1, hc1, ps, bA1, bc1⟩), .agg (d'.cells ⟨hA2, hc2, qs, bA2, bc2⟩), .pointer (some ⟨w.heap.size, 0, none⟩), .pointer (some ⟨w.heap.size + 1, 0, none⟩), .bool false, undef, .pointer (some ⟨w.heap.size, 0, none⟩), .int .u8 d.cls, .pointer (some ⟨w.heap.size + 1, 0, none⟩), .int .u8 d'.cls, .bool false, .bool false, .pointer (some ⟨w.heap.size, 1, none⟩), .int .u32 d.lab, .pointer (some ⟨w.heap.size + 1, 1, none⟩), .int .u32 d'.lab, .bool false, .bool false, .bool false, .pointer (some ⟨w.heap.size, 2, none⟩), .int .u8 d.hop, .pointer (some ⟨w.heap.size + 1, 2, none⟩), .int .u8 d'.hop, .bool false, .bool false, .bool false, .pointer (some ⟨w.heap.size, 3, none⟩), .agg (u8s d.src).toArray, .pointer (some ⟨w.heap.size + 1, 3, none⟩), .agg (u8s d'.src).toArray, .bool false, .bool false, .bool false, .pointer (some ⟨w.heap.size, 19, none⟩), .agg (u8s d.dst).toArray, .pointer (some ⟨w.heap.size + 1, 19, none⟩), .agg (u8s d'.dst).toArray, .bool false, .bool false, .bool false, .pointer (some ⟨w.heap.size, 36, none⟩), .bool d.frag, .pointer (some ⟨w.heap.size + 1, 36, none⟩), .bool d'.frag, .bool false, .bool false, .bool false, .pointer (some ⟨w.heap.size, 37, none⟩), .int .u32 d.id, .pointer (some ⟨w.heap.size + 1, 37, none⟩), .int .u32 d'.id, .bool true, .bool true, .bool true, undef, undef, undef, undef, undef, .bool true, .bool true, undef, undef, undef, undef, undef, .bool true, .bool true, undef, undef, undef, undef, undef, .bool true, .bool true, undef, undef, undef, undef, undef, undef, undef, .bool true, .bool true, undef, undef, undef, undef, undef, undef, undef, .bool true, undef, undef, undef, undef, undef, undef, undef, undef, undef, undef, undef, undef, undef, undef, undef, undef, undef, undef, undef, undef, undef, undef, undef, undef, undef, undef, undef, undef, undef, undef, undef, undef, undef, undef, undef, undef, undef]) _ _ (by kernel_rfl) ?_
    change Code.wp _ _ _ _ _
    go_wp2
    go_ret
    exact ⟨Tru.mk rfl, hB⟩
  case pos =>
  refine wl (.bool false) (by kernel_rfl) (by exact neq_int_eq (by exact rfl) (by exact rfl) (by exact rfl) zid) ?_
  simp only [lay]
  refine wl (.bool false) (by kernel_rfl) (by exact rfl) ?_
  simp only [lay]
  refine wl (.bool false) (by kernel_rfl) (by exact rfl) ?_
  simp only [lay]
  refine wl (.pointer (some ⟨w.heap.size, 38, none⟩)) (by kernel_rfl) (by exact ex_field 38 0 (by exact rfl) Try.underlying36 (by exact rfl) rfl (by kernel_rfl) (by exact rfl)) ?_
  simp only [lay]
  refine wl (.int .i64 d.off) (by kernel_rfl) (by exact ex_cell (by exact rfl) Try.underlying3 rfl (by exact rfl) c138) ?_
  simp only [lay]
  refine wl (.pointer (some ⟨w.heap.size + 1, 38, none⟩)) (by kernel_rfl) (by exact ex_field 38 0 (by exact rfl) Try.underlying36 (by exact rfl) rfl (by kernel_rfl) (by exact rfl)) ?_
  simp only [lay]
  refine wl (.int .i64 d'.off) (by kernel_rfl) (by exact ex_cell (by exact rfl) Try.underlying3 rfl (by exact rfl) c238) ?_
  simp only [lay]
  by_cases zoff : d.off = d'.off
  case neg =>
    obtain rfl : V = false := by
      rw [← hV]
      refine decide_eq_false (fun h => ?_)
      exact zoff h.2.2.2.2.2.2.2.1
    refine wl (.bool true) (by kernel_rfl) (by exact neq_int_ne (by exact rfl) (by exact rfl) (by exact rfl) zoff) ?_
    simp only [lay]
    refine skip_ok (t' := #[.agg (d.cells ⟨hA1, hc1, ps, bA1, bc1⟩), .agg (d'.cells ⟨hA2, hc2, qs, bA2, bc2⟩), .pointer (some ⟨w.heap.size, 0, none⟩), .pointer (some ⟨w.heap.size + 1, 0, none⟩), .bool false, undef, .pointer (some ⟨w.heap.size, 0, none⟩), .int .u8 d.cls, .pointer (some ⟨w.heap.size + 1, 0, none⟩), .int .u8 d'.cls, .bool false, .bool false, .pointer (some ⟨w.heap.size, 1, none⟩), .int .u32 d.lab, .pointer (some ⟨w.heap.size + 1, 1, none⟩), .int .u32 d'.lab, .bool false, .bool false, .bool false, .pointer (some ⟨w.heap.size, 2, none⟩), .int .u8 d.hop, .pointer (some ⟨w.heap.size + 1, 2, none⟩), .int .u8 d'.hop, .bool false, .bool false, .bool false, .pointer (some ⟨w.heap.size, 3, none⟩), .agg (u8s d.src).toArray, .pointer (some ⟨w.heap.size + 1, 3, none⟩), .agg (u8s d'.src).toArray, .bool false, .bool false, .bool false, .pointer (some ⟨w.heap.size, 19, none⟩), .agg (u8s d.dst).toArray, .pointer (some ⟨w.heap.size + 1, 19, none⟩), .agg (u8s d'.dst).toArray, .bool false, .bool false, .bool false, .pointer (some ⟨w.heap.size, 36, none⟩), .bool d.frag, .pointer (some ⟨w.heap.size + 1, 36, none⟩), .bool d'.frag, .bool false, .bool false, .bool false, .pointer (some ⟨w.heap.size, 37, none⟩), .int .u32 d.id, .pointer (some ⟨w.heap.size + 1, 37, none⟩), .int .u32 d'.id, .bool false, .bool false, .bool false, .pointer (some ⟨w.heap.size, 38, none⟩), .int .i64 d.off, .pointer (some ⟨w.heap.size + 1, 38, none⟩), .int .i64 d'.off, .bool true, .bool true, .bool true, undef, undef, undef, undef, undef, .bool true, .bool true, undef, undef, undef, undef, undef, .bool true, .bool true, undef, undef, undef, undef, undef, undef, undef, .bool true, .bool true, undef, undef, undef, undef, undef, undef, undef, .bool true, undef, undef, undef, undef, undef, undef, undef, undef, undef, undef, undef, undef, undef, undef, undef, undef, undef, undef, undef, undef, undef, undef, undef, undef, undef, undef, undef, undef, undef, undef, undef, undef, undef, undef, undef, undef, undef]) _ _ (by kernel_rfl) ?_
    change Code.wp _ _ _ _ _
    go_wp2
    go_ret
    exact ⟨Tru.mk rfl, hB⟩
  case pos =>
  refine wl (.bool false) (by kernel_rfl) (by exact neq_int_eq (by exact rfl) (by exact rfl) (by exact rfl) zoff) ?_
  simp only [lay]
  refine wl (.bool false) (by kernel_rfl) (by exact rfl) ?_
  simp only [lay]
  refine wl (.bool false) (by kernel_rfl) (by exact rfl) ?_
  simp only [lay]
  refine wl (.pointer (some ⟨w.heap.size, 39, none⟩)) (by kernel_rfl) (by exact ex_field 39 0 (by exact rfl) Try.underlying36 (by exact rfl) rfl (by kernel_rfl) (by exact rfl)) ?_
  simp only [lay]
  refine wl (.bool d.more) (by kernel_rfl) (by exact ex_cell (by exact rfl) Try.underlying4 rfl (by exact rfl) c139) ?_
  simp only [lay]
  refine wl (.pointer (some ⟨w.heap.size + 1, 39, none⟩)) (by kernel_rfl) (by exact ex_field 39 0 (by exact rfl) Try.underlying36 (by exact rfl) rfl (by kernel_rfl) (by exact rfl)) ?_
  simp only [lay]
  refine wl (.bool d'.more) (by kernel_rfl) (by exact ex_cell (by exact rfl) Try.underlying4 rfl (by exact rfl) c239) ?_
  simp only [lay]
  by_cases zmore : d.more = d'.more
  case neg =>
    obtain rfl : V = false := by
      rw [← hV]
      refine decide_eq_false (fun h => ?_)
      exact zmore h.2.2.2.2.2.2.2.2.1
    refine wl (.bool true) (by kernel_rfl) (by exact ex_ne_bool6 (by exact rfl) Try.underlying4 (by exact rfl) (by exact rfl) (by simpa using zmore)) ?_
    simp only [lay]
    refine skip_ok (t' := #[.agg (d.cells ⟨hA1, hc1, ps, bA1, bc1⟩), .agg (d'.cells ⟨hA2, hc2, qs, bA2, bc2⟩), .pointer (some ⟨w.heap.size, 0, none⟩), .pointer (some ⟨w.heap.size + 1, 0, none⟩), .bool false, undef, .pointer (some ⟨w.heap.size, 0, none⟩), .int .u8 d.cls, .pointer (some ⟨w.heap.size + 1, 0, none⟩), .int .u8 d'.cls, .bool false, .bool false, .pointer (some ⟨w.heap.size, 1, none⟩), .int .u32 d.lab, .pointer (some ⟨w.heap.size + 1, 1, none⟩), .int .u32 d'.lab, .bool false, .bool false, .bool false, .pointer (some ⟨w.heap.size, 2, none⟩), .int .u8 d.hop, .pointer (some ⟨w.heap.size + 1, 2, none⟩), .int .u8 d'.hop, .bool false, .bool false, .bool false, .pointer (some ⟨w.heap.size, 3, none⟩), .agg (u8s d.src).toArray, .pointer (some ⟨w.heap.size + 1, 3, none⟩), .agg (u8s d'.src).toArray, .bool false, .bool false, .bool false, .pointer (some ⟨w.heap.size, 19, none⟩), .agg (u8s d.dst).toArray, .pointer (some ⟨w.heap.size + 1, 19, none⟩), .agg (u8s d'.dst).toArray, .bool false, .bool false, .bool false, .pointer (some ⟨w.heap.size, 36, none⟩), .bool d.frag, .pointer (some ⟨w.heap.size + 1, 36, none⟩), .bool d'.frag, .bool false, .bool false, .bool false, .pointer (some ⟨w.heap.size, 37, none⟩), .int .u32 d.id, .pointer (some ⟨w.heap.size + 1, 37, none⟩), .int .u32 d'.id, .bool false, .bool false, .bool false, .pointer (some ⟨w.heap.size, 38, none⟩), .int .i64 d.off, .pointer (some ⟨w.heap.size + 1, 38, none⟩), .int .i64 d'.off, .bool false, .bool false, .bool false, .pointer (some ⟨w.heap.size, 39, none⟩), .bool d.more, .pointer (some ⟨w.heap.size + 1, 39, none⟩), .bool d'.more, .bool true, .bool true, .bool true, undef, undef, undef, undef, undef, .bool true, .bool true, undef, undef, undef, undef, undef, undef, undef, .bool true, .bool true, undef, undef, undef, undef, undef, undef, undef, .bool true, undef, undef, undef, undef, undef, undef, undef, undef, undef, undef, undef, undef, undef, undef, undef, undef, undef, undef, undef, undef, undef, undef, undef, undef, undef, undef, undef, undef, undef, undef, undef, undef, undef, undef, undef, undef, undef]) _ _ (by kernel_rfl) ?_
    change Code.wp _ _ _ _ _
    go_wp2
    go_ret
    exact ⟨Tru.mk rfl, hB⟩
  case pos =>
  refine wl (.bool false) (by kernel_rfl) (by exact ex_ne_bool6 (by exact rfl) Try.underlying4 (by exact rfl) (by exact rfl) (by simpa using zmore)) ?_
  simp only [lay]
  refine wl (.bool false) (by kernel_rfl) (by exact rfl) ?_
  simp only [lay]
  refine wl (.bool false) (by kernel_rfl) (by exact rfl) ?_
  simp only [lay]
  refine wl (.pointer (some ⟨w.heap.size, 40, none⟩)) (by kernel_rfl) (by exact ex_field 40 0 (by exact rfl) Try.underlying36 (by exact rfl) rfl (by kernel_rfl) (by exact rfl)) ?_
  simp only [lay]
  refine wl (.int .u8 d.pro) (by kernel_rfl) (by exact ex_cell (by exact rfl) Try.underlying5 rfl (by exact rfl) c140) ?_
  simp only [lay]
  refine wl (.pointer (some ⟨w.heap.size + 1, 40, none⟩)) (by kernel_rfl) (by exact ex_field 40 0 (by exact rfl) Try.underlying36 (by exact rfl) rfl (by kernel_rfl) (by exact rfl)) ?_
  simp only [lay]
  refine wl (.int .u8 d'.pro) (by kernel_rfl) (by exact ex_cell (by exact rfl) Try.underlying5 rfl (by exact rfl) c240) ?_
  simp only [lay]
  by_cases zpro : d.pro = d'.pro
  case neg =>
    obtain rfl : V = false := by
      rw [← hV]
      refine decide_eq_false (fun h => ?_)
      exact zpro h.2.2.2.2.2.2.2.2.2.1
    refine wl (.bool true) (by kernel_rfl) (by exact neq_int_ne (by exact rfl) (by exact rfl) (by exact rfl) zpro) ?_
    simp only [lay]
    refine skip_ok (t' := #[.agg (d.cells ⟨hA1, hc1, ps, bA1, bc1⟩), .agg (d'.cells ⟨hA2, hc2, qs, bA2, bc2⟩), .pointer (some ⟨w.heap.size, 0, none⟩), .pointer (some ⟨w.heap.size + 1, 0, none⟩), .bool false, undef, .pointer (some ⟨w.heap.size, 0, none⟩), .int .u8 d.cls, .pointer (some ⟨w.heap.size + 1, 0, none⟩), .int .u8 d'.cls, .bool false, .bool false, .pointer (some ⟨w.heap.size, 1, none⟩), .int .u32 d.lab, .pointer (some ⟨w.heap.size + 1, 1, none⟩), .int .u32 d'.lab, .bool false, .bool false, .bool false, .pointer (some ⟨w.heap.size, 2, none⟩), .int .u8 d.hop, .pointer (some ⟨w.heap.size + 1, 2, none⟩), .int .u8 d'.hop, .bool false, .bool false, .bool false, .pointer (some ⟨w.heap.size, 3, none⟩), .agg (u8s d.src).toArray, .pointer (some ⟨w.heap.size + 1, 3, none⟩), .agg (u8s d'.src).toArray, .bool false, .bool false, .bool false, .pointer (some ⟨w.heap.size, 19, none⟩), .agg (u8s d.dst).toArray, .pointer (some ⟨w.heap.size + 1, 19, none⟩), .agg (u8s d'.dst).toArray, .bool false, .bool false, .bool false, .pointer (some ⟨w.heap.size, 36, none⟩), .bool d.frag, .pointer (some ⟨w.heap.size + 1, 36, none⟩), .bool d'.frag, .bool false, .bool false, .bool false, .pointer (some ⟨w.heap.size, 37, none⟩), .int .u32 d.id, .pointer (some ⟨w.heap.size + 1, 37, none⟩), .int .u32 d'.id, .bool false, .bool false, .bool false, .pointer (some ⟨w.heap.size, 38, none⟩), .int .i64 d.off, .pointer (some ⟨w.heap.size + 1, 38, none⟩), .int .i64 d'.off, .bool false, .bool false, .bool false, .pointer (some ⟨w.heap.size, 39, none⟩), .bool d.more, .pointer (some ⟨w.heap.size + 1, 39, none⟩), .bool d'.more, .bool false, .bool false, .bool false, .pointer (some ⟨w.heap.size, 40, none⟩), .int .u8 d.pro, .pointer (some ⟨w.heap.size + 1, 40, none⟩), .int .u8 d'.pro, .bool true, .bool true, .bool true, undef, undef, undef, undef, undef, undef, undef, .bool true, .bool true, undef, undef, undef, undef, undef, undef, undef, .bool true, undef, undef, undef, undef, undef, undef, undef, undef, undef, undef, undef, undef, undef, undef, undef, undef, undef, undef, undef, undef, undef, undef, undef, undef, undef, undef, undef, undef, undef, undef, undef, undef, undef, undef, undef, undef, undef]) _ _ (by kernel_rfl) ?_
    change Code.wp _ _ _ _ _
    go_wp2
    go_ret
    exact ⟨Tru.mk rfl, hB⟩
  case pos =>
  refine wl (.bool false) (by kernel_rfl) (by exact neq_int_eq (by exact rfl) (by exact rfl) (by exact rfl) zpro) ?_
  simp only [lay]
  refine wl (.bool false) (by kernel_rfl) (by exact rfl) ?_
  simp only [lay]
  refine wl (.bool false) (by kernel_rfl) (by exact rfl) ?_
  simp only [lay]
  refine wl (.pointer (some ⟨w.heap.size, 41, none⟩)) (by kernel_rfl) (by exact ex_field 41 0 (by exact rfl) Try.underlying36 (by exact rfl) rfl (by kernel_rfl) (by exact rfl)) ?_
  simp only [lay]
  refine wl (.slice bA1 N1 bc1) (by kernel_rfl) (by exact ex_cell (by exact rfl) Try.underlying25 rfl (by exact rfl) c141) ?_
  simp only [lay]
  refine wl (.string (strOfNums d.bl)) (by kernel_rfl) (by exact ex_conv (by exact rfl) (by exact rfl) u1) ?_
  simp only [lay]
  refine wl (.pointer (some ⟨w.heap.size + 1, 41, none⟩)) (by kernel_rfl) (by exact ex_field 41 0 (by exact rfl) Try.underlying36 (by exact rfl) rfl (by kernel_rfl) (by exact rfl)) ?_
  simp only [lay]
  refine wl (.slice bA2 N2 bc2) (by kernel_rfl) (by exact ex_cell (by exact rfl) Try.underlying25 rfl (by exact rfl) c241) ?_
  simp only [lay]
  refine wl (.string (strOfNums d'.bl)) (by kernel_rfl) (by exact ex_conv (by exact rfl) (by exact rfl) u2) ?_
  simp only [lay]
  by_cases zbl : d.bl = d'.bl
  case neg =>
    obtain rfl : V = false := by
      rw [← hV]
      refine decide_eq_false (fun h => ?_)
      exact zbl h.2.2.2.2.2.2.2.2.2.2.1
    refine wl (.bool true) (by kernel_rfl) (by exact ex_ne_str (by exact rfl) (by exact rfl) (by exact rfl) (by rw [bne, strOfNums_beq hR1.body.rng hR2.body.rng]; simpa using zbl)) ?_
    simp only [lay]
    refine skip_ok (t' := #[.agg (d.cells ⟨hA1, hc1, ps, bA1, bc1⟩), .agg (d'.cells ⟨hA2, hc2, qs, bA2, bc2⟩), .pointer (some ⟨w.heap.size, 0, none⟩), .pointer (some ⟨w.heap.size + 1, 0, none⟩), .bool false, undef, .pointer (some ⟨w.heap.size, 0, none⟩), .int .u8 d.cls, .pointer (some ⟨w.heap.size + 1, 0, none⟩), .int .u8 d'.cls, .bool false, .bool false, .pointer (some ⟨w.heap.size, 1, none⟩), .int .u32 d.lab, .pointer (some ⟨w.heap.size + 1, 1, none⟩), .int .u32 d'.lab, .bool false, .bool false, .bool false, .pointer (some ⟨w.heap.size, 2, none⟩), .int .u8 d.hop, .pointer (some ⟨w.heap.size + 1, 2, none⟩), .int .u8 d'.hop, .bool false, .bool false, .bool false, .pointer (some ⟨w.heap.size, 3, none⟩), .agg (u8s d.src).toArray, .pointer (some ⟨w.heap.size + 1, 3, none⟩), .agg (u8s d'.src).toArray, .bool false, .bool false, .bool false, .pointer (some ⟨w.heap.size, 19, none⟩), .agg (u8s d.dst).toArray, .pointer (some ⟨w.heap.size + 1, 19, none⟩), .agg (u8s d'.dst).toArray, .bool false, .bool false, .bool false, .pointer (some ⟨w.heap.size, 36, none⟩), .bool d.frag, .pointer (some ⟨w.heap.size + 1, 36, none⟩), .bool d'.frag, .bool false, .bool false, .bool false, .pointer (some ⟨w.heap.size, 37, none⟩), .int .u32 d.id, .pointer (some ⟨w.heap.size + 1, 37, none⟩), .int .u32 d'.id, .bool false, .bool false, .bool false, .pointer (some ⟨w.heap.size, 38, none⟩), .int .i64 d.off, .pointer (some ⟨w.heap.size + 1, 38, none⟩), .int .i64 d'.off, .bool false, .bool false, .bool false, .pointer (some ⟨w.heap.size, 39, none⟩), .bool d.more, .pointer (some ⟨w.heap.size + 1, 39, none⟩), .bool d'.more, .bool false, .bool false, .bool false, .pointer (some ⟨w.heap.size, 40, none⟩), .int .u8 d.pro, .pointer (some ⟨w.heap.size + 1, 40, none⟩), .int .u8 d'.pro, .bool false, .bool false, .bool false, .pointer (some ⟨w.heap.size, 41, none⟩), .slice bA1 N1 bc1, .string (strOfNums d.bl), .pointer (some ⟨w.heap.size + 1, 41, none⟩), .slice bA2 N2 bc2, .string (strOfNums d'.bl), .bool true, .bool true, .bool true, undef, undef, undef, undef, undef, undef, undef, .bool true, undef, undef, undef, undef, undef, undef, undef, undef, undef, undef, undef, undef, undef, undef, undef, undef, undef, undef, undef, undef, undef, undef, undef, undef, undef, undef, undef, undef, undef, undef, undef, undef, undef, undef, undef, undef, undef]) _ _ (by kernel_rfl) ?_
    change Code.wp _ _ _ _ _
    go_wp2
    go_ret
    exact ⟨Tru.mk rfl, hB⟩
  case pos =>
  refine wl (.bool false) (by kernel_rfl) (by exact ex_ne_str (by exact rfl) (by exact rfl) (by exact rfl) (by rw [bne, strOfNums_beq hR1.body.rng hR2.body.rng]; simpa using zbl)) ?_
  simp only [lay]
  refine wl (.bool false) (by kernel_rfl) (by exact rfl) ?_
  simp only [lay]
  refine wl (.bool false) (by kernel_rfl) (by exact rfl) ?_
  simp only [lay]
  refine wl (.pointer (some ⟨w.heap.size, 35, none⟩)) (by kernel_rfl) (by exact ex_field 35 0 (by exact rfl) Try.underlying36 (by exact rfl) rfl (by kernel_rfl) (by exact rfl)) ?_
  simp only [lay]
  refine wl (.slice hA1 M1 hc1) (by kernel_rfl) (by exact ex_cell (by exact rfl) Try.underlying34 rfl (by exact rfl) c135) ?_
  simp only [lay]
  refine wl (.int .i64 (M1 : Int)) (by kernel_rfl) (by exact ex_len (by exact rfl) Try.underlying34 (by exact rfl)) ?_
  simp only [lay]
  refine wl (.pointer (some ⟨w.heap.size + 1, 35, none⟩)) (by kernel_rfl) (by exact ex_field 35 0 (by exact rfl) Try.underlying36 (by exact rfl) rfl (by kernel_rfl) (by exact rfl)) ?_
  simp only [lay]
  refine wl (.slice hA2 M2 hc2) (by kernel_rfl) (by exact ex_cell (by exact rfl) Try.underlying34 rfl (by exact rfl) c235) ?_
  simp only [lay]
  refine wl (.int .i64 (M2 : Int)) (by kernel_rfl) (by exact ex_len (by exact rfl) Try.underlying34 (by exact rfl)) ?_
  simp only [lay]
  by_cases zhs : M1 = M2
  case neg =>
    obtain rfl : V = false := by
      rw [← hV]
      refine decide_eq_false (fun h => ?_)
      have := congrArg List.length (h.2.2.2.2.2.2.2.2.2.2.2)
      rw [hM1, hM2] at this
      exact zhs this
    refine wl (.bool true) (by kernel_rfl) (by exact neq_int_ne (by exact rfl) (by exact rfl) (by exact rfl) (by omega)) ?_
    simp only [lay]
    refine skip_ok (t' := #[.agg (d.cells ⟨hA1, hc1, ps, bA1, bc1⟩), .agg (d'.cells ⟨hA2, hc2, qs, bA2, bc2⟩), .pointer (some ⟨w.heap.size, 0, none⟩), .pointer (some ⟨w.heap.size + 1, 0, none⟩), .bool false, undef, .pointer (some ⟨w.heap.size, 0, none⟩), .int .u8 d.cls, .pointer (some ⟨w.heap.size + 1, 0, none⟩), .int .u8 d'.cls, .bool false, .bool false, .pointer (some ⟨w.heap.size, 1, none⟩), .int .u32 d.lab, .pointer (some ⟨w.heap.size + 1, 1, none⟩), .int .u32 d'.lab, .bool false, .bool false, .bool false, .pointer (some ⟨w.heap.size, 2, none⟩), .int .u8 d.hop, .pointer (some ⟨w.heap.size + 1, 2, none⟩), .int .u8 d'.hop, .bool false, .bool false, .bool false, .pointer (some ⟨w.heap.size, 3, none⟩), .agg (u8s d.src).toArray, .pointer (some ⟨w.heap.size + 1, 3, none⟩), .agg (u8s d'.src).toArray, .bool false, .bool false, .bool false, .pointer (some ⟨w.heap.size, 19, none⟩), .agg (u8s d.dst).toArray, .pointer (some ⟨w.heap.size + 1, 19, none⟩), .agg (u8s d'.dst).toArray, .bool false, .bool false, .bool false, .pointer (some ⟨w.heap.size, 36, none⟩), .bool d.frag, .pointer (some ⟨w.heap.size + 1, 36, none⟩), .bool d'.frag, .bool false, .bool false, .bool false, .pointer (some ⟨w.heap.size, 37, none⟩), .int .u32 d.id, .pointer (some ⟨w.heap.size + 1, 37, none⟩), .int .u32 d'.id, .bool false, .bool false, .bool false, .pointer (some ⟨w.heap.size, 38, none⟩), .int .i64 d.off, .pointer (some ⟨w.heap.size + 1, 38, none⟩), .int .i64 d'.off, .bool false, .bool false, .bool false, .pointer (some ⟨w.heap.size, 39, none⟩), .bool d.more, .pointer (some ⟨w.heap.size + 1, 39, none⟩), .bool d'.more, .bool false, .bool false, .bool false, .pointer (some ⟨w.heap.size, 40, none⟩), .int .u8 d.pro, .pointer (some ⟨w.heap.size + 1, 40, none⟩), .int .u8 d'.pro, .bool false, .bool false, .bool false, .pointer (some ⟨w.heap.size, 41, none⟩), .slice bA1 N1 bc1, .string (strOfNums d.bl), .pointer (some ⟨w.heap.size + 1, 41, none⟩), .slice bA2 N2 bc2, .string (strOfNums d'.bl), .bool false, .bool false, .bool false, .pointer (some ⟨w.heap.size, 35, none⟩), .slice hA1 M1 hc1, .int .i64 (M1 : Int), .pointer (some ⟨w.heap.size + 1, 35, none⟩), .slice hA2 M2 hc2, .int .i64 (M2 : Int), .bool true, .bool true, undef, undef, undef, undef, undef, undef, undef, undef, undef, undef, undef, undef, undef, undef, undef, undef, undef, undef, undef, undef, undef, undef, undef, undef, undef, undef, undef, undef, undef, undef, undef, undef, undef, undef, undef, undef, undef]) _ _ (by kernel_rfl) ?_
    change Code.wp _ _ _ _ _
    go_wp2
    go_ret
    exact ⟨Tru.mk rfl, hB⟩
  case pos =>
  refine wl (.bool false) (by kernel_rfl) (by exact neq_int_eq (by exact rfl) (by exact rfl) (by exact rfl) (by omega)) ?_
  simp only [lay]
  refine wl (.bool false) (by kernel_rfl) (by exact rfl) ?_
  simp only [lay]
  refine wpList_nil ?_
  subst zhs
  obtain ⟨M, rfl⟩ : ∃ M, M = M1 := ⟨_, rfl⟩
  have hVv : Hid (decide (d.hs.drop 0 = d'.hs.drop 0) = V) := Lib.hid (by
    rw [List.drop_zero, List.drop_zero, ← hV, same6, Bool.eq_iff_iff, decide_eq_true_eq, decide_eq_true_eq]
    exact ⟨fun h => ⟨zcls, zlab, zhop, zsrc, zdst, zfrag, zid, zoff, zmore, zpro, zbl, h⟩, fun h => h.2.2.2.2.2.2.2.2.2.2.2⟩)
  have hM1H := Lib.hid hM1
  have hM2H := Lib.hid hM2
  have hkl1 : kdL ps = d.hs := hR.hl
  have hkl2 : kdL qs = d'.hs := hR'.hl
  clear hV hM1 hM2 hN1 hN2 hR hR' hR1 hR2 l1 l2 l3 l4 u1 u2 c10 c20 c11 c21 c12 c22 c136 c236 c137 c237 c138 c238 c139 c239 c140 c240 c141 c241 hW1 hW2 zcls zlab zhop zsrc zdst zfrag zid zoff zmore zpro zbl
  change Code.wp _ _ _ _ _
  go_wp2
  have c135 : ∀ W, Below W2.heap.size W2 W → W.cell? ⟨w.heap.size, 35, none⟩ = some (.slice hA1 M hc1) := fun W h => by rw [← hM1H.out]; exact (hL.below h hL.lt).cell 35 rfl
  have c235 : ∀ W, Below W2.heap.size W2 W → W.cell? ⟨w.heap.size + 1, 35, none⟩ = some (.slice hA2 M hc2) := fun W h => by rw [← hM2H.out]; exact (hG.below h hG.lt).cell 35 rfl
  go_loopw [5] (fun i wr => ∃ k : Nat, k ≤ M ∧ i = .int .i64 k ∧ Hid (decide (d.hs.drop k = d'.hs.drop k) = V) ∧ Below W2.heap.size W2 wr) (fun i _ => M - (intOf i).toNat)
  case atStart => exact ⟨0, Nat.zero_le _, rfl, hVv, Below.refl _ _⟩
  case round =>
  obtain ⟨k, hk, rfl, hVk, hBr⟩ := hrel
  rename_i wr _
  have c135r := c135 _ hBr
  by_cases hkM : k < M
  case neg =>
    have hge : ¬ ((k : Int) < (M : Int)) := by omega
    obtain rfl : V = true := by
      rw [← hVk.out, List.drop_of_length_le (by rw [hM1H.out]; omega), List.drop_of_length_le (by rw [hM2H.out]; omega)]
      simp
    clear hVk hVv K1 K2 c135 c235
    go_wp2
    go_ret
    exact ⟨Tru.mk rfl, hB.trans (hBr.mono hB.size)⟩
  case pos =>
  have hkz : (k : Int) < (M : Int) := by omega
  obtain ⟨⟨pk, pA, pc, pl⟩, hp⟩ : ∃ p', ps[k]? = some p' := ⟨ps[k]'(by rw [K1.len]; exact hkM), List.getElem?_eq_getElem _⟩
  obtain ⟨⟨qk, qA, qc, ql⟩, hq⟩ : ∃ p', qs[k]? = some p' := ⟨qs[k]'(by rw [K2.len]; exact hkM), List.getElem?_eq_getElem _⟩
  have hd1 := drop_kd hkl1 hp
  have hd2 := drop_kd hkl2 hq
  obtain ⟨b1, o1, hA1', hb1, hr1, hr2, yP, e0, e1, _⟩ := K1.loadHead hp
  obtain ⟨b2, o2, hA2', hb2, hr3, hr4, yQ, g0, g1, _⟩ := K2.loadHead hq
  subst hA1' hA2'
  dsimp only at hd1 hd2 yP yQ e0 e1 g0 g1
  have hV2 := hVk.out
  rw [hd1, hd2] at hV2
  have hbq := strOfNums_beq yP.rng yQ.rng
  obtain ⟨pn, hpn⟩ : ∃ m, pl.length = m := ⟨_, rfl⟩
  obtain ⟨qn, hqn⟩ : ∃ m, ql.length = m := ⟨_, rfl⟩
  rw [hpn] at e1 yP
  rw [hqn] at g1 yQ
  have hV2H := Lib.hid hV2
  clear hV2 hVk hVv hp hq hd1 hd2 K1 K2 hpn hqn hkl1 hkl2
  by_cases hne : pk = qk
  case neg =>
    obtain rfl : V = false := by rw [← hV2H.out]; simp [hne]
    clear hV2H hbq
    go_wp2
    refine wp_region_held_drew (S := fun W => Below W2.heap.size W2 W) (by kernel_rfl) (hBr.trans (below_drew _ _)) (fun hS => ?_)
    refine te 0 (.pointer (some ⟨w.heap.size, 35, none⟩)) hS rfl (by intro _ _; exact ex_field 35 0 (by exact rfl) Try.underlying36 (by exact rfl) rfl (by kernel_rfl) (by exact rfl)) ?_
    simp only [lay]
    refine te 1 (.slice (some ⟨b1, o1, none⟩) M hc1) hS rfl (by intro _ h; exact ex_cell (by exact rfl) Try.underlying34 rfl (by exact rfl) (c135 _ h)) ?_
    simp only [lay]
    refine te 2 (.int .i64 (k : Int)) hS rfl (by intro _ _; exact rfl) ?_
    simp only [lay]
    refine te 3 (.pointer (some ⟨b1, o1 + k * 2, none⟩)) hS rfl (by intro _ _; exact ex_index2 (by exact rfl) Try.underlying34 (by kernel_rfl) (by exact rfl) (by exact rfl) hkM) ?_
    simp only [lay]
    refine te 4 (.pointer (some ⟨b1, o1 + k * 2, none⟩)) hS rfl (by intro _ _; exact ex_field0 (by exact rfl) Try.underlying93 (by exact rfl) rfl (by kernel_rfl) (by exact rfl)) ?_
    simp only [lay]
    refine te 5 (.int .u8 pk) hS rfl (by intro _ h; exact ex_cell (by exact rfl) Try.underlying5 rfl (by exact rfl) ((h.cell (p := ⟨b1, o1 + k * 2, none⟩) hb1).trans e0)) ?_
    simp only [lay]
    refine te 6 (.pointer (some ⟨w.heap.size + 1, 35, none⟩)) hS rfl (by intro _ _; exact ex_field 35 0 (by exact rfl) Try.underlying36 (by exact rfl) rfl (by kernel_rfl) (by exact rfl)) ?_
    simp only [lay]
    refine te 7 (.slice (some ⟨b2, o2, none⟩) M hc2) hS rfl (by intro _ h; exact ex_cell (by exact rfl) Try.underlying34 rfl (by exact rfl) (c235 _ h)) ?_
    simp only [lay]
    refine te 8 (.int .i64 (k : Int)) hS rfl (by intro _ _; exact rfl) ?_
    simp only [lay]
    refine te 9 (.pointer (some ⟨b2, o2 + k * 2, none⟩)) hS rfl (by intro _ _; exact ex_index2 (by exact rfl) Try.underlying34 (by kernel_rfl) (by exact rfl) (by exact rfl) hkM) ?_
    simp only [lay]
    refine te 10 (.pointer (some ⟨b2, o2 + k * 2, none⟩)) hS rfl (by intro _ _; exact ex_field0 (by exact rfl) Try.underlying93 (by exact rfl) rfl (by kernel_rfl) (by exact rfl)) ?_
    simp only [lay]
    refine te 11 (.int .u8 qk) hS rfl (by intro _ h; exact ex_cell (by exact rfl) Try.underlying5 rfl (by exact rfl) ((h.cell (p := ⟨b2, o2 + k * 2, none⟩) hb2).trans g0)) ?_
    simp only [lay]
    refine te 12 (.bool true) hS rfl (by intro _ _; exact neq_int_ne (by exact rfl) (by exact rfl) (by exact rfl) hne) ?_
    simp only [lay]
    refine te 13 (.bool true) hS rfl (by intro _ _; exact rfl) ?_
    simp only [lay]
    refine tn 14 hS rfl ?_
    simp only [lay]
    refine tn 15 hS rfl ?_
    simp only [lay]
    refine tn 16 hS rfl ?_
    simp only [lay]
    refine tn 17 hS rfl ?_
    simp only [lay]
    refine tn 18 hS rfl ?_
    simp only [lay]
    refine tn 19 hS rfl ?_
    simp only [lay]
    refine tn 20 hS rfl ?_
    simp only [lay]
    refine tn 21 hS rfl ?_
    simp only [lay]
    refine tn 22 hS rfl ?_
    simp only [lay]
    refine tn 23 hS rfl ?_
    simp only [lay]
    refine tn 24 hS rfl ?_
    simp only [lay]
    refine tn 25 hS rfl ?_
    simp only [lay]
    refine tn 26 hS rfl ?_
    simp only [lay]
    refine tn 27 hS rfl ?_
    simp only [lay]
    refine tn 28 hS rfl ?_
    simp only [lay]
    refine te 29 (.bool true) hS rfl (by intro _ _; exact rfl) ?_
    simp only [lay]
    refine wpAnyH_done (by kernel_rfl) ?_ _
    go_wp2
    go_ret
    exact ⟨Tru.mk rfl, hB.trans (hS.mono hB.size)⟩
  case pos =>
  subst hne
  by_cases hpq : pl = ql
  case neg =>
    obtain rfl : V = false := by rw [← hV2H.out]; simp [hpq]
    have hs1 : ((strOfNums pl).toList != (strOfNums ql).toList) = true := by rw [bne, hbq]; simp [hpq]
    clear hV2H hbq
    go_wp2
    refine wp_region_held_drew (S := fun W => Below W2.heap.size W2 W) (by kernel_rfl) (hBr.trans (below_drew _ _)) (fun hS => ?_)
    refine te 0 (.pointer (some ⟨w.heap.size, 35, none⟩)) hS rfl (by intro _ _; exact ex_field 35 0 (by exact rfl) Try.underlying36 (by exact rfl) rfl (by kernel_rfl) (by exact rfl)) ?_
    simp only [lay]
    refine te 1 (.slice (some ⟨b1, o1, none⟩) M hc1) hS rfl (by intro _ h; exact ex_cell (by exact rfl) Try.underlying34 rfl (by exact rfl) (c135 _ h)) ?_
    simp only [lay]
    refine te 2 (.int .i64 (k : Int)) hS rfl (by intro _ _; exact rfl) ?_
    simp only [lay]
    refine te 3 (.pointer (some ⟨b1, o1 + k * 2, none⟩)) hS rfl (by intro _ _; exact ex_index2 (by exact rfl) Try.underlying34 (by kernel_rfl) (by exact rfl) (by exact rfl) hkM) ?_
    simp only [lay]
    refine te 4 (.pointer (some ⟨b1, o1 + k * 2, none⟩)) hS rfl (by intro _ _; exact ex_field0 (by exact rfl) Try.underlying93 (by exact rfl) rfl (by kernel_rfl) (by exact rfl)) ?_
    simp only [lay]
    refine te 5 (.int .u8 pk) hS rfl (by intro _ h; exact ex_cell (by exact rfl) Try.underlying5 rfl (by exact rfl) ((h.cell (p := ⟨b1, o1 + k * 2, none⟩) hb1).trans e0)) ?_
    simp only [lay]
    refine te 6 (.pointer (some ⟨w.heap.size + 1, 35, none⟩)) hS rfl (by intro _ _; exact ex_field 35 0 (by exact rfl) Try.underlying36 (by exact rfl) rfl (by kernel_rfl) (by exact rfl)) ?_
    simp only [lay]
    refine te 7 (.slice (some ⟨b2, o2, none⟩) M hc2) hS rfl (by intro _ h; exact ex_cell (by exact rfl) Try.underlying34 rfl (by exact rfl) (c235 _ h)) ?_
    simp only [lay]
    refine te 8 (.int .i64 (k : Int)) hS rfl (by intro _ _; exact rfl) ?_
    simp only [lay]
    refine te 9 (.pointer (some ⟨b2, o2 + k * 2, none⟩)) hS rfl (by intro _ _; exact ex_index2 (by exact rfl) Try.underlying34 (by kernel_rfl) (by exact rfl) (by exact rfl) hkM) ?_
    simp only [lay]
    refine te 10 (.pointer (some ⟨b2, o2 + k * 2, none⟩)) hS rfl (by intro _ _; exact ex_field0 (by exact rfl) Try.underlying93 (by exact rfl) rfl (by kernel_rfl) (by exact rfl)) ?_
    simp only [lay]
    refine te 11 (.int .u8 pk) hS rfl (by intro _ h; exact ex_cell (by exact rfl) Try.underlying5 rfl (by exact rfl) ((h.cell (p := ⟨b2, o2 + k * 2, none⟩) hb2).trans g0)) ?_
    simp only [lay]
    refine te 12 (.bool false) hS rfl (by intro _ _; exact neq_int_eq (by exact rfl) (by exact rfl) (by exact rfl) rfl) ?_
    simp only [lay]
    refine te 13 (.bool false) hS rfl (by intro _ _; exact rfl) ?_
    simp only [lay]
    refine te 14 (.pointer (some ⟨w.heap.size, 35, none⟩)) hS rfl (by intro _ _; exact ex_field 35 0 (by exact rfl) Try.underlying36 (by exact rfl) rfl (by kernel_rfl) (by exact rfl)) ?_
    simp only [lay]
    refine te 15 (.slice (some ⟨b1, o1, none⟩) M hc1) hS rfl (by intro _ h; exact ex_cell (by exact rfl) Try.underlying34 rfl (by exact rfl) (c135 _ h)) ?_
    simp only [lay]
    refine te 16 (.int .i64 (k : Int)) hS rfl (by intro _ _; exact rfl) ?_
    simp only [lay]
    refine te 17 (.pointer (some ⟨b1, o1 + k * 2, none⟩)) hS rfl (by intro _ _; exact ex_index2 (by exact rfl) Try.underlying34 (by kernel_rfl) (by exact rfl) (by exact rfl) hkM) ?_
    simp only [lay]
    refine te 18 (.pointer (some ⟨b1, o1 + k * 2 + 1, none⟩)) hS rfl (by intro _ _; exact ex_field1 (by exact rfl) Try.underlying93 (by exact rfl) rfl (by kernel_rfl) (by exact rfl)) ?_
    simp only [lay]
    refine te 19 (.slice pA pn pc) hS rfl (by intro _ h; exact ex_cell (by exact rfl) Try.underlying25 rfl (by exact rfl) ((h.cell (p := ⟨b1, o1 + k * 2 + 1, none⟩) hb1).trans e1)) ?_
    simp only [lay]
    refine te 20 (.string (strOfNums pl)) hS rfl (by intro _ h; exact ex_conv (by exact rfl) (by exact rfl) ((yP.below h (Nat.le_refl _)).conv _ _ Try.underlying25 Try.underlying5 Try.underlying9)) ?_
    simp only [lay]
    refine te 21 (.pointer (some ⟨w.heap.size + 1, 35, none⟩)) hS rfl (by intro _ _; exact ex_field 35 0 (by exact rfl) Try.underlying36 (by exact rfl) rfl (by kernel_rfl) (by exact rfl)) ?_
    simp only [lay]
    refine te 22 (.slice (some ⟨b2, o2, none⟩) M hc2) hS rfl (by intro _ h; exact ex_cell (by exact rfl) Try.underlying34 rfl (by exact rfl) (c235 _ h)) ?_
    simp only [lay]
    refine te 23 (.int .i64 (k : Int)) hS rfl (by intro _ _; exact rfl) ?_
    simp only [lay]
    refine te 24 (.pointer (some ⟨b2, o2 + k * 2, none⟩)) hS rfl (by intro _ _; exact ex_index2 (by exact rfl) Try.underlying34 (by kernel_rfl) (by exact rfl) (by exact rfl) hkM) ?_
    simp only [lay]
    refine te 25 (.pointer (some ⟨b2, o2 + k * 2 + 1, none⟩)) hS rfl (by intro _ _; exact ex_field1 (by exact rfl) Try.underlying93 (by exact rfl) rfl (by kernel_rfl) (by exact rfl)) ?_
    simp only [lay]
    refine te 26 (.slice qA qn qc) hS rfl (by intro _ h; exact ex_cell (by exact rfl) Try.underlying25 rfl (by exact rfl) ((h.cell (p := ⟨b2, o2 + k * 2 + 1, none⟩) hb2).trans g1)) ?_
    simp only [lay]
    refine te 27 (.string (strOfNums ql)) hS rfl (by intro _ h; exact ex_conv (by exact rfl) (by exact rfl) ((yQ.below h (Nat.le_refl _)).conv _ _ Try.underlying25 Try.underlying5 Try.underlying9)) ?_
    simp only [lay]
    refine te 28 (.bool true) hS rfl (by intro _ _; exact ex_ne_str (by exact rfl) (by exact rfl) (by exact rfl) hs1) ?_
    simp only [lay]
    refine te 29 (.bool true) hS rfl (by intro _ _; exact rfl) ?_
    simp only [lay]
    refine wpAnyH_done (by kernel_rfl) ?_ _
    go_wp2
    go_ret
    exact ⟨Tru.mk rfl, hB.trans (hS.mono hB.size)⟩
  case pos =>
    have hs1 : ((strOfNums pl).toList != (strOfNums ql).toList) = false := by rw [bne, hbq]; simp [hpq]
    have hVn : Hid (decide (d.hs.drop (k + 1) = d'.hs.drop (k + 1)) = V) := Lib.hid (by rw [← hV2H.out, hpq]; simp)
    clear hV2H hbq
    go_wp2
    refine wp_region_held_drew (S := fun W => Below W2.heap.size W2 W) (by kernel_rfl) (hBr.trans (below_drew _ _)) (fun hS => ?_)
    refine te 0 (.pointer (some ⟨w.heap.size, 35, none⟩)) hS rfl (by intro _ _; exact ex_field 35 0 (by exact rfl) Try.underlying36 (by exact rfl) rfl (by kernel_rfl) (by exact rfl)) ?_
    simp only [lay]
    refine te 1 (.slice (some ⟨b1, o1, none⟩) M hc1) hS rfl (by intro _ h; exact ex_cell (by exact rfl) Try.underlying34 rfl (by exact rfl) (c135 _ h)) ?_
    simp only [lay]
    refine te 2 (.int .i64 (k : Int)) hS rfl (by intro _ _; exact rfl) ?_
    simp only [lay]
    refine te 3 (.pointer (some ⟨b1, o1 + k * 2, none⟩)) hS rfl (by intro _ _; exact ex_index2 (by exact rfl) Try.underlying34 (by kernel_rfl) (by exact rfl) (by exact rfl) hkM) ?_
    simp only [lay]
    refine te 4 (.pointer (some ⟨b1, o1 + k * 2, none⟩)) hS rfl (by intro _ _; exact ex_field0 (by exact rfl) Try.underlying93 (by exact rfl) rfl (by kernel_rfl) (by exact rfl)) ?_
    simp only [lay]
    refine te 5 (.int .u8 pk) hS rfl (by intro _ h; exact ex_cell (by exact rfl) Try.underlying5 rfl (by exact rfl) ((h.cell (p := ⟨b1, o1 + k * 2, none⟩) hb1).trans e0)) ?_
    simp only [lay]
    refine te 6 (.pointer (some ⟨w.heap.size + 1, 35, none⟩)) hS rfl (by intro _ _; exact ex_field 35 0 (by exact rfl) Try.underlying36 (by exact rfl) rfl (by kernel_rfl) (by exact rfl)) ?_
    simp only [lay]
    refine te 7 (.slice (some ⟨b2, o2, none⟩) M hc2) hS rfl (by intro _ h; exact ex_cell (by exact rfl) Try.underlying34 rfl (by exact rfl) (c235 _ h)) ?_
    simp only [lay]
    refine te 8 (.int .i64 (k : Int)) hS rfl (by intro _ _; exact rfl) ?_
    simp only [lay]
    refine te 9 (.pointer (some ⟨b2, o2 + k * 2, none⟩)) hS rfl (by intro _ _; exact ex_index2 (by exact rfl) Try.underlying34 (by kernel_rfl) (by exact rfl) (by exact rfl) hkM) ?_
    simp only [lay]
    refine te 10 (.pointer (some ⟨b2, o2 + k * 2, none⟩)) hS rfl (by intro _ _; exact ex_field0 (by exact rfl) Try.underlying93 (by exact rfl) rfl (by kernel_rfl) (by exact rfl)) ?_
    simp only [lay]
    refine te 11 (.int .u8 pk) hS rfl (by intro _ h; exact ex_cell (by exact rfl) Try.underlying5 rfl (by exact rfl) ((h.cell (p := ⟨b2, o2 + k * 2, none⟩) hb2).trans g0)) ?_
    simp only [lay]
    refine te 12 (.bool false) hS rfl (by intro _ _; exact neq_int_eq (by exact rfl) (by exact rfl) (by exact rfl) rfl) ?_
    simp only [lay]
    refine te 13 (.bool false) hS rfl (by intro _ _; exact rfl) ?_
    simp only [lay]
    refine te 14 (.pointer (some ⟨w.heap.size, 35, none⟩)) hS rfl (by intro _ _; exact ex_field 35 0 (by exact rfl) Try.underlying36 (by exact rfl) rfl (by kernel_rfl) (by exact rfl)) ?_
    simp only [lay]
    refine te 15 (.slice (some ⟨b1, o1, none⟩) M hc1) hS rfl (by intro _ h; exact ex_cell (by exact rfl) Try.underlying34 rfl (by exact rfl) (c135 _ h)) ?_
    simp only [lay]
    refine te 16 (.int .i64 (k : Int)) hS rfl (by intro _ _; exact rfl) ?_
    simp only [lay]
    refine te 17 (.pointer (some ⟨b1, o1 + k * 2, none⟩)) hS rfl (by intro _ _; exact ex_index2 (by exact rfl) Try.underlying34 (by kernel_rfl) (by exact rfl) (by exact rfl) hkM) ?_
    simp only [lay]
    refine te 18 (.pointer (some ⟨b1, o1 + k * 2 + 1, none⟩)) hS rfl (by intro _ _; exact ex_field1 (by exact rfl) Try.underlying93 (by exact rfl) rfl (by kernel_rfl) (by exact rfl)) ?_
    simp only [lay]
    refine te 19 (.slice pA pn pc) hS rfl (by intro _ h; exact ex_cell (by exact rfl) Try.underlying25 rfl (by exact rfl) ((h.cell (p := ⟨b1, o1 + k * 2 + 1, none⟩) hb1).trans e1)) ?_
    simp only [lay]
    refine te 20 (.string (strOfNums pl)) hS rfl (by intro _ h; exact ex_conv (by exact rfl) (by exact rfl) ((yP.below h (Nat.le_refl _)).conv _ _ Try.underlying25 Try.underlying5 Try.underlying9)) ?_
    simp only [lay]
    refine te 21 (.pointer (some ⟨w.heap.size + 1, 35, none⟩)) hS rfl (by intro _ _; exact ex_field 35 0 (by exact rfl) Try.underlying36 (by exact rfl) rfl (by kernel_rfl) (by exact rfl)) ?_
    simp only [lay]
    refine te 22 (.slice (some ⟨b2, o2, none⟩) M hc2) hS rfl (by intro _ h; exact ex_cell (by exact rfl) Try.underlying34 rfl (by exact rfl) (c235 _ h)) ?_
    simp only [lay]
    refine te 23 (.int .i64 (k : Int)) hS rfl (by intro _ _; exact rfl) ?_
    simp only [lay]
    refine te 24 (.pointer (some ⟨b2, o2 + k * 2, none⟩)) hS rfl (by intro _ _; exact ex_index2 (by exact rfl) Try.underlying34 (by kernel_rfl) (by exact rfl) (by exact rfl) hkM) ?_
    simp only [lay]
    refine te 25 (.pointer (some ⟨b2, o2 + k * 2 + 1, none⟩)) hS rfl (by intro _ _; exact ex_field1 (by exact rfl) Try.underlying93 (by exact rfl) rfl (by kernel_rfl) (by exact rfl)) ?_
    simp only [lay]
    refine te 26 (.slice qA qn qc) hS rfl (by intro _ h; exact ex_cell (by exact rfl) Try.underlying25 rfl (by exact rfl) ((h.cell (p := ⟨b2, o2 + k * 2 + 1, none⟩) hb2).trans g1)) ?_
    simp only [lay]
    refine te 27 (.string (strOfNums ql)) hS rfl (by intro _ h; exact ex_conv (by exact rfl) (by exact rfl) ((yQ.below h (Nat.le_refl _)).conv _ _ Try.underlying25 Try.underlying5 Try.underlying9)) ?_
    simp only [lay]
    refine te 28 (.bool false) hS rfl (by intro _ _; exact ex_ne_str (by exact rfl) (by exact rfl) (by exact rfl) hs1) ?_
    simp only [lay]
    refine te 29 (.bool false) hS rfl (by intro _ _; exact rfl) ?_
    simp only [lay]
    refine wpAnyH_done (by kernel_rfl) ?_ _
    go_wp2
    go_roundw
    case rel => exact ⟨k + 1, by omega, by go_num, hVn, hS⟩
    case measure => simp [intOf]; omega
end Go.Proofs.Ytijnifbpbgckgaa
