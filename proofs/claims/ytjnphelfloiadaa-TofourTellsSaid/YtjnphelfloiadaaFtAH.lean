/-
  Lemmas and walks for the row of TofourTells (part 8 of 37).
-/
import Derived.Test.YtjnphelfloiadaaFtAD
import Derived.Test.YtjnphelfloiadaaFtAG
import Derived.Great.BuildSlice
import Derived.Laws.CopyOwn
set_option linter.unusedVariables false
set_option linter.unusedSimpArgs false
namespace Go.Proofs.Ytjnphelfloiadaa
open Go.RowKit Go.Shelf

/-- a number that reads as said -/
def Num1 (x : Int) (e : Ending) : Prop := ∃ q : Int, e = .returned (.int .i64 q) ∧ Hid (q = x)
theorem Num1.mk {x q : Int} (h : q = x) : Num1 x (.returned (.int .i64 q)) := ⟨q, rfl, Lib.hid h⟩
theorem hsz_take {hs : List (Int × List Int)} {k : Nat} {q : Int × List Int} (hq : hs[k]? = some q) : hsz (hs.take (k + 1)) = hsz (hs.take k) + 2 + q.2.length := by
 obtain ⟨hk, rfl⟩ := List.getElem?_eq_some_iff.1 hq
 rw [List.take_succ_eq_append_getElem hk, hsz_append]
 simp only [hsz]
 omega
theorem hsz_take_le (hs : List (Int × List Int)) (k : Nat) : hsz (hs.take k) ≤ hsz hs := by
 have h := hsz_append (hs.take k) (hs.drop k)
 rw [List.take_append_drop] at h
 omega
theorem kd_get {ps : List Kd} {hs : List (Int × List Int)} {k : Nat} {q : Kd} (hl : kdL ps = hs) (hq : ps[k]? = some q) : hs[k]? = some (q.1, q.2.2.2) := by
 subst hl
 simp [kdL, hq]
theorem int_nat {q : Int} {n : Nat} (h : q = (n : Int)) : Value.int .i64 q = .int .i64 (n : Int) := by rw [h]

set_option maxRecDepth 100000 in
set_option maxHeartbeats 4000000 in
theorem ahead_any (d : D6) (p : W6) (w : World) (hR : Rd6 w.heap.size w d p) (hsm : hsz d.hs ≤ 16384) :
  Calls Try.prog 65 #[.agg (d.cells p)] w fun e w' => Num1 d.ahead e ∧ Below w.heap.size w w' := by
 obtain ⟨hA, hc, ps, bA, bc⟩ := p
 have hB : Below w.heap.size w (w.alloc (.cells (d.cells ⟨hA, hc, ps, bA, bc⟩) 28)) := (Below.refl _ _).alloc (Nat.le_refl _) _
 have hH : Has (w.alloc (.cells (d.cells ⟨hA, hc, ps, bA, bc⟩) 28)) w.heap.size (.cells (d.cells ⟨hA, hc, ps, bA, bc⟩) 28 (0, 0)) := Has.newAt rfl
 obtain ⟨W1, hW1⟩ : ∃ W, w.alloc (.cells (d.cells ⟨hA, hc, ps, bA, bc⟩) 28) = W := ⟨_, rfl⟩
 obtain ⟨M, hM⟩ : ∃ M, d.hs.length = M := ⟨_, rfl⟩
 have K := hR.hd.below hB (Nat.le_refl _)
 have hkl : kdL ps = d.hs := hR.hl
 dsimp only at K
 rw [hW1] at hB hH K
 have c35 := hH.cell 35 (v := .slice hA d.hs.length hc) rfl
 rw [hM] at K c35
 have hMc := Nat.le_trans K.cap K.big
 have hMnH := Lib.hid K.len
 have hMH := Lib.hid hM
 have hsmH := Lib.hid hsm
 have hAh : Hid (d.ahead = 40 + hsz d.hs + (if d.frag then 8 else 0)) := Lib.hid rfl
 obtain ⟨X, hX⟩ : ∃ X, d.ahead = X := ⟨_, rfl⟩
 rw [hX] at hAh ⊢
 clear hM hR hsm hX
 go_enter Try.func65, Try.ntmps65
 go_wp2
 go_loopw [3, 9] (fun n i wr => ∃ k T : Nat, k ≤ M ∧ i = .int .i64 k ∧ Hid (hsz (d.hs.take k) = T) ∧ T ≤ 16384 ∧ n = .int .i64 ((40 + T : Nat) : Int) ∧ Below W1.heap.size W1 wr) (fun _ i _ => M - (intOf i).toNat)
 case atStart => exact ⟨0, 0, Nat.zero_le _, rfl, Lib.hid (by rw [List.take_zero]; rfl), Nat.zero_le _, rfl, Below.refl _ _⟩
 case round =>
  obtain ⟨k, T, hk, rfl, hT, hT2, rfl, hBr⟩ := hrel
  rename_i wr _
  have hBw := hB.trans (hBr.mono hB.size)
  have hH1 := hH.below hBr hH.lt
  have c35 := hH1.cell 35 (v := .slice hA d.hs.length hc) rfl
  rw [hMH.out] at c35
  by_cases hkM : k < M
  case neg =>
   have hge : ¬ ((k : Int) < (M : Int)) := by omega
   have c36 := hH1.cell 36 (v := .bool d.frag) rfl
   have hTa : Hid (hsz d.hs = T) := Lib.hid (by rw [← hT.out, List.take_of_length_le (by rw [hMH.out]; omega)])
   have hq : Hid ((X : Int) = 40 + T + (if d.frag then 8 else 0)) := Lib.hid (by rw [hAh.out, hTa.out]; split <;> omega)
   clear K hH hkM hkl hAh hTa hT
   cases hf : d.frag with
   | true =>
    rw [hf] at c36
    have hq2 : Hid ((X : Int) = 40 + T + 8) := Lib.hid (by rw [hq.out, hf]; rfl)
    clear hq hf
    go_wp2
    go_ret
    exact ⟨Num1.mk hq2.out.symm, hBw⟩
   | false =>
    rw [hf] at c36
    have hq2 : Hid ((X : Int) = 40 + T) := Lib.hid (by rw [hq.out, hf]; simp)
    clear hq hf
    go_wp2
    go_ret
    exact ⟨Num1.mk hq2.out.symm, hBw⟩
  case pos =>
  have hkz : (k : Int) < (M : Int) := by omega
  obtain ⟨⟨pk, pA, pc, pl⟩, hp⟩ : ∃ p', ps[k]? = some p' := ⟨ps[k]'(by rw [hMnH.out]; exact hkM), List.getElem?_eq_getElem _⟩
  have htk := hsz_take (kd_get hkl hp)
  obtain ⟨b1, o1, hA1, hb1, hr1, hr2, yP, e0, e1, hld⟩ := K.loadHead hp
  have hld := hld wr (hBr.mono hB.size)
  subst hA1
  dsimp only at hld htk e1
  obtain ⟨m, hm⟩ : ∃ m, pl.length = m := ⟨_, rfl⟩
  rw [hm] at hld htk e1
  obtain ⟨T2, hT3⟩ : ∃ T2, hsz (d.hs.take (k + 1)) = T2 := ⟨_, rfl⟩
  rw [hT3, hT.out] at htk
  have hle : T2 ≤ 16384 := by rw [← hT3]; exact Nat.le_trans (hsz_take_le _ _) hsmH.out
  have htkH := Lib.hid htk
  have hmb : m ≤ 16384 := by omega
  have hT3H := Lib.hid hT3
  obtain ⟨W4, hW4, hH4, hX⟩ := head_var wr pk pA m pc
  have c1 := hH4.cell 1 (v := .slice pA m pc) rfl
  have hB4 := hBr.trans (hX.mono hBr.size)
  have hN : Has (wr.alloc (.cells #[.int .u8 0, .slice none 0 0] 108)) wr.heap.size (.cells #[.int .u8 0, .slice none 0 0] 108 (0, 0)) := Has.newAt rfl
  clear hp K hm yP e0 hkl hr1 hr2 hT htk hT3
  go_wp2_with (first | (refine wl (.pointer (some ⟨b1, o1 + k * 2, none⟩)) (by kernel_rfl) (by exact ex_index2 (by exact rfl) Try.underlying25 (by kernel_rfl) (by exact rfl) (by exact rfl) hkM) ?_) | (refine wl (.agg #[.int .u8 pk, .slice pA m pc]) (by kernel_rfl) (by exact ex_loadAt (by exact rfl) (by exact rfl) hld) ?_) | (refine wpList_store_row rfl 108 (.tmp 5) (.tmp 12) rfl wr.heap.size _ rfl rfl 108 _ hN head_info rfl (by simp [Value.oneCell']) ?_))
  go_roundw
  case rel => exact ⟨k + 1, T2, by omega, by go_num, hT3H, hle, int_nat (by rw [htkH.out]; omega), hB4⟩
  case measure => simp [intOf]; omega

set_option maxRecDepth 100000 in
set_option maxHeartbeats 4000000 in
theorem rheads_any (d : D6) (p : W6) (w : World) (hR : Rd6 w.heap.size w d p) (hsm : hsz d.hs ≤ 16384) :
  Calls Try.prog 73 #[.agg (d.cells p)] w fun e w' => Num1 d.ahead e ∧ Below w.heap.size w w' := by
 obtain ⟨hA, hc, ps, bA, bc⟩ := p
 have hB : Below w.heap.size w (w.alloc (.cells (d.cells ⟨hA, hc, ps, bA, bc⟩) 28)) := (Below.refl _ _).alloc (Nat.le_refl _) _
 have hH : Has (w.alloc (.cells (d.cells ⟨hA, hc, ps, bA, bc⟩) 28)) w.heap.size (.cells (d.cells ⟨hA, hc, ps, bA, bc⟩) 28 (0, 0)) := Has.newAt rfl
 obtain ⟨W1, hW1⟩ : ∃ W, w.alloc (.cells (d.cells ⟨hA, hc, ps, bA, bc⟩) 28) = W := ⟨_, rfl⟩
 obtain ⟨M, hM⟩ : ∃ M, d.hs.length = M := ⟨_, rfl⟩
 have K := hR.hd.below hB (Nat.le_refl _)
 have hkl : kdL ps = d.hs := hR.hl
 dsimp only at K
 rw [hW1] at hB hH K
 have c35 := hH.cell 35 (v := .slice hA d.hs.length hc) rfl
 rw [hM] at K c35
 have hMc := Nat.le_trans K.cap K.big
 have hMnH := Lib.hid K.len
 have hMH := Lib.hid hM
 have hsmH := Lib.hid hsm
 have hAh : Hid (d.ahead = 40 + hsz d.hs + (if d.frag then 8 else 0)) := Lib.hid rfl
 obtain ⟨X, hX⟩ : ∃ X, d.ahead = X := ⟨_, rfl⟩
 rw [hX] at hAh ⊢
 clear hM hR hsm hX
 go_enter Try.func73, Try.ntmps73
 go_wp2
 go_loopw [3, 4] (fun n i wr => ∃ k T : Nat, k ≤ M ∧ i = .int .i64 k ∧ Hid (hsz (d.hs.take k) = T) ∧ T ≤ 16384 ∧ n = .int .i64 ((40 + T : Nat) : Int) ∧ Below W1.heap.size W1 wr) (fun _ i _ => M - (intOf i).toNat)
 case atStart => exact ⟨0, 0, Nat.zero_le _, rfl, Lib.hid (by rw [List.take_zero]; rfl), Nat.zero_le _, rfl, Below.refl _ _⟩
 case round =>
  obtain ⟨k, T, hk, rfl, hT, hT2, rfl, hBr⟩ := hrel
  rename_i wr _
  have hBw := hB.trans (hBr.mono hB.size)
  have hH1 := hH.below hBr hH.lt
  have c35 := hH1.cell 35 (v := .slice hA d.hs.length hc) rfl
  rw [hMH.out] at c35
  by_cases hkM : k < M
  case neg =>
   have hge : ¬ ((k : Int) < (M : Int)) := by omega
   have c36 := hH1.cell 36 (v := .bool d.frag) rfl
   have hTa : Hid (hsz d.hs = T) := Lib.hid (by rw [← hT.out, List.take_of_length_le (by rw [hMH.out]; omega)])
   have hq : Hid ((X : Int) = 40 + T + (if d.frag then 8 else 0)) := Lib.hid (by rw [hAh.out, hTa.out]; split <;> omega)
   clear K hH hkM hkl hAh hTa hT
   cases hf : d.frag with
   | true =>
    rw [hf] at c36
    have hq2 : Hid ((X : Int) = 40 + T + 8) := Lib.hid (by rw [hq.out, hf]; rfl)
    clear hq hf
    go_wp2
    go_ret
    exact ⟨Num1.mk hq2.out.symm, hBw⟩
   | false =>
    rw [hf] at c36
    have hq2 : Hid ((X : Int) = 40 + T) := Lib.hid (by rw [hq.out, hf]; simp)
    clear hq hf
    go_wp2
    go_ret
    exact ⟨Num1.mk hq2.out.symm, hBw⟩
  case pos =>
  have hkz : (k : Int) < (M : Int) := by omega
  obtain ⟨⟨pk, pA, pc, pl⟩, hp⟩ : ∃ p', ps[k]? = some p' := ⟨ps[k]'(by rw [hMnH.out]; exact hkM), List.getElem?_eq_getElem _⟩
  have htk := hsz_take (kd_get hkl hp)
  obtain ⟨b1, o1, hA1, hb1, hr1, hr2, yP, e0, e1, hld⟩ := K.loadHead hp
  have hld := hld wr (hBr.mono hB.size)
  subst hA1
  dsimp only at hld htk e1
  obtain ⟨m, hm⟩ : ∃ m, pl.length = m := ⟨_, rfl⟩
  rw [hm] at hld htk e1
  obtain ⟨T2, hT3⟩ : ∃ T2, hsz (d.hs.take (k + 1)) = T2 := ⟨_, rfl⟩
  rw [hT3, hT.out] at htk
  have hle : T2 ≤ 16384 := by rw [← hT3]; exact Nat.le_trans (hsz_take_le _ _) hsmH.out
  have htkH := Lib.hid htk
  have hmb : m ≤ 16384 := by omega
  have hT3H := Lib.hid hT3
  have e1 := (hBr.cell (p := ⟨b1, o1 + k * 2 + 1, none⟩) (Nat.lt_of_lt_of_le hb1 hB.size)).trans e1
  clear hp K hm yP e0 hkl hr1 hr2 hT htk hT3
  go_wp2_with (first | (refine wl (.pointer (some ⟨b1, o1 + k * 2, none⟩)) (by kernel_rfl) (by exact ex_index2 (by exact rfl) Try.underlying25 (by kernel_rfl) (by exact rfl) (by exact rfl) hkM) ?_) | (refine wl (.pointer (some ⟨b1, o1 + k * 2 + 1, none⟩)) (by kernel_rfl) (by exact ex_field1 (by exact rfl) Try.underlying108 (by exact rfl) rfl (by kernel_rfl) (by exact rfl)) ?_))
  go_roundw
  case rel => exact ⟨k + 1, T2, by omega, by go_num, hT3H, hle, int_nat (by rw [htkH.out]; omega), hBr⟩
  case measure => simp [intOf]; omega
end Go.Proofs.Ytjnphelfloiadaa
namespace Go.Proofs.Ytjnphelfloiadaa
open Go.RowKit

section
variable {P : Program}
theorem ex_arr {ρ : Operand → Value} {o : Oper} {t e : TypeId} {x : Operand} {g k n : Nat} {w : World} (ho : o.op = .slice t x none none none) (ht : P.underlying t = some (.array n e)) (hs : (P.info? e).map (·.size) = some 1) (hx : ρ x = .pointer (some ⟨g, k, none⟩)) :
  (execOp ρ o).run P w = .ok (.value (.slice (some ⟨g, k, none⟩) n n)) w := by
 have he : P.elem t = e := by simp [Program.elem, ht]
 have hn : P.arrayLen t = n := by simp [Program.arrayLen, ht]
 have hsz : (sizeOf e).run P w = .ok 1 w := by
  cases hq : P.info? e with
  | none => simp [hq] at hs
  | some i => simp [hq] at hs; simp [sizeOf, typeInfo, hq, hs]
 refine ex_slice ho hx ?_
 have := run_sliceAt_array_all (P := P) w t ⟨g, k, none⟩ (by rw [hn, he]; exact ht)
 simp only [Option.map_none]
 rw [this, he, hsz, hn]
 simp [slicedAt, Result.andThen, Addr.add]
theorem ex_neq_int {ρ : Operand → Value} {o : Oper} {t z : TypeId} {k : IntKind} {x y : Operand} {m n : Int} {w : World} (ho : o.op = .binOp .neq t x y z) (hx : ρ x = .int k m) (hy : ρ y = .int k n) : (execOp ρ o).run P w = .ok (.value (.bool (m != n))) w := by
 unfold execOp
 simp [ho, hx, hy, eqGuard, binOp, Op.intCmp]
theorem neq_int_eq {ρ : Operand → Value} {o : Oper} {t z : TypeId} {k : IntKind} {x y : Operand} {m n : Int} {w : World} (ho : o.op = .binOp .neq t x y z) (hx : ρ x = .int k m) (hy : ρ y = .int k n) (h : m = n) : (execOp ρ o).run P w = .ok (.value (.bool false)) w := by
 rw [ex_neq_int ho hx hy]; simp [h]
theorem neq_int_ne {ρ : Operand → Value} {o : Oper} {t z : TypeId} {k : IntKind} {x y : Operand} {m n : Int} {w : World} (ho : o.op = .binOp .neq t x y z) (hx : ρ x = .int k m) (hy : ρ y = .int k n) (h : m ≠ n) : (execOp ρ o).run P w = .ok (.value (.bool true)) w := by
 rw [ex_neq_int ho hx hy]; simp [h]
theorem add_i64 (t : TypeId) (x y : Int) (h : -9223372036854775808 ≤ x + y ∧ x + y < 9223372036854775808) (w : World) : (binOp .add t (.int .i64 x) (.int .i64 y)).run P w = .ok (.int .i64 (x + y)) w := by
 have h1 := h.1
 have h2 := h.2
 clear h
 go_simp
 exact IntWalk.i64_in _ (by omega)
end
end Go.Proofs.Ytjnphelfloiadaa
namespace Go.Proofs.Ytjnphelfloiadaa
open Go.RowKit

section
variable {P : Program}
variable {md : Region.Mode} {ops : Array Oper} {Q : Exit → Act → World → Prop} {S : World → Prop}
/-- of two that are ready, whichever comes up -/
theorem tk_two {i j : Nat} {fuel : Nat} {listed : Array Bool} {a : Act} {w : World} (hr : Region.ready md ops listed = [i, j])
  (h1 : wpOp P ops Q i (fun a' w' => S w' ∧ wpAnyH P md ops Q S fuel (listed.setIfInBounds i true) a' w') a w)
  (h2 : wpOp P ops Q j (fun a' w' => S w' ∧ wpAnyH P md ops Q S fuel (listed.setIfInBounds j true) a' w') a w) : wpAnyH P md ops Q S (fuel + 1) listed a w :=
 wpAnyH_all hr (by simp) fun k hk => by
  rcases List.mem_cons.1 hk with rfl | hk
  ·exact h1
  ·obtain rfl : k = j := by simpa using hk
   exact h2
theorem tk_one {i : Nat} {fuel : Nat} {listed : Array Bool} {a : Act} {w : World} (hr : Region.ready md ops listed = [i])
  (h1 : wpOp P ops Q i (fun a' w' => S w' ∧ wpAnyH P md ops Q S fuel (listed.setIfInBounds i true) a' w') a w) : wpAnyH P md ops Q S (fuel + 1) listed a w :=
 wpAnyH_all hr (by simp) fun k hk => by
  obtain rfl : k = i := by simpa using hk
  exact h1
/-- a call of a Go function -/
theorem op_callx {i k : Nat} {o : Oper} {args : Array Value} (T : Value → World → Prop) {fuel : Nat} {listed : Array Bool} {a : Act} {w : World} (hi : ops.toList[i]? = some o) (hw : Region.wanted o (yielded ops a.tmps) = true)
  (hrun : (execOp a.eval o).run P w = .ok (.enter k args) w) (hc : Calls P k args w fun e w' => ∃ v, e = .returned v ∧ T v w' ∧ S w')
  (h : ∀ v w', T v w' → S w' → wpAnyH P md ops Q S fuel (listed.setIfInBounds i true) (a.put o.dst v) w') : wpOp P ops Q i (fun a' w' => S w' ∧ wpAnyH P md ops Q S fuel (listed.setIfInBounds i true) a' w') a w := by
 have hi : ops[i]? = some o := by simpa using hi
 unfold wpOp
 rw [hi]
 simp only [hw, if_true]
 left
 unfold Oper.wp
 rw [hrun, Oper.upon_enter]
 refine hc.mono fun e w' ⟨v, he, hT, hS'⟩ => ?_
 subst he
 exact ⟨hS', h v w' hT hS'⟩
/-- a slice literal -/
theorem op_build {i : Nat} {o : Oper} {t e : TypeId} {len : Nat} {parts : Array (Nat × Operand)} {fuel : Nat} {listed : Array Bool} {a : Act} {w : World} (vs : List Value) (hi : ops.toList[i]? = some o) (hw : Region.wanted o (yielded ops a.tmps) = true)
  (ho : o.op = .buildSlice t len parts) (hu : P.underlying t = some (.slice e)) (hsz : (P.info? e).map (·.size) = some 1) (hz : ((P.info? e).bind (·.zero)).isSome = true) (hlen : len = vs.length) (hpos : 0 < len) (hsmall : len ≤ 2 ^ 24)
  (hp : (parts.map fun (i, x) => (i, a.eval x)).toList = (vs.zipIdx 0).map fun x => (x.2, x.1)) (h1 : ∀ v ∈ vs, v.cells = #[v])
  (hS : ∀ w', Below w.heap.size w w' → S w') (h : ∀ g w', Has w' g (.cells vs.toArray e (0, 0)) → w.heap.size ≤ g → w'.heap.size = g + 1 → Below w.heap.size w w' → S w' → wpAnyH P md ops Q S fuel (listed.setIfInBounds i true) (a.put o.dst (.slice (some ⟨g, 0, none⟩) len len)) w') : wpOp P ops Q i (fun a' w' => S w' ∧ wpAnyH P md ops Q S fuel (listed.setIfInBounds i true) a' w') a w := by
 have hi : ops[i]? = some o := by simpa using hi
 unfold wpOp
 rw [hi]
 simp only [hw, if_true]
 left
 cases hie : P.info? e with
 | none => simp [hie] at hsz
 | some ie =>
  simp only [hie, Option.map_some, Option.some.injEq, Option.bind_some] at hsz hz
  obtain ⟨z, hzz⟩ := Option.isSome_iff_exists.1 hz
  have hb : Below w.heap.size w (w.alloc (.cells vs.toArray e)) := (Below.refl _ _).alloc (Nat.le_refl _) _
  refine wp_buildSlice t e len parts ho _ ie z hu hie hzz (by rw [hsz]; omega) (by rw [hsz]; omega) ?_ ⟨hS _ hb, h _ _ (Has.newAt rfl) (Nat.le_refl _) (by simp) hb (hS _ hb)⟩
  rw [hp, hsz]
  exact Great.fill_flat _ _ h1 (by simp [hlen])
/-- an append of bytes onto an own row -/
theorem op_app {i : Nat} {o : Oper} {fuel : Nat} {listed : Array Bool} {a : Act} {w : World} (s x : Operand) (t : TypeId) (hi : ops.toList[i]? = some o) (hw : Region.wanted o (yielded ops a.tmps) = true)
  (ho : o.op = .call { callee := .builtin .append, args := #[s, x], argTypes := #[t, t] })
  (ht : P.underlying t = some (.slice 5)) (hinfo : (P.info? 5).map (fun i => (i.zero, i.size, i.bytes)) = some (some (.int .u8 0), 1, 1))
  (base : Nat) (v : Value) (l : List Int) (hs : a.eval s = v) (hown : OwnB w base v l)
  (B : Nat) (A : Option Addr) (m c : Nat) (l' : List Int) (hx : a.eval x = .slice A m c) (hy : By B w A m c l')
  (hbytes : l.length + m ≤ 140737488355328) (hbase : base ≤ w.heap.size)
  (hS : ∀ w', Below base w w' → S w')
  (h : ∀ v' w', OwnB w' base v' (l ++ l') → Below base w w' → S w' → wpAnyH P md ops Q S fuel (listed.setIfInBounds i true) (a.put o.dst v') w') : wpOp P ops Q i (fun a' w' => S w' ∧ wpAnyH P md ops Q S fuel (listed.setIfInBounds i true) a' w') a w := by
 have hi : ops[i]? = some o := by simpa using hi
 unfold wpOp
 rw [hi]
 simp only [hw, if_true]
 left
 exact wp_append_row w s x t ho base _ _ 1 ht hinfo rfl v l.length (u8s l) hs hown.own B A m c (u8s l') hx hy.row (fun u hu => by
   obtain ⟨y, _, rfl⟩ := List.mem_map.1 hu; rfl) (by simp only [maxLen]; omega) (by omega) hbase
   fun v' w' h2 h3 _ => by
    have ho' : OwnB w' base v' (l ++ l') := ⟨by rw [List.length_append, hy.len, u8s_append]; exact h2, hown.rng.app hy.rng⟩
    have hb := below_app hown h3 hbase
    exact ⟨hS w' hb, h v' w' ho' hb (hS w' hb)⟩
theorem conv_u64 (src dst : TypeId) (k : IntKind) (n : Int) (hs : (P.underlying src).isSome = true) (hd : P.underlying dst = some (.int .u64)) (h0 : 0 ≤ n) (h1 : n ≤ 18446744073709551615) (w : World) : (convert src dst (.int k n)).run P w = .ok (.int .u64 n) w := by
 have hk : P.intKind dst = .u64 := by simp [Program.intKind, hd]
 have := run_convert_int (P := P) w src dst k n hs (by rw [hk]; exact hd)
 rw [hk, IntWalk.u64_in n ⟨h0, h1⟩] at this
 exact this
theorem conv_u8 (src dst : TypeId) (k : IntKind) (n : Int) (hs : (P.underlying src).isSome = true) (hd : P.underlying dst = some (.int .u8)) (w : World) : (convert src dst (.int k n)).run P w = .ok (.int .u8 (n % 256)) w := by
 have hk : P.intKind dst = .u8 := by simp [Program.intKind, hd]
 have := run_convert_int (P := P) w src dst k n hs (by rw [hk]; exact hd)
 rw [hk, IntKind.wrap_u8] at this
 exact this
end
end Go.Proofs.Ytjnphelfloiadaa
namespace Go.Proofs.Ytjnphelfloiadaa
open Go.RowKit

section
variable {P : Program}
variable {md : Region.Mode} {ops : Array Oper} {Q : Exit → Act → World → Prop} {S : World → Prop}
theorem run_build0 (w : World) (t e : TypeId) (hu : P.underlying t = some (.slice e)) (hs : (P.info? e).map (·.size) = some 1) : (Instr.buildSlice t 0 #[]).run P w = .ok (.slice (some ⟨w.heap.size, 0, none⟩) 0 0) (w.alloc (.cells #[] e)) := by
 cases hq : P.info? e with
 | none => simp [hq] at hs
 | some ie => simp [Instr.buildSlice, run_underlying hu, sizeOf, typeInfo, hq, Instr.fill, newRow]; congr 2; exact Array.eq_empty_of_size_eq_zero (by simp)
theorem op_build0 {i : Nat} {o : Oper} {t : TypeId} {fuel : Nat} {listed : Array Bool} {a : Act} {w : World} (hi : ops.toList[i]? = some o) (hw : Region.wanted o (yielded ops a.tmps) = true)
  (ho : o.op = .buildSlice t 0 #[]) (hu : P.underlying t = some (.slice 5)) (hs : (P.info? 5).map (·.size) = some 1)
  (hS : ∀ w', Below w.heap.size w w' → S w') (h : ∀ g w', OwnB w' w.heap.size (.slice (some ⟨g, 0, none⟩) 0 0) [] → Below w.heap.size w w' → S w' → wpAnyH P md ops Q S fuel (listed.setIfInBounds i true) (a.put o.dst (.slice (some ⟨g, 0, none⟩) 0 0)) w') : wpOp P ops Q i (fun a' w' => S w' ∧ wpAnyH P md ops Q S fuel (listed.setIfInBounds i true) a' w') a w := by
 have hi : ops[i]? = some o := by simpa using hi
 unfold wpOp
 rw [hi]
 simp only [hw, if_true]
 left
 have hb : Below w.heap.size w (w.alloc (.cells #[] 5)) := (Below.refl _ _).alloc (Nat.le_refl _) _
 unfold Oper.wp execOp
 simp only [ho, Sem.run_bind, List.map_toArray, List.map_nil, run_build0 w t _ hu hs, Result.andThen_ok]
 exact ⟨hS _ hb, h _ _ (OwnB.made w w.heap.size (Nat.le_refl _)) hb (hS _ hb)⟩
theorem conv_u16 (src dst : TypeId) (k : IntKind) (n : Int) (hs : (P.underlying src).isSome = true) (hd : P.underlying dst = some (.int .u16)) (h0 : 0 ≤ n) (h1 : n < 65536) (w : World) : (convert src dst (.int k n)).run P w = .ok (.int .u16 n) w := by
 have hk : P.intKind dst = .u16 := by simp [Program.intKind, hd]
 have := run_convert_int (P := P) w src dst k n hs (by rw [hk]; exact hd)
 rw [hk, IntWalk.u16_in n ⟨h0, by omega⟩] at this
 exact this
theorem conv_u32 (src dst : TypeId) (k : IntKind) (n : Int) (hs : (P.underlying src).isSome = true) (hd : P.underlying dst = some (.int .u32)) (h0 : 0 ≤ n) (h1 : n < 4294967296) (w : World) : (convert src dst (.int k n)).run P w = .ok (.int .u32 n) w := by
 have hk : P.intKind dst = .u32 := by simp [Program.intKind, hd]
 have := run_convert_int (P := P) w src dst k n hs (by rw [hk]; exact hd)
 rw [hk, IntWalk.u32_in n ⟨h0, by omega⟩] at this
 exact this
end
end Go.Proofs.Ytjnphelfloiadaa
namespace Go.Proofs.Ytjnphelfloiadaa
open Go.RowKit

section
variable {P : Program}
variable {md : Region.Mode} {ops : Array Oper} {Q : Exit → Act → World → Prop} {S : World → Prop}
theorem op_alloc {i : Nat} {o : Oper} {ty : TypeId} (cs : Array Value) {fuel : Nat} {listed : Array Bool} {a : Act} {w : World} (hi : ops.toList[i]? = some o) (hw : Region.wanted o (yielded ops a.tmps) = true)
  (ho : o.op = .alloc ty) (hz : (P.info? ty).bind (·.zero) = some (.agg cs))
  (hS : ∀ w', Below w.heap.size w w' → S w') (h : ∀ g w', Has w' g (.cells cs ty (0, 0)) → w.heap.size ≤ g → w'.heap.size = g + 1 → Below w.heap.size w w' → S w' → wpAnyH P md ops Q S fuel (listed.setIfInBounds i true) (a.put o.dst (.pointer (some ⟨g, 0, none⟩))) w') : wpOp P ops Q i (fun a' w' => S w' ∧ wpAnyH P md ops Q S fuel (listed.setIfInBounds i true) a' w') a w := by
 have hi : ops[i]? = some o := by simpa using hi
 unfold wpOp
 rw [hi]
 simp only [hw, if_true]
 left
 have hb : Below w.heap.size w (w.alloc (.cells cs ty)) := (Below.refl _ _).alloc (Nat.le_refl _) _
 have hr : (execOp a.eval o).run P w = .ok (.value (.pointer (some ⟨w.heap.size, 0, none⟩))) (w.alloc (.cells cs ty)) := by
  cases hq : P.info? ty with
  | none => simp [hq] at hz
  | some ie =>
   simp only [hq, Option.bind_some] at hz
   unfold execOp
   simp [ho, Instr.alloc, zeroValue, typeInfo, hq, hz, newVar, newRow, Value.cells]
 unfold Oper.wp
 rw [hr]
 exact ⟨hS _ hb, h _ _ (Has.newAt rfl) (Nat.le_refl _) (by simp) hb (hS _ hb)⟩
/-- a slice of a slice, in the text's order; the operation is looked at first -/
theorem wl_slice {rest : List Oper} {o : Oper} {a : Act} {w : World} {v : Value} (t : TypeId) (x : Operand) (lo hi mx : Option Operand) (ho : o.op = .slice t x lo hi mx) (hw : Region.wanted o (yielded ops a.tmps) = true)
  (u : Value) (hx : a.eval x = u) (l h m : Option Value) (hl : lo.map a.eval = l) (hh : hi.map a.eval = h) (hm : mx.map a.eval = m) (hr : (Instr.sliceAt t u l h m).run P w = .ok v w)
  (hk : wpList P ops Q rest (a.put o.dst v) w) : wpList P ops Q (o :: rest) a w := by
 subst hx hl hh hm
 exact wl v hw (ex_slice ho rfl hr) hk
end

section
variable {P : Program} {ops : Array Oper} {Q : Exit → Act → World → Prop}
theorem pl_build0 {rest : List Oper} {o : Oper} {a : Act} {w : World} {t : TypeId} (hg : o.guard = none) (ho : o.op = .buildSlice t 0 #[]) (hu : P.underlying t = some (.slice 5)) (hs : (P.info? 5).map (·.size) = some 1)
  (h : ∀ g w', OwnB w' w.heap.size (.slice (some ⟨g, 0, none⟩) 0 0) [] → Below w.heap.size w w' → wpList P ops Q rest (a.put o.dst (.slice (some ⟨g, 0, none⟩) 0 0)) w') : wpList P ops Q (o :: rest) a w :=
 wpList_plain hg fun K hK => by
  unfold Oper.wp execOp
  simp only [ho, Sem.run_bind, List.map_toArray, List.map_nil, run_build0 w t _ hu hs, Result.andThen_ok]
  exact hK _ _ (h _ _ (OwnB.made w w.heap.size (Nat.le_refl _)) ((Below.refl _ _).alloc (Nat.le_refl _) _))
theorem pl_app {rest : List Oper} {o : Oper} {a : Act} {w : World} (s x : Operand) (t : TypeId) (hg : o.guard = none)
  (ho : o.op = .call { callee := .builtin .append, args := #[s, x], argTypes := #[t, t] })
  (ht : P.underlying t = some (.slice 5)) (hinfo : (P.info? 5).map (fun i => (i.zero, i.size, i.bytes)) = some (some (.int .u8 0), 1, 1))
  (base : Nat) (v : Value) (l : List Int) (hs : a.eval s = v) (hown : OwnB w base v l)
  (B : Nat) (A : Option Addr) (m c : Nat) (l' : List Int) (hx : a.eval x = .slice A m c) (hy : By B w A m c l')
  (hbytes : l.length + m ≤ 140737488355328) (hbase : base ≤ w.heap.size)
  (h : ∀ v' w', OwnB w' base v' (l ++ l') → Below base w w' → wpList P ops Q rest (a.put o.dst v') w') : wpList P ops Q (o :: rest) a w :=
 wpList_appB w hg s x t ho ht hinfo base v l hs hown B A m c l' hx hy hbytes hbase fun v' w' h1 h2 _ => h v' w' h1 (below_app hown h2 hbase)
end

section
variable {P : Program} {md : Region.Mode} {ops : Array Oper} {Q : Exit → Act → World → Prop} {S : World → Prop}
theorem op_val {i : Nat} {o : Oper} (v : Value) {fuel : Nat} {listed : Array Bool} {a : Act} {w : World} (hi : ops.toList[i]? = some o) (hw : Region.wanted o (yielded ops a.tmps) = true)
  (hv : (execOp a.eval o).run P w = .ok (.value v) w) (hS : S w) (h : wpAnyH P md ops Q S fuel (listed.setIfInBounds i true) (a.put o.dst v) w) : wpOp P ops Q i (fun a' w' => S w' ∧ wpAnyH P md ops Q S fuel (listed.setIfInBounds i true) a' w') a w := by
 have hi : ops[i]? = some o := by simpa using hi
 unfold wpOp
 rw [hi]
 simp only [hw, if_true]
 left
 unfold Oper.wp
 rw [hv]
 exact ⟨hS, h⟩
theorem ex_max {ρ : Operand → Value} {o : Oper} {ts : Array TypeId} {x y : Operand} {k k' : IntKind} {m n r : Int} {w : World} (ho : o.op = .call { callee := .builtin .max, args := #[x, y], argTypes := ts }) (hx : ρ x = .int k m) (hy : ρ y = .int k' n) (h : (if n > m then n else m) = r) : (execOp ρ o).run P w = .ok (.value (.int k r)) w := by
 subst h
 unfold execOp
 simp [ho, resolve, invoke, builtin, hx, hy, run_max_int2]
theorem add1_i64 (t : TypeId) (k : Nat) (h : k < 9223372036854775807) (w : World) : (binOp .add t (.int .i64 (k : Int)) (.int .i64 1)).run P w = .ok (.int .i64 ((k + 1 : Nat) : Int)) w := by
 rw [add_i64 t (k : Int) 1 (by omega) w, Int.natCast_add]
 rfl
theorem shr8_i64 (t : TypeId) (m : Int) (w : World) : (binOp .shr t (.int .i64 m) (.int .u64 8)).run P w = .ok (.int .i64 (m / 256)) w := by
 have h := shift_shr_i64 (x := m) (y := 8) (yk := .u64) (by decide) (by decide)
 rw [binOp_shr, h]
 rfl
theorem conv_u8' (src dst : TypeId) (k : IntKind) (n : Int) (hs : (P.underlying src).isSome = true) (hd : P.underlying dst = some (.int .u8)) (h : 0 ≤ n ∧ n < 256) (w : World) : (convert src dst (.int k n)).run P w = .ok (.int .u8 n) w := by
 rw [conv_u8 src dst k n hs hd, show n % 256 = n from by omega]
end

section
variable {P : Program} {md : Region.Mode} {ops : Array Oper} {Q : Exit → Act → World → Prop} {S : World → Prop}
end
end Go.Proofs.Ytjnphelfloiadaa
namespace Go.Proofs.Ytjnphelfloiadaa
open Go.RowKit

section
variable {P : Program}
theorem conv_i64 (src dst : TypeId) (k : IntKind) (n : Int) (hs : (P.underlying src).isSome = true) (hd : P.underlying dst = some (.int .i64)) (h : -9223372036854775808 ≤ n ∧ n < 9223372036854775808) (w : World) : (convert src dst (.int k n)).run P w = .ok (.int .i64 n) w := by
 have hk : P.intKind dst = .i64 := by simp [Program.intKind, hd]
 have := run_convert_int (P := P) w src dst k n hs (by rw [hk]; exact hd)
 rw [hk, IntWalk.i64_in n (by omega)] at this
 exact this
theorem b_shl8_u16 (t : TypeId) (x : Int) (h : 0 ≤ x ∧ x ≤ 255) (w : World) : (binOp .shl t (.int .u16 x) (.int .u64 8)).run P w = .ok (.int .u16 (x * 256)) w := by
 have h1 := h.1
 have h2 := h.2
 clear h
 go_simp
 exact IntWalk.u16_in _ ⟨by omega, by omega⟩
theorem b_or_u16 (t : TypeId) (x y z : Int) (h : bits .or .u16 x y = z) (w : World) : (binOp .or t (.int .u16 x) (.int .u16 y)).run P w = .ok (.int .u16 z) w := by subst h; rfl
theorem b_and_u8 (t : TypeId) (x y z : Int) (h : bits .and .u8 x y = z) (w : World) : (binOp .and t (.int .u8 x) (.int .u8 y)).run P w = .ok (.int .u8 z) w := by subst h; rfl
theorem By.mid {B : Nat} {w : World} {A : Option Addr} {n c : Nat} {l : List Int} (h : By B w A n c l) (t : TypeId) (ht : P.underlying t = some (.slice 5)) (hs : (P.info? 5).map (·.size) = some 1) {k m : Nat} (hk : k ≤ m) (hm : m ≤ n) :
  ∃ A' c', (∀ w', (Instr.sliceAt t (.slice A n c) (some (.int .i64 (k : Int))) (some (.int .i64 (m : Int))) none).run P w' = .ok (.slice A' (m - k) c') w') ∧ By B w A' (m - k) c' ((l.take m).drop k) := by
 refine ⟨_, _, fun w' => ?_, (h.take hm).cut hk⟩
 have hcap := h.cap
 have he : P.elem t = 5 := by simp [Program.elem, ht]
 have hsz : (sizeOf 5).run P w' = .ok 1 w' := by
  cases hq : P.info? 5 with
  | none => simp [hq] at hs
  | some i => simp [hq] at hs; simp [sizeOf, typeInfo, hq, hs]
 rw [run_sliceAt_slice w' t _ _ _ _ (by rw [he]; exact ht), run_slice_lh w' t _ _ _ (by rw [he]; exact ht) .i64 .i64 (k : Int) (m : Int) (by omega) (by omega) (by omega), he, hsz]
 simp [sliced, Result.andThen]
end
section
variable {P : Program} {md : Region.Mode} {ops : Array Oper} {Q : Exit → Act → World → Prop} {S : World → Prop}
theorem wpAnyH_rest6 {fuel : Nat} {listed : Array Bool} {a : Act} {w : World} {R : Option Addr → Nat → Option Addr → Nat → Nat → Nat → World → Prop} (F : Option Addr → Nat → Option Addr → Nat → Nat → Nat → Act)
  (h1 : (∀ A k B m g g' W, R A k B m g g' W → Q .normal (F A k B m g g') W) → wpAnyH P md ops Q S fuel listed a w) (h2 : ∀ A k B m g g' W, R A k B m g g' W → Q .normal (F A k B m g g') W) : wpAnyH P md ops Q S fuel listed a w := h1 h2
end
end Go.Proofs.Ytjnphelfloiadaa
namespace Go.Proofs.Ytjnphelfloiadaa
open Go.RowKit

section
variable {P : Program}
theorem b_sub (t : TypeId) {x y : Int} (z : Int) (h : x - y = z) (h0 : -9223372036854775808 ≤ z ∧ z < 9223372036854775808) (w : World) : (binOp .sub t (.int .i64 x) (.int .i64 y)).run P w = .ok (.int .i64 z) w := by
 subst h
 have h1 := h0.1
 have h2 := h0.2
 clear h0
 go_simp
 exact IntWalk.i64_in _ (by omega)
theorem b_add (t : TypeId) {x y : Int} (z : Int) (h : x + y = z) (h0 : -9223372036854775808 ≤ z ∧ z < 9223372036854775808) (w : World) : (binOp .add t (.int .i64 x) (.int .i64 y)).run P w = .ok (.int .i64 z) w := by
 subst h
 exact add_i64 t x y h0 w
theorem b_mul (t : TypeId) {x y : Int} (z : Int) (h : x * y = z) (h0 : -9223372036854775808 ≤ z ∧ z < 9223372036854775808) (w : World) : (binOp .mul t (.int .i64 x) (.int .i64 y)).run P w = .ok (.int .i64 z) w := by
 subst h
 have h1 := h0.1
 have h2 := h0.2
 clear h0
 go_simp
 exact IntWalk.i64_in _ (by omega)
theorem b_gtr (t : TypeId) {x y : Int} (q : Bool) (h : decide (y < x) = q) (w : World) : (binOp .gtr t (.int .i64 x) (.int .i64 y)).run P w = .ok (.bool q) w := by
 subst h
 rfl
theorem b_lss (t : TypeId) {x y : Int} (q : Bool) (h : decide (x < y) = q) (w : World) : (binOp .lss t (.int .i64 x) (.int .i64 y)).run P w = .ok (.bool q) w := by
 subst h
 rfl
theorem b_shr (k : IntKind) (t : TypeId) {x : Int} (n : Nat) (z : Int) (h : x / 2 ^ n = z) (hn : n ≤ k.bits) (w : World) : (binOp .shr t (.int k x) (.int .u64 (n : Int))).run P w = .ok (.int k z) w := by
 subst h
 have h := shift_shr k .u64 x (n : Int) (Int.natCast_nonneg n) (by exact_mod_cast hn)
 rw [binOp_shr, h]
 rfl
theorem b_or8 (t : TypeId) {x y : Int} (z : Int) (h : bits .or .u8 x y = z) (w : World) : (binOp .or t (.int .u8 x) (.int .u8 y)).run P w = .ok (.int .u8 z) w := by subst h; rfl
theorem b_shl4 (t : TypeId) {x : Int} (z : Int) (h : x * 16 % 256 = z) (w : World) : (binOp .shl t (.int .u8 x) (.int .u64 4)).run P w = .ok (.int .u8 z) w := by
 subst h
 have h := shift_shl .u8 .u64 x 4 (by decide) (by decide)
 rw [binOp_shl, h]
 show Result.ok (Value.int .u8 (IntKind.u8.wrap (x * 2 ^ (4 : Int).toNat))) w = _
 rw [IntKind.wrap_u8]
 rfl
theorem b_quo16 (t : TypeId) {x : Int} (h : 0 ≤ x ∧ x ≤ 255) (w : World) : (binOp .quo t (.int .u8 x) (.int .u8 16)).run P w = .ok (.int .u8 (x / 16)) w := by
 have h1 := h.1
 have h2 := h.2
 have e : x.tdiv 16 = x / 16 := Int.tdiv_eq_ediv_of_nonneg h1
 have hz : IntKind.u8.wrap (x / 16) = x / 16 := by rw [IntKind.wrap_u8]; omega
 clear h
 simp [go_sem, e, hz]
theorem b_rem16 (t : TypeId) {x : Int} (h : 0 ≤ x ∧ x ≤ 255) (w : World) : (binOp .rem t (.int .u8 x) (.int .u8 16)).run P w = .ok (.int .u8 (x % 16)) w := by
 have h1 := h.1
 have h2 := h.2
 have e : x.tmod 16 = x % 16 := Int.tmod_eq_emod_of_nonneg h1
 have hz : IntKind.u8.wrap (x % 16) = x % 16 := by rw [IntKind.wrap_u8]; omega
 clear h
 simp [go_sem, e, hz]
theorem b_mul8 (t : TypeId) {x y : Int} (z : Int) (h : x * y = z) (h0 : 0 ≤ z ∧ z ≤ 255) (w : World) : (binOp .mul t (.int .u8 x) (.int .u8 y)).run P w = .ok (.int .u8 z) w := by
 subst h
 have hz : IntKind.u8.wrap (x * y) = x * y := by rw [IntKind.wrap_u8]; omega
 simp [go_sem, hz]
theorem b_add8 (t : TypeId) {x y : Int} (z : Int) (h : x + y = z) (h0 : 0 ≤ z ∧ z ≤ 255) (w : World) : (binOp .add t (.int .u8 x) (.int .u8 y)).run P w = .ok (.int .u8 z) w := by
 subst h
 have hz : IntKind.u8.wrap (x + y) = x + y := by rw [IntKind.wrap_u8]; omega
 simp [go_sem, hz]
theorem b_add32 (t : TypeId) {x y : Int} (z : Int) (h : x + y = z) (h0 : 0 ≤ z ∧ z < 4294967296) (w : World) : (binOp .add t (.int .u32 x) (.int .u32 y)).run P w = .ok (.int .u32 z) w := by
 subst h
 have hz : IntKind.u32.wrap (x + y) = x + y := IntWalk.u32_in _ (by omega)
 simp [go_sem, hz]
theorem b_mul32 (t : TypeId) {x y : Int} (z : Int) (h : x * y = z) (h0 : 0 ≤ z ∧ z < 4294967296) (w : World) : (binOp .mul t (.int .u32 x) (.int .u32 y)).run P w = .ok (.int .u32 z) w := by
 subst h
 have hz : IntKind.u32.wrap (x * y) = x * y := IntWalk.u32_in _ (by omega)
 simp [go_sem, hz]
end
end Go.Proofs.Ytjnphelfloiadaa
