/-
  The walks of ipv6.ahead and of the reference's heads: how many bytes stand ahead of the body.
-/
import Derived.Test.YtndmmkadceobjaaV6D
namespace Go.Proofs.Ytndmmkadceobjaa
open Go.RowKit Go.Shelf

/-- a number that reads as said -/
def Num1 (x : Int) (e : Ending) : Prop := ∃ q : Int, e = .returned (.int .i64 q) ∧ Hid (q = x)
theorem Num1.mk {x q : Int} (h : q = x) : Num1 x (.returned (.int .i64 q)) := ⟨q, rfl, Lib.hid h⟩
theorem hsz_take {hs : List (Int × List Int)} {k : Nat} {q : Int × List Int} (hq : hs[k]? = some q) : hsz (hs.take (k + 1)) = hsz (hs.take k) + 2 + q.2.length := by
  obtain ⟨hk, rfl⟩ := List.getElem?_eq_some_iff.1 hq
  rw [List.take_succ_eq_append_getElem hk, hsz_append]
  simp only [hsz]
  omega
theorem hsz_take_le (hs : List (Int × List Int)) (k : Nat) : hsz (hs.take k) ≤ hsz hs := by
  have h := hsz_append (hs.take k) (hs.drop k)
  rw [List.take_append_drop] at h
  omega
theorem kd_get {ps : List Kd} {hs : List (Int × List Int)} {k : Nat} {q : Kd} (hl : kdL ps = hs) (hq : ps[k]? = some q) : hs[k]? = some (q.1, q.2.2.2) := by
  subst hl
  simp [kdL, hq]
theorem int_nat {q : Int} {n : Nat} (h : q = (n : Int)) : Value.int .i64 q = .int .i64 (n : Int) := by rw [h]

set_option maxRecDepth 100000 in
set_option maxHeartbeats 4000000 in
theorem ahead_any (d : D6) (p : W6) (w : World) (hR : Rd6 w.heap.size w d p) (hsm : hsz d.hs ≤ 16384) :
    Calls Try.prog 25 #[.agg (d.cells p)] w fun e w' => Num1 d.ahead e ∧ Below w.heap.size w w' := by
  obtain ⟨hA, hc, ps, bA, bc⟩ := p
  have hB : Below w.heap.size w (w.alloc (.cells (d.cells ⟨hA, hc, ps, bA, bc⟩) 28)) := (Below.refl _ _).alloc (Nat.le_refl _) _
  have hH : Has (w.alloc (.cells (d.cells ⟨hA, hc, ps, bA, bc⟩) 28)) w.heap.size (.cells (d.cells ⟨hA, hc, ps, bA, bc⟩) 28 (0, 0)) := Has.newAt rfl
  obtain ⟨W1, hW1⟩ : ∃ W, w.alloc (.cells (d.cells ⟨hA, hc, ps, bA, bc⟩) 28) = W := ⟨_, rfl⟩
  obtain ⟨M, hM⟩ : ∃ M, d.hs.length = M := ⟨_, rfl⟩
  have K := hR.hd.below hB (Nat.le_refl _)
  have hkl : kdL ps = d.hs := hR.hl
  dsimp only at K
  rw [hW1] at hB hH K
  have c35 := hH.cell 35 (v := .slice hA d.hs.length hc) rfl
  rw [hM] at K c35
  have hMc := Nat.le_trans K.cap K.big
  have hMnH := Lib.hid K.len
  have hMH := Lib.hid hM
  have hsmH := Lib.hid hsm
  have hAh : Hid (d.ahead = 40 + hsz d.hs + (if d.frag then 8 else 0)) := Lib.hid rfl
  obtain ⟨X, hX⟩ : ∃ X, d.ahead = X := ⟨_, rfl⟩
  rw [hX] at hAh ⊢
  clear hM hR hsm hX
  go_enter Try.func25, Try.ntmps25
  go_wp2
  go_loopw [3, 9] (fun n i wr => ∃ k T : Nat, k ≤ M ∧ i = .int .i64 k ∧ Hid (hsz (d.hs.take k) = T) ∧ T ≤ 16384 ∧ n = .int .i64 ((40 + T : Nat) : Int) ∧ Below W1.heap.size W1 wr) (fun _ i _ => M - (intOf i).toNat)
  case atStart => exact ⟨0, 0, Nat.zero_le _, rfl, Lib.hid (by rw [List.take_zero]; rfl), Nat.zero_le _, rfl, Below.refl _ _⟩
  case round =>
    obtain ⟨k, T, hk, rfl, hT, hT2, rfl, hBr⟩ := hrel
    rename_i wr _
    have hBw := hB.trans (hBr.mono hB.size)
    have hH1 := hH.below hBr hH.lt
    have c35 := hH1.cell 35 (v := .slice hA d.hs.length hc) rfl
    rw [hMH.out] at c35
    by_cases hkM : k < M
    case neg =>
      have hge : ¬ ((k : Int) < (M : Int)) := by omega
      have c36 := hH1.cell 36 (v := .bool d.frag) rfl
      have hTa : Hid (hsz d.hs = T) := Lib.hid (by rw [← hT.out, List.take_of_length_le (by rw [hMH.out]; omega)])
      have hq : Hid ((X : Int) = 40 + T + (if d.frag then 8 else 0)) := Lib.hid (by rw [hAh.out, hTa.out]; split <;> omega)
      clear K hH hkM hkl hAh hTa hT
      cases hf : d.frag with
      | true =>
        rw [hf] at c36
        have hq2 : Hid ((X : Int) = 40 + T + 8) := Lib.hid (by rw [hq.out, hf]; rfl)
        clear hq hf
        go_wp2
        go_ret
        exact ⟨Num1.mk hq2.out.symm, hBw⟩
      | false =>
        rw [hf] at c36
        have hq2 : Hid ((X : Int) = 40 + T) := Lib.hid (by rw [hq.out, hf]; simp)
        clear hq hf
        go_wp2
        go_ret
        exact ⟨Num1.mk hq2.out.symm, hBw⟩
    case pos =>
    have hkz : (k : Int) < (M : Int) := by omega
    obtain ⟨⟨pk, pA, pc, pl⟩, hp⟩ : ∃ p', ps[k]? = some p' := ⟨ps[k]'(by rw [hMnH.out]; exact hkM), List.getElem?_eq_getElem _⟩
    have htk := hsz_take (kd_get hkl hp)
    obtain ⟨b1, o1, hA1, hb1, hr1, hr2, yP, e0, e1, hld⟩ := K.loadHead hp
    have hld := hld wr (hBr.mono hB.size)
    subst hA1
    dsimp only at hld htk e1
    obtain ⟨m, hm⟩ : ∃ m, pl.length = m := ⟨_, rfl⟩
    rw [hm] at hld htk e1
    obtain ⟨T2, hT3⟩ : ∃ T2, hsz (d.hs.take (k + 1)) = T2 := ⟨_, rfl⟩
    rw [hT3, hT.out] at htk
    have hle : T2 ≤ 16384 := by rw [← hT3]; exact Nat.le_trans (hsz_take_le _ _) hsmH.out
    have htkH := Lib.hid htk
    have hmb : m ≤ 16384 := by omega
    have hT3H := Lib.hid hT3
    obtain ⟨W4, hW4, hH4, hX⟩ := head_var wr pk pA m pc
    have c1 := hH4.cell 1 (v := .slice pA m pc) rfl
    have hB4 := hBr.trans (hX.mono hBr.size)
    have hN : Has (wr.alloc (.cells #[.int .u8 0, .slice none 0 0] 54)) wr.heap.size (.cells #[.int .u8 0, .slice none 0 0] 54 (0, 0)) := Has.newAt rfl
    clear hp K hm yP e0 hkl hr1 hr2 hT htk hT3
    go_wp2_with (first | (refine wl (.pointer (some ⟨b1, o1 + k * 2, none⟩)) (by kernel_rfl) (by exact ex_index2 (by exact rfl) Try.underlying25 (by kernel_rfl) (by exact rfl) (by exact rfl) hkM) ?_) | (refine wl (.agg #[.int .u8 pk, .slice pA m pc]) (by kernel_rfl) (by exact ex_loadAt (by exact rfl) (by exact rfl) hld) ?_) | (refine wpList_store_row rfl 54 (.tmp 5) (.tmp 12) rfl wr.heap.size _ rfl rfl 54 _ hN head_info rfl (by simp [Value.oneCell']) ?_))
    go_roundw
    case rel => exact ⟨k + 1, T2, by omega, by go_num, hT3H, hle, int_nat (by rw [htkH.out]; omega), hB4⟩
    case measure => simp [intOf]; omega

set_option maxRecDepth 100000 in
set_option maxHeartbeats 4000000 in
theorem rheads_any (d : D6) (p : W6) (w : World) (hR : Rd6 w.heap.size w d p) (hsm : hsz d.hs ≤ 16384) :
    Calls Try.prog 23 #[.agg (d.cells p)] w fun e w' => Num1 d.ahead e ∧ Below w.heap.size w w' := by
  obtain ⟨hA, hc, ps, bA, bc⟩ := p
  have hB : Below w.heap.size w (w.alloc (.cells (d.cells ⟨hA, hc, ps, bA, bc⟩) 28)) := (Below.refl _ _).alloc (Nat.le_refl _) _
  have hH : Has (w.alloc (.cells (d.cells ⟨hA, hc, ps, bA, bc⟩) 28)) w.heap.size (.cells (d.cells ⟨hA, hc, ps, bA, bc⟩) 28 (0, 0)) := Has.newAt rfl
  obtain ⟨W1, hW1⟩ : ∃ W, w.alloc (.cells (d.cells ⟨hA, hc, ps, bA, bc⟩) 28) = W := ⟨_, rfl⟩
  obtain ⟨M, hM⟩ : ∃ M, d.hs.length = M := ⟨_, rfl⟩
  have K := hR.hd.below hB (Nat.le_refl _)
  have hkl : kdL ps = d.hs := hR.hl
  dsimp only at K
  rw [hW1] at hB hH K
  have c35 := hH.cell 35 (v := .slice hA d.hs.length hc) rfl
  rw [hM] at K c35
  have hMc := Nat.le_trans K.cap K.big
  have hMnH := Lib.hid K.len
  have hMH := Lib.hid hM
  have hsmH := Lib.hid hsm
  have hAh : Hid (d.ahead = 40 + hsz d.hs + (if d.frag then 8 else 0)) := Lib.hid rfl
  obtain ⟨X, hX⟩ : ∃ X, d.ahead = X := ⟨_, rfl⟩
  rw [hX] at hAh ⊢
  clear hM hR hsm hX
  go_enter Try.func23, Try.ntmps23
  go_wp2
  go_loopw [3, 4] (fun n i wr => ∃ k T : Nat, k ≤ M ∧ i = .int .i64 k ∧ Hid (hsz (d.hs.take k) = T) ∧ T ≤ 16384 ∧ n = .int .i64 ((40 + T : Nat) : Int) ∧ Below W1.heap.size W1 wr) (fun _ i _ => M - (intOf i).toNat)
  case atStart => exact ⟨0, 0, Nat.zero_le _, rfl, Lib.hid (by rw [List.take_zero]; rfl), Nat.zero_le _, rfl, Below.refl _ _⟩
  case round =>
    obtain ⟨k, T, hk, rfl, hT, hT2, rfl, hBr⟩ := hrel
    rename_i wr _
    have hBw := hB.trans (hBr.mono hB.size)
    have hH1 := hH.below hBr hH.lt
    have c35 := hH1.cell 35 (v := .slice hA d.hs.length hc) rfl
    rw [hMH.out] at c35
    by_cases hkM : k < M
    case neg =>
      have hge : ¬ ((k : Int) < (M : Int)) := by omega
      have c36 := hH1.cell 36 (v := .bool d.frag) rfl
      have hTa : Hid (hsz d.hs = T) := Lib.hid (by rw [← hT.out, List.take_of_length_le (by rw [hMH.out]; omega)])
      have hq : Hid ((X : Int) = 40 + T + (if d.frag then 8 else 0)) := Lib.hid (by rw [hAh.out, hTa.out]; split <;> omega)
      clear K hH hkM hkl hAh hTa hT
      cases hf : d.frag with
      | true =>
        rw [hf] at c36
        have hq2 : Hid ((X : Int) = 40 + T + 8) := Lib.hid (by rw [hq.out, hf]; rfl)
        clear hq hf
        go_wp2
        go_ret
        exact ⟨Num1.mk hq2.out.symm, hBw⟩
      | false =>
        rw [hf] at c36
        have hq2 : Hid ((X : Int) = 40 + T) := Lib.hid (by rw [hq.out, hf]; simp)
        clear hq hf
        go_wp2
        go_ret
        exact ⟨Num1.mk hq2.out.symm, hBw⟩
    case pos =>
    have hkz : (k : Int) < (M : Int) := by omega
    obtain ⟨⟨pk, pA, pc, pl⟩, hp⟩ : ∃ p', ps[k]? = some p' := ⟨ps[k]'(by rw [hMnH.out]; exact hkM), List.getElem?_eq_getElem _⟩
    have htk := hsz_take (kd_get hkl hp)
    obtain ⟨b1, o1, hA1, hb1, hr1, hr2, yP, e0, e1, hld⟩ := K.loadHead hp
    have hld := hld wr (hBr.mono hB.size)
    subst hA1
    dsimp only at hld htk e1
    obtain ⟨m, hm⟩ : ∃ m, pl.length = m := ⟨_, rfl⟩
    rw [hm] at hld htk e1
    obtain ⟨T2, hT3⟩ : ∃ T2, hsz (d.hs.take (k + 1)) = T2 := ⟨_, rfl⟩
    rw [hT3, hT.out] at htk
    have hle : T2 ≤ 16384 := by rw [← hT3]; exact Nat.le_trans (hsz_take_le _ _) hsmH.out
    have htkH := Lib.hid htk
    have hmb : m ≤ 16384 := by omega
    have hT3H := Lib.hid hT3
    have e1 := (hBr.cell (p := ⟨b1, o1 + k * 2 + 1, none⟩) (Nat.lt_of_lt_of_le hb1 hB.size)).trans e1
    clear hp K hm yP e0 hkl hr1 hr2 hT htk hT3
    go_wp2_with (first | (refine wl (.pointer (some ⟨b1, o1 + k * 2, none⟩)) (by kernel_rfl) (by exact ex_index2 (by exact rfl) Try.underlying25 (by kernel_rfl) (by exact rfl) (by exact rfl) hkM) ?_) | (refine wl (.pointer (some ⟨b1, o1 + k * 2 + 1, none⟩)) (by kernel_rfl) (by exact ex_field1 (by exact rfl) Try.underlying54 (by exact rfl) rfl (by kernel_rfl) (by exact rfl)) ?_))
    go_roundw
    case rel => exact ⟨k + 1, T2, by omega, by go_num, hT3H, hle, int_nat (by rw [htkH.out]; omega), hBr⟩
    case measure => simp [intOf]; omega
end Go.Proofs.Ytndmmkadceobjaa
