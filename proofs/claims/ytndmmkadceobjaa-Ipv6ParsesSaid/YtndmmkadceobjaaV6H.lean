/-
  The walks of ipv6.kinds and of the reference's next.
-/
import Derived.Test.YtndmmkadceobjaaV6G
namespace Go.Proofs.Ytndmmkadceobjaa
open Go.RowKit Go.Shelf

theorem infoB : (Try.prog.info? 5).map (fun i => (i.zero, i.size, i.bytes)) = some (some (.int .u8 0), 1, 1) := by kernel_rfl
/-- the kinds of the heads, and of what stands behind each -/
def D6.ks (d : D6) : List Int := d.hs.map (·.1) ++ (if d.frag then [44, d.pro] else [d.pro])
theorem D6.ks_len (d : D6) : d.ks.length = d.hs.length + (if d.frag then 2 else 1) := by unfold D6.ks; split <;> simp
theorem D6.ks_get (d : D6) {k : Nat} (hk : k ≤ d.hs.length) : d.ks.getD k 0 = nxt d.last (d.hs.drop k) := by
  unfold D6.ks
  rw [List.getD_eq_getElem?_getD]
  rcases Nat.lt_or_ge k d.hs.length with h | h
  · rw [List.getElem?_append_left (by simpa using h), List.drop_eq_getElem_cons h]
    simp [nxt, h]
  · obtain rfl : k = d.hs.length := by omega
    rw [List.getElem?_append_right (by simp), List.drop_length]
    cases hf : d.frag <;> simp [nxt, D6.last, hf]
theorem InB.one {x : Int} (h : 0 ≤ x ∧ x ≤ 255) : InB [x] := fun y hy => by rw [List.mem_singleton] at hy; subst hy; exact h
theorem map_take_succ {hs : List (Int × List Int)} {k : Nat} {q : Int × List Int} (h : hs[k]? = some q) : (hs.take (k + 1)).map (·.1) = (hs.take k).map (·.1) ++ [q.1] := by
  obtain ⟨hk, rfl⟩ := List.getElem?_eq_some_iff.1 h
  rw [List.take_succ_eq_append_getElem hk, List.map_append]
  rfl

set_option maxRecDepth 100000 in
set_option maxHeartbeats 4000000 in
theorem kinds_any (d : D6) (p : W6) (w : World) (hR : Rd6 w.heap.size w d p) (hM8 : d.hs.length ≤ 8) :
    Calls Try.prog 21 #[.agg (d.cells p)] w fun e w' => ∃ v, e = .returned v ∧ OwnB w' w.heap.size v d.ks ∧ Below w.heap.size w w' := by
  obtain ⟨hA, hc, ps, bA, bc⟩ := p
  have hB : Below w.heap.size w (w.alloc (.cells (d.cells ⟨hA, hc, ps, bA, bc⟩) 28)) := (Below.refl _ _).alloc (Nat.le_refl _) _
  have hH : Has (w.alloc (.cells (d.cells ⟨hA, hc, ps, bA, bc⟩) 28)) w.heap.size (.cells (d.cells ⟨hA, hc, ps, bA, bc⟩) 28 (0, 0)) := Has.newAt rfl
  obtain ⟨W1, hW1⟩ : ∃ W, w.alloc (.cells (d.cells ⟨hA, hc, ps, bA, bc⟩) 28) = W := ⟨_, rfl⟩
  obtain ⟨M, hM⟩ : ∃ M, d.hs.length = M := ⟨_, rfl⟩
  have K := hR.hd.below hB (Nat.le_refl _)
  have hkl : kdL ps = d.hs := hR.hl
  have hpro := hR.ok.pro
  dsimp only at K
  rw [hW1] at hB hH K
  have c35 := hH.cell 35 (v := .slice hA d.hs.length hc) rfl
  rw [hM] at K c35 hM8
  have hMnH := Lib.hid K.len
  have hMH := Lib.hid hM
  obtain ⟨R, hR2⟩ : ∃ R, d.ks = R := ⟨_, rfl⟩
  have hRH : Hid (d.hs.map (·.1) ++ (if d.frag then [44, d.pro] else [d.pro]) = R) := Lib.hid hR2
  rw [hR2]
  clear hM hR hR2
  go_enter Try.func21, Try.ntmps21
  go_wp2
  go_loopw [3, 9] (fun n i wr => ∃ k : Nat, k ≤ M ∧ i = .int .i64 k ∧ OwnB wr W1.heap.size n ((d.hs.take k).map (·.1)) ∧ Below W1.heap.size W1 wr) (fun _ i _ => M - (intOf i).toNat)
  case atStart => exact ⟨0, Nat.zero_le _, rfl, by rw [List.take_zero]; exact OwnB.nil _ _, Below.refl _ _⟩
  case round =>
    obtain ⟨k, hk, rfl, hO, hBr⟩ := hrel
    rename_i wr _
    have hBw := hB.trans (hBr.mono hB.size)
    have hH1 := hH.below hBr hH.lt
    have c35 := hH1.cell 35 (v := .slice hA d.hs.length hc) rfl
    rw [hMH.out] at c35
    by_cases hkM : k < M
    case neg =>
      obtain rfl : k = M := by omega
      have hge : ¬ ((k : Int) < (k : Int)) := by omega
      have c36 := hH1.cell 36 (v := .bool d.frag) rfl
      have hta : (d.hs.take k).map (·.1) = d.hs.map (·.1) := by rw [List.take_of_length_le (by rw [hMH.out]; omega)]
      rw [hta] at hO
      have hTl : (d.hs.map (·.1)).length = k := by rw [List.length_map, hMH.out]
      obtain ⟨T, hT⟩ : ∃ T, d.hs.map (·.1) = T := ⟨_, rfl⟩
      rw [hT] at hO hTl hRH
      have hTlH := Lib.hid hTl
      clear K hkM hkl hta hT hTl
      cases hf : d.frag with
      | true =>
        rw [hf] at c36
        have hq : Hid (T ++ [44] ++ [d.pro] = R) := Lib.hid (by rw [← hRH.out, hf, List.append_assoc]; rfl)
        have o1 := hO.alloc (.cells #[.int .u8 44] 5)
        have y1 := By.new wr 5 [44] (InB.one (by decide)) (by decide)
        have hB1 := hBr.trans (((Below.refl wr.heap.size wr).alloc (Nat.le_refl _) (.cells #[.int .u8 44] 5)).mono hBr.size)
        clear hRH hf
        clear c35
        go_wp2_with (first | (at_builtin; refine wpList_appB _ rfl _ _ 26 rfl Try.underlying26 infoB W1.heap.size _ _ rfl o1 _ _ 1 1 [44] rfl y1 (by rw [hTlH.out]; omega) (hB1.size) ?_; intro v7 w7 o7 hg7 _; have hb7 := below_own (OwnB.own o1) hg7 (hB1.size); have hB7 := hB1.trans hb7; have c40 := (hH.below hB7 hH.lt).cell 40 (v := .int .u8 d.pro) rfl; have o2 := o7.alloc (.cells #[.int .u8 d.pro] 5); have y2 := By.new w7 5 [d.pro] (InB.one hpro) (show 1 ≤ 9223372036854775807 by decide); have hB2 := hB7.trans (((Below.refl w7.heap.size w7).alloc (Nat.le_refl _) (.cells #[.int .u8 d.pro] 5)).mono hB7.size)) | (at_builtin; refine wpList_appB _ rfl _ _ 26 rfl Try.underlying26 infoB W1.heap.size _ _ rfl o2 _ _ 1 1 [d.pro] rfl y2 (by rw [List.length_append, hTlH.out]; show k + 1 + 1 ≤ _; omega) (hB2.size) ?_; intro v8 w8 o8 hg8 _; have hb8 := below_own (OwnB.own o2) hg8 (hB2.size)))
        go_ret
        rw [hq.out] at o8
        exact ⟨_, rfl, o8.more hB.size, hB.trans ((hB2.trans hb8).mono hB.size)⟩
      | false =>
        rw [hf] at c36
        have hq : Hid (T ++ [d.pro] = R) := Lib.hid (by rw [← hRH.out, hf]; rfl)
        have c40 := hH1.cell 40 (v := .int .u8 d.pro) rfl
        have o2 := hO.alloc (.cells #[.int .u8 d.pro] 5)
        have y2 := By.new wr 5 [d.pro] (InB.one hpro) (show 1 ≤ 9223372036854775807 by decide)
        have hB2 := hBr.trans (((Below.refl wr.heap.size wr).alloc (Nat.le_refl _) (.cells #[.int .u8 d.pro] 5)).mono hBr.size)
        clear hRH hf
        go_wp2_with (at_builtin; refine wpList_appB _ rfl _ _ 26 rfl Try.underlying26 infoB W1.heap.size _ _ rfl o2 _ _ 1 1 [d.pro] rfl y2 (by rw [hTlH.out]; omega) (hB2.size) ?_; intro v8 w8 o8 hg8 _; have hb8 := below_own (OwnB.own o2) hg8 (hB2.size))
        go_ret
        rw [hq.out] at o8
        exact ⟨_, rfl, o8.more hB.size, hB.trans ((hB2.trans hb8).mono hB.size)⟩
    case pos =>
    have hkz : (k : Int) < (M : Int) := by omega
    obtain ⟨⟨pk, pA, pc, pl⟩, hp⟩ : ∃ p', ps[k]? = some p' := ⟨ps[k]'(by rw [hMnH.out]; exact hkM), List.getElem?_eq_getElem _⟩
    have hmt := map_take_succ (kd_get hkl hp)
    obtain ⟨b1, o1, hA1, hb1, hr1, hr2, yP, e0, e1, hld⟩ := K.loadHead hp
    have hld := hld wr (hBr.mono hB.size)
    subst hA1
    dsimp only at hld hmt hr1 hr2
    obtain ⟨m, hm⟩ : ∃ m, pl.length = m := ⟨_, rfl⟩
    rw [hm] at hld
    obtain ⟨W4, hW4, hH4, hX⟩ := head_var wr pk pA m pc
    have c0 := hH4.cell 0 (v := .int .u8 pk) rfl
    have hB4 := hBr.trans (hX.mono hBr.size)
    have hN : Has (wr.alloc (.cells #[.int .u8 0, .slice none 0 0] 54)) wr.heap.size (.cells #[.int .u8 0, .slice none 0 0] 54 (0, 0)) := Has.newAt rfl
    have hTl : ((d.hs.take k).map (·.1)).length = k := by rw [List.length_map, List.length_take, hMH.out]; omega
    obtain ⟨T, hT⟩ : ∃ T, (d.hs.take k).map (·.1) = T := ⟨_, rfl⟩
    rw [hT] at hO hTl hmt
    have o2 := ((hO.below hX).alloc (.cells #[.int .u8 pk] 5))
    have y2 := By.new W4 5 [pk] (InB.one ⟨hr1, hr2⟩) (show 1 ≤ 9223372036854775807 by decide)
    have hB2 := hB4.trans (((Below.refl W4.heap.size W4).alloc (Nat.le_refl _) (.cells #[.int .u8 pk] 5)).mono hB4.size)
    have hmtH := Lib.hid hmt
    have hTlH := Lib.hid hTl
    clear hp K hm yP e0 e1 hkl hT hO hmt hTl hRH
    go_wp2_with (first | (refine wl (.pointer (some ⟨b1, o1 + k * 2, none⟩)) (by kernel_rfl) (by exact ex_index2 (by exact rfl) Try.underlying25 (by kernel_rfl) (by exact rfl) (by exact rfl) hkM) ?_) | (refine wl (.agg #[.int .u8 pk, .slice pA m pc]) (by kernel_rfl) (by exact ex_loadAt (by exact rfl) (by exact rfl) hld) ?_) | (refine wpList_store_row rfl 54 (.tmp 5) (.tmp 12) rfl wr.heap.size _ rfl rfl 54 _ hN head_info rfl (by simp [Value.oneCell']) ?_) | (at_builtin; refine wpList_appB _ rfl _ _ 26 rfl Try.underlying26 infoB W1.heap.size _ _ rfl o2 _ _ 1 1 [pk] rfl y2 (by rw [hTlH.out]; omega) (hB2.size) ?_; intro v8 w8 o8 hg8 _; have hb8 := below_own (OwnB.own o2) hg8 (hB2.size)))
    go_roundw
    case rel => exact ⟨k + 1, by omega, by go_num, by rw [hmtH.out]; exact o8, hB2.trans hb8⟩
    case measure => simp [intOf]; omega

/-- a byte that reads as said -/
def Byt (x : Int) (e : Ending) : Prop := ∃ q : Int, e = .returned (.int .u8 q) ∧ Hid (q = x)
theorem Byt.mk {x q : Int} (h : q = x) : Byt x (.returned (.int .u8 q)) := ⟨q, rfl, Lib.hid h⟩
set_option maxRecDepth 100000 in
theorem next_any (d : D6) (p : W6) (w : World) (hR : Rd6 w.heap.size w d p) (k : Nat) (hk : k ≤ d.hs.length) :
    Calls Try.prog 24 #[.agg (d.cells p), .int .i64 (k : Int)] w fun e w' => Byt (nxt d.last (d.hs.drop k)) e ∧ Below w.heap.size w w' := by
  obtain ⟨hA, hc, ps, bA, bc⟩ := p
  have hB : Below w.heap.size w (w.alloc (.cells (d.cells ⟨hA, hc, ps, bA, bc⟩) 28)) := (Below.refl _ _).alloc (Nat.le_refl _) _
  have hH : Has (w.alloc (.cells (d.cells ⟨hA, hc, ps, bA, bc⟩) 28)) w.heap.size (.cells (d.cells ⟨hA, hc, ps, bA, bc⟩) 28 (0, 0)) := Has.newAt rfl
  obtain ⟨W1, hW1⟩ : ∃ W, w.alloc (.cells (d.cells ⟨hA, hc, ps, bA, bc⟩) 28) = W := ⟨_, rfl⟩
  obtain ⟨M, hM⟩ : ∃ M, d.hs.length = M := ⟨_, rfl⟩
  have K := hR.hd.below hB (Nat.le_refl _)
  have hkl : kdL ps = d.hs := hR.hl
  dsimp only at K
  rw [hW1] at hB hH K
  have c35 := hH.cell 35 (v := .slice hA d.hs.length hc) rfl
  have c36 := hH.cell 36 (v := .bool d.frag) rfl
  have c40 := hH.cell 40 (v := .int .u8 d.pro) rfl
  rw [hM] at K c35 hk
  have hMn := K.len
  have hMc := Nat.le_trans K.cap K.big
  obtain ⟨X, hX⟩ : ∃ X, nxt d.last (d.hs.drop k) = X := ⟨_, rfl⟩
  rw [hX]
  by_cases hkM : k < M
  · have hkz : (k : Int) < (M : Int) := by omega
    obtain ⟨⟨pk, pA, pc, pl⟩, hp⟩ : ∃ p', ps[k]? = some p' := ⟨ps[k]'(by omega), List.getElem?_eq_getElem _⟩
    obtain ⟨b1, o1, hA1, hb1, hr1, hr2, yP, e0, e1, hld⟩ := K.loadHead hp
    subst hA1
    dsimp only at e0
    rw [drop_kd hkl hp] at hX
    have hX : pk = X := hX
    clear hp K yP e1 hld hkl hR c36 c40
    go_enter Try.func24, Try.ntmps24
    go_wp2_with (first | (refine wl (.pointer (some ⟨b1, o1 + k * 2, none⟩)) (by kernel_rfl) (by exact ex_index2 (by exact rfl) Try.underlying25 (by kernel_rfl) (by exact rfl) (by exact rfl) hkM) ?_) | (refine wl (.pointer (some ⟨b1, o1 + k * 2, none⟩)) (by kernel_rfl) (by exact ex_field0 (by exact rfl) Try.underlying54 (by exact rfl) rfl (by kernel_rfl) (by exact rfl)) ?_))
    go_ret
    exact ⟨Byt.mk rfl, hB⟩
  · have hge : ¬ ((k : Int) < (M : Int)) := by omega
    rw [List.drop_of_length_le (by omega)] at hX
    have hX : (if d.frag then 44 else d.pro) = X := hX
    clear K hkl hR
    cases hf : d.frag with
    | true =>
      rw [hf] at c36 hX
      go_enter Try.func24, Try.ntmps24
      go_wp2
      go_ret
      exact ⟨Byt.mk hX, hB⟩
    | false =>
      rw [hf] at c36 hX
      go_enter Try.func24, Try.ntmps24
      go_wp2
      go_ret
      exact ⟨Byt.mk hX, hB⟩
end Go.Proofs.Ytndmmkadceobjaa
