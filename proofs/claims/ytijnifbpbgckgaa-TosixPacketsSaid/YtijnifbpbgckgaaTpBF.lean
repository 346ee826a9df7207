/-
  Lemmas and walks for the row of TosixPackets (part 32 of 45).
-/
import Derived.Test.YtijnifbpbgckgaaTpAF
import Derived.Test.YtijnifbpbgckgaaTpAY
import Derived.Test.YtijnifbpbgckgaaTpBD
set_option linter.unusedVariables false
set_option linter.unusedSimpArgs false
namespace Go.Proofs.Ytijnifbpbgckgaa
open Go.RowKit Go.Shelf

/-- the reference's Fold, its part in a new row -/
theorem rfold_one {w : World} {g : Nat} (A : Option Addr) (c k : Nat) (l : List Int) (hk : k = l.length) (h : Has w g (.cells #[.slice A k c] 25 (0, 0))) (hy : By w.heap.size w A l.length c l) (hs : l.length ≤ 8796093022208) :
  Calls Try.prog 60 #[.slice (some ⟨g, 0, none⟩) 1 1] w fun e W' => ∃ q : Int, e = .returned (.int .u16 q) ∧ Hid (q = sumw l) ∧ Below w.heap.size w W' := by
 subst hk
 have hP : Parts w.heap.size w (some ⟨g, 0, none⟩) 1 1 [(A, c, l)] := Parts.blk (xs := [(A, c, l)]) h (Nat.le_refl _) rfl (all1 hy) (by simp)
 have hf : flat [(A, c, l)] = l := by simp [flat]
 exact (rfold_any _ _ [(A, c, l)] _ hP (by rw [hf]; exact hs)).mono fun e w' ⟨he, hb⟩ => ⟨_, he, Lib.hid (by rw [hf]), hb⟩

set_option maxRecDepth 100000 in
set_option maxHeartbeats 4000000 in
theorem rread_bad (part : Bool) (A : Option Addr) (c : Nat) (l : List Int) (w : World) (hy : By w.heap.size w A l.length c l) (he : pe4 part l ≠ 0) :
  Calls Try.prog 89 #[.slice A l.length c, .bool part] w fun e w' => Told4p w.heap.size w' zero4 (pat4 (pe4 part l)) (pe4 part l) e ∧ Below w.heap.size w w' := by
 have hl := hy.rng
 have hV : Has (w.alloc (.cells z4cells 27)) w.heap.size (.cells z4cells 27 (0, 0)) := Has.newAt rfl
 have hB1 : Below w.heap.size w (w.alloc (.cells z4cells 27)) := (Below.refl _ _).alloc (Nat.le_refl _) _
 by_cases h20 : l.length < 20
 ·have e1 : pe4 part l = 40 := by unfold pe4; rw [if_pos h20]
  rw [e1]
  clear e1 he
  go_enter Try.func89, Try.ntmps89
  go_wp2_with (refine wpList_store_row rfl 27 (.tmp 4) (.tmp 13) rfl w.heap.size _ rfl rfl 27 _ hV v4_info rfl (by simp [Value.oneCell']) ?_)
  exact bodyPost_ret (res_cell3 Try.results89 rfl (hV.setRow_same.load (P := Try.prog) 27 Try.underlying27 rfl v4_info) rfl rfl) rfl ⟨⟨pZ, _, _, rfl, Lib.hid rfl, Lib.hid rfl, own4_zero _ _⟩, hB1.trans below_setRow'⟩
 obtain ⟨b, off, rfl, hbl, -⟩ := hy.row.at_ (by omega)
 have d0 : (w.alloc (.cells z4cells 27)).cell? ⟨b, off, none⟩ = _ := cell_at4 hy hB1 (i := 0) (by omega)
 have r0 := getD_rng4 hl 0
 have hH : hl4 l = l.getD 0 0 % 16 * 4 := rfl
 obtain ⟨x0, hx0⟩ : ∃ x, l.getD 0 0 = x := ⟨_, rfl⟩
 rw [hx0] at d0 r0 hH
 unfold z4cells at d0
 have z0 : (0 : Int) < (l.length : Int) := by omega
 have h20' : (20 : Int) ≤ (l.length : Int) := by omega
 by_cases h41 : x0 / 16 = 4
 case neg =>
  have e1 : pe4 part l = 41 := by unfold pe4; rw [if_neg h20, hx0, if_pos h41]
  rw [e1]
  clear e1 he hH hx0
  have h41 : (x0 / 16 != 4) = true := by simpa using h41
  go_enter Try.func89, Try.ntmps89
  go_wp2_with (refine wpList_store_row rfl 27 (.tmp 4) (.tmp 19) rfl w.heap.size _ rfl rfl 27 _ hV v4_info rfl (by simp [Value.oneCell']) ?_)
  exact bodyPost_ret (res_cell3 Try.results89 rfl (hV.setRow_same.load (P := Try.prog) 27 Try.underlying27 rfl v4_info) rfl rfl) rfl ⟨⟨pZ, _, _, rfl, Lib.hid rfl, Lib.hid rfl, own4_zero _ _⟩, hB1.trans below_setRow'⟩
 obtain ⟨k, hk⟩ : ∃ k : Nat, x0 % 16 * 4 = (k : Int) := ⟨(x0 % 16 * 4).toNat, by omega⟩
 rw [hk] at hH
 have hkb : k ≤ 60 := by omega
 by_cases h42 : k < 20 ∨ l.length < k
 ·have e1 : pe4 part l = 42 := by unfold pe4; rw [if_neg h20, hx0, if_neg (by simp [h41]), hH, if_pos (by omega)]
  rw [e1]
  clear e1 he hH hx0
  rcases Nat.lt_or_ge k 20 with h1 | h1
  ·have h1 : (k : Int) < 20 := by omega
   clear h42
   go_enter Try.func89, Try.ntmps89
   go_wp2_with (refine wpList_store_row rfl 27 (.tmp 4) (.tmp 34) rfl w.heap.size _ rfl rfl 27 _ hV v4_info rfl (by simp [Value.oneCell']) ?_)
   exact bodyPost_ret (res_cell3 Try.results89 rfl (hV.setRow_same.load (P := Try.prog) 27 Try.underlying27 rfl v4_info) rfl rfl) rfl ⟨⟨pZ, _, _, rfl, Lib.hid rfl, Lib.hid rfl, own4_zero _ _⟩, hB1.trans below_setRow'⟩
  ·have h2 : (l.length : Int) < (k : Int) := by omega
   have h1 : (20 : Int) ≤ (k : Int) := by omega
   clear h42
   go_enter Try.func89, Try.ntmps89
   go_wp2_with (refine wpList_store_row rfl 27 (.tmp 4) (.tmp 34) rfl w.heap.size _ rfl rfl 27 _ hV v4_info rfl (by simp [Value.oneCell']) ?_)
   exact bodyPost_ret (res_cell3 Try.results89 rfl (hV.setRow_same.load (P := Try.prog) 27 Try.underlying27 rfl v4_info) rfl rfl) rfl ⟨⟨pZ, _, _, rfl, Lib.hid rfl, Lib.hid rfl, own4_zero _ _⟩, hB1.trans below_setRow'⟩
 have h1 : (20 : Int) ≤ (k : Int) := by omega
 have h2 : (k : Int) ≤ (l.length : Int) := by omega
 have d2 : (w.alloc (.cells z4cells 27)).cell? ⟨b, off + 2, none⟩ = _ := cell_at4 hy hB1 (i := 2) (by omega)
 have d3 : (w.alloc (.cells z4cells 27)).cell? ⟨b, off + 3, none⟩ = _ := cell_at4 hy hB1 (i := 3) (by omega)
 unfold z4cells at d2 d3
 have r2 := getD_rng4 hl 2
 have r3 := getD_rng4 hl 3
 have hT : tot4 l = l.getD 2 0 * 256 + l.getD 3 0 := rfl
 obtain ⟨x2, hx2⟩ : ∃ x, l.getD 2 0 = x := ⟨_, rfl⟩
 obtain ⟨x3, hx3⟩ : ∃ x, l.getD 3 0 = x := ⟨_, rfl⟩
 rw [hx2] at d2 r2 hT
 rw [hx3] at d3 r3 hT
 have z2 : (2 : Int) < (l.length : Int) := by omega
 have z3 : (3 : Int) < (l.length : Int) := by omega
 obtain ⟨hsl, yk⟩ := hy.to_ (P := Try.prog) 25 Try.underlying25 (by kernel_rfl) (k := k) (by omega)
 have yk := Lib.hid yk
 by_cases h43 : (part = false ∧ tot4 l ≠ l.length) ∨ (part = true ∧ (tot4 l < l.length ∨ tot4 l < hl4 l))
 ·have e1 : pe4 part l = 43 := by unfold pe4; rw [if_neg h20, hx0, if_neg (by simp [h41]), if_neg (by omega), if_pos h43]
  rw [e1]
  clear e1 he
  have hTn : ∀ T : Int, x2 * 256 + x3 = T → (part = false ∧ T ≠ l.length) ∨ (part = true ∧ T < l.length) := fun T hT2 => by
   have : tot4 l = T := hT.trans hT2
   rw [this, hH] at h43
   rcases h43 with h | ⟨h, h'⟩
   ·exact .inl h
   ·exact .inr ⟨h, by omega⟩
  clear h43 hT hH hx0
  have hTn := Lib.hid hTn
  go_enter Try.func89, Try.ntmps89
  go_wp2
  go_quiet (fail)
  have hV := hV.drewN (n := nq)
  have hB1 := hB1.trans (below_drewN _ _ nq)
  have hsz : ((w.alloc (.cells z4cells 27)).drewN nq).heap.size = w.heap.size + 1 := by simp [World.drewN]
  unfold z4cells at hV hB1 hsz
  generalize (w.alloc (.cells #[.int .u8 0, .int .u16 0, .bool false, .bool false, .int .i64 0, .int .u8 0, .int .u8 0, .int .u8 0, .int .u8 0, .int .u8 0, .int .u8 0, .int .u8 0, .int .u8 0, .int .u8 0, .int .u8 0, .slice none 0 0, .slice none 0 0] 27)).drewN nq = W at hV hB1 hsz ⊢
  obtain ⟨T, hT⟩ : ∃ T, x2 * 256 + x3 = T := ⟨_, rfl⟩
  have hTn := hTn.out T hT
  simp only [hT]
  clear hT d0 d2 d3
  rcases hTn with ⟨rfl, hn⟩ | ⟨rfl, hn⟩
  ·by_cases hlt : T < l.length
   ·clear hn
    go_wp2_with (refine wpList_store_row rfl 27 (.tmp 4) (.tmp 64) rfl w.heap.size _ rfl rfl 27 _ hV v4_info rfl (by simp [Value.oneCell']) ?_)
    exact bodyPost_ret (res_cell3 Try.results89 rfl (hV.setRow_same.load (P := Try.prog) 27 Try.underlying27 rfl v4_info) rfl rfl) rfl ⟨⟨pZ, _, _, rfl, Lib.hid rfl, Lib.hid rfl, own4_zero _ _⟩, hB1.trans below_setRow'⟩
   ·have hgt : (l.length : Int) < T := by omega
    clear hn
    go_wp2_with (refine wpList_store_row rfl 27 (.tmp 4) (.tmp 64) rfl w.heap.size _ rfl rfl 27 _ hV v4_info rfl (by simp [Value.oneCell']) ?_)
    exact bodyPost_ret (res_cell3 Try.results89 rfl (hV.setRow_same.load (P := Try.prog) 27 Try.underlying27 rfl v4_info) rfl rfl) rfl ⟨⟨pZ, _, _, rfl, Lib.hid rfl, Lib.hid rfl, own4_zero _ _⟩, hB1.trans below_setRow'⟩
  ·skip
   go_wp2_with (refine wpList_store_row rfl 27 (.tmp 4) (.tmp 64) rfl w.heap.size _ rfl rfl 27 _ hV v4_info rfl (by simp [Value.oneCell']) ?_)
   exact bodyPost_ret (res_cell3 Try.results89 rfl (hV.setRow_same.load (P := Try.prog) 27 Try.underlying27 rfl v4_info) rfl rfl) rfl ⟨⟨pZ, _, _, rfl, Lib.hid rfl, Lib.hid rfl, own4_zero _ _⟩, hB1.trans below_setRow'⟩
 obtain ⟨hp, hs⟩ : part = false ∧ sumw (l.take (hl4 l).toNat) ≠ 65535 := by
  refine Decidable.not_not.1 fun hn => he ?_
  unfold pe4
  rw [if_neg h20, hx0, if_neg (by simp [h41]), if_neg (by omega), if_neg h43, if_neg hn]
 have e1 : pe4 part l = 44 := by unfold pe4; rw [if_neg h20, hx0, if_neg (by simp [h41]), if_neg (by omega), if_neg h43, if_pos ⟨hp, hs⟩]
 rw [e1]
 subst hp
 rw [hH, Int.toNat_natCast] at hs
 have hTl : tot4 l = l.length := Decidable.not_not.1 fun hn => h43 (.inl ⟨rfl, hn⟩)
 rw [hT] at hTl
 have hs := Lib.hid hs
 have hTl := Lib.hid hTl
 clear e1 he hx0 h43 hH hT
 go_enter Try.func89, Try.ntmps89
 go_wp2
 go_quiet (fail)
 have hV := hV.drewN (n := nq)
 have hB1 := hB1.trans (below_drewN _ _ nq)
 have hsz : ((w.alloc (.cells z4cells 27)).drewN nq).heap.size = w.heap.size + 1 := by simp [World.drewN]
 unfold z4cells at hV hB1 hsz
 generalize (w.alloc (.cells #[.int .u8 0, .int .u16 0, .bool false, .bool false, .int .i64 0, .int .u8 0, .int .u8 0, .int .u8 0, .int .u8 0, .int .u8 0, .int .u8 0, .int .u8 0, .int .u8 0, .int .u8 0, .int .u8 0, .slice none 0 0, .slice none 0 0] 27)).drewN nq = W at hV hB1 hsz ⊢
 clear d0 d2 d3
 go_wp2_with fail
 refine (rfold_one (some ⟨b, off, none⟩) c k (l.take k) yk.out.len.symm (Has.newAt (by rw [hsz])) (by rw [yk.out.len]; exact (((yk.out.below hB1 (Nat.le_refl _)).alloc (by omega) _).more (by simp; omega))) (by rw [yk.out.len]; omega)).mono ?_
 rintro e w4 ⟨q, rfl, hq, hb⟩
 have hb : Below W.heap.size W w4 := ((Below.refl _ _).alloc (Nat.le_refl _) _).trans (hb.mono (by simp))
 have hV := hV.below hb hV.lt
 have hB1 := hB1.trans (hb.mono (by omega))
 have hq : (q != 65535) = true := by rw [hq.out]; simpa using hs.out
 clear hb
 go_wp2_with (refine wpList_store_row rfl 27 (.tmp 4) (.tmp 75) rfl w.heap.size _ rfl rfl 27 _ hV v4_info rfl (by simp [Value.oneCell']) ?_)
 exact bodyPost_ret (res_cell3 Try.results89 rfl (hV.setRow_same.load (P := Try.prog) 27 Try.underlying27 rfl v4_info) rfl rfl) rfl ⟨⟨pZ, _, _, rfl, Lib.hid rfl, Lib.hid rfl, own4_zero _ _⟩, hB1.trans below_setRow'⟩
end Go.Proofs.Ytijnifbpbgckgaa
