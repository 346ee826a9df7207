/-
  The walk of the reference's Update.
-/
import Derived.Test.YtaobnbjkhgcmlaaRefSum
import Derived.Test.YtaobnbjkhgcmlaaUpd6
namespace Go.Proofs.Ytaobnbjkhgcmlaa
open Go.RowKit Go.Shelf

theorem even_t (A1 A2 : Option Addr) (c1 c2 : Nat) (l1 l2 : List Int) (w : World) (h : l1.length = l2.length ∧ l2.length % 2 = 0) :
    Calls Try.prog 73 #[.slice A1 l1.length c1, .slice A2 l2.length c2] w fun e W' => e = .returned (.bool true) ∧ w = W' := by
  obtain ⟨h1, h2⟩ := h
  rw [h1]
  have hm : ((l2.length : Int) % 2 == 0) = true := by simp; omega
  clear h1
  go_enter Try.func73, Try.ntmps73
  go_wp2
  go_ret
  exact ⟨rfl, rfl⟩
theorem even_f (A1 A2 : Option Addr) (c1 c2 : Nat) (l1 l2 : List Int) (w : World) (h : ¬ (l1.length = l2.length ∧ l2.length % 2 = 0)) :
    Calls Try.prog 73 #[.slice A1 l1.length c1, .slice A2 l2.length c2] w fun e W' => e = .returned (.bool false) ∧ w = W' := by
  by_cases h1 : l1.length = l2.length
  · rw [h1]
    have hm : ((l2.length : Int) % 2 == 0) = false := by simp; omega
    clear h1 h
    go_enter Try.func73, Try.ntmps73
    go_wp2
    go_ret
    exact ⟨rfl, rfl⟩
  · have hm : ((l1.length : Int) == (l2.length : Int)) = false := by simp; omega
    clear h
    go_enter Try.func73, Try.ntmps73
    go_wp2
    go_ret
    exact ⟨rfl, rfl⟩

theorem wpW (l : List Int) (hl : InB l) : ∀ x ∈ wds l, 0 ≤ x ∧ x < 65536 := wds_rng l hl

/-- the end of both: a fold of what was collected -/
theorem take_neg_succ {l : List Int} {k : Nat} (h : k < l.length) : neg (l.take (k + 1)) = neg (l.take k) ++ [65535 - l[k]] := by rw [List.take_succ_eq_append_getElem h, neg_snoc]
theorem neg_length (l : List Int) : (neg l).length = l.length := by simp [neg]

set_option maxHeartbeats 1000000 in
theorem rupdate_any (was : Int) (hn : 0 ≤ was ∧ was < 65536) (A1 A2 : Option Addr) (c1 c2 : Nat) (l1 l2 : List Int) (w : World) (h1 : By w.heap.size w A1 l1.length c1 l1) (h2 : By w.heap.size w A2 l2.length c2 l2) (hbig : l1.length ≤ 4398046511104 ∧ l2.length ≤ 4398046511104) :
    Calls Try.prog 63 #[.int .u16 was, .slice A1 l1.length c1, .slice A2 l2.length c2] w fun e W' => Two (updateS was l1 l2) e ∧ Below w.heap.size w W' := by
  have hbl1 := wds_len l1
  have hbl2 := wds_len l2
  by_cases hd : l1.length = l2.length ∧ l2.length % 2 = 0
  · have hS : updateS was l1 l2 = (65535 - fold 0 ([65535 - was] ++ neg (wds l1) ++ wds l2), 0) := by
      unfold updateS changedS; rw [if_pos hd, if_pos hd, rupdate_eq was hn l1 l2 h1.rng h2.rng]
    have hSH := Lib.hid hS
    clear hS
    have hdH := Lib.hid hd
    clear hd
    have hr1 := wds_rng l1 h1.rng
    have hr2 := wds_rng l2 h2.rng
    go_enter Try.func63, Try.ntmps63
    go_wp2_with fail
    refine (even_t _ _ _ _ _ _ _ hdH.out).mono ?_
    rintro e w1 ⟨rfl, rfl⟩
    go_wp2_with fail
    have hW : Below w.heap.size w (w.alloc (.cells #[Value.int .i64 (65535 - was)] 3)) := (Below.refl _ _).alloc (Nat.le_refl _) _
    have hown0 : (w.alloc (.cells #[Value.int .i64 (65535 - was)] 3)).ownsRow w.heap.size 3 1 (.slice (some ⟨w.heap.size, 0, none⟩) 1 1) 1 (i64s [65535 - was]) :=
      ⟨rfl, .inr ⟨w.heap.size, 1, _, rfl, Nat.le_refl _, World.alloc_heap_new _ _, Nat.le_refl _, by simp only [maxLen]; omega, rfl, rfl⟩⟩
    refine (rwords_any _ _ _ l1 _ (h1.below hW (Nat.le_refl _)) hW.size (by omega)).mono ?_
    rintro e w2 ⟨v, rfl, hown2, hb2⟩
    obtain ⟨A4, c4, rfl, hc4⟩ := own_shape hown2
    have hB2 := hW.trans (hb2.mono hW.size)
    have hown1 := own_below hown0 hb2
    have hne := ne_new hown0 hown2 (Nat.le_refl _)
    clear hown0 hb2 h1
    generalize hA : wds l1 = b at *
    have hAH := Lib.hid hA
    clear hA
    go_wp2
    go_loopw [8, 10] (fun v i wr => ∃ k : Nat, k ≤ b.length ∧ i = .int .i64 k ∧ wr.ownsRow w.heap.size 3 1 v ([65535 - was] ++ neg (b.take k)).length (i64s ([65535 - was] ++ neg (b.take k))) ∧ Below w.heap.size w wr ∧ wr.ownsRow (w.heap.size + 1) 3 1 (.slice A4 b.length c4) b.length (i64s b) ∧ NeB v (.slice A4 b.length c4)) (fun _ i _ => b.length - (intOf i).toNat)
    case atStart => exact ⟨0, Nat.zero_le _, rfl, by simpa [neg] using hown1, hB2, by simpa using hown2, hne⟩
    case round =>
      clear hown1 hB2 hown2 hne
      obtain ⟨k, hk, rfl, hown, hB, hown2, hne⟩ := hrel
      by_cases hlt : k < b.length
      · obtain ⟨bb, off, u, hA4, hb, hu, hcell⟩ := (own_row hown2).get hlt
        subst hA4
        obtain rfl : u = .int .i64 b[k] := by simpa [i64s, List.getElem?_eq_getElem hlt] using hu.symm
        have hx := hr1 b[k] (List.getElem_mem hlt)
        have hst : [65535 - was] ++ neg (b.take (k + 1)) = [65535 - was] ++ neg (b.take k) ++ [65535 - b[k]] := by rw [take_neg_succ hlt, List.append_assoc]
        have hlen : ([65535 - was] ++ neg (b.take k)).length ≤ 1 + k := by rw [List.length_append, neg_length, List.length_take]; simp; omega
        have hstH := Lib.hid hst
        clear hst hu
        generalize b[k] = x at hcell hx hstH
        have hk63 : k < 9223372036854775807 := by omega
        generalize hL : [65535 - was] ++ neg (b.take k) = L at hown hlen hstH
        clear hL
        go_wp2_with (at_builtin; refine wpList_appRow _ rfl _ _ _ rfl _ _ 8 Try.underlying78 info3 rfl _ _ _ _ rfl (hown.alloc _) _ _ _ _ (i64s [65535 - x]) rfl (Row.blk (t := 3) (fz := (0, 0)) (Has.newAt rfl) (Nat.le_refl _) rfl rfl) (i64s_one _) (by simp only [maxLen]; omega) (by omega) (by simp; have := hB.size; omega) ?_; intro v' w' hown' hg hat; have hB' := hB.trans (((Below.refl _ _).alloc hB.size _).grown hg (by simp; have := hB.size; omega) (fun k hk => (hown.lt k hk).1)))
        go_roundw
        case rel => exact ⟨k + 1, by omega, by go_num, by rw [hstH.out, List.length_append, i64s_append]; exact hown', hB', own_keep2 (hown2.alloc _) hne hg, ne_app (hown2.alloc _) hne (Nat.le_refl _) hat⟩
        case measure => simp [intOf]; omega
      · obtain rfl : k = b.length := by omega
        rw [List.take_length] at hown
        clear hown2 hne
        have hlen : ([65535 - was] ++ neg b).length = 1 + b.length := by rw [List.length_append, neg_length]; simp
        have hr3 : ∀ x ∈ [65535 - was] ++ neg b, 0 ≤ x ∧ x < 65536 := fun x hx => (List.mem_append.1 hx).elim (fun h => by simp at h; omega) (neg_rng _ hr1 x)
        generalize [65535 - was] ++ neg b = L at *
        have hlenH := Lib.hid hlen
        clear hlen
        obtain ⟨A5, c5, rfl, hc5⟩ := own_shape hown
        go_wp2_with fail
        refine (rwords_any _ _ _ l2 _ (h2.below hB (Nat.le_refl _)) hB.size (by omega)).mono ?_
        rintro e w3 ⟨v3, rfl, hown3, hb3⟩
        obtain ⟨A6, c6, rfl, hc6⟩ := own_shape hown3
        have hB3 := hB.trans (hb3.mono hB.size)
        have hownL := own_below hown hb3
        have hrow3 := own_row hown3
        generalize wds l2 = ws2 at *
        go_wp2_with (at_builtin; refine wpList_appRow _ rfl _ _ _ rfl _ _ 8 Try.underlying78 info3 rfl _ _ _ _ rfl hownL _ _ _ _ _ rfl hrow3 (i64s_one _) (by have := hlenH.out; simp only [maxLen]; omega) (by have := hlenH.out; omega) hB3.size ?_; intro v' w' hown' hg hat; have hB' := hB3.trans (below_own hownL hg hB3.size); rw [← i64s_append, ← List.length_append] at hown'; obtain ⟨L2, hL2⟩ : ∃ L2, L ++ ws2 = L2 := ⟨_, rfl⟩; rw [hL2] at hown'; have hL2H := Lib.hid hL2; clear hL2; obtain ⟨A7, c7, rfl, hc7⟩ := own_shape hown')
        have hsum : ∀ x ∈ L2, 0 ≤ x ∧ x < 65536 := fun x hx => by rw [← hL2H.out] at hx; exact (List.mem_append.1 hx).elim (hr3 x) (hr2 x)
        have hrng := fold_rng 0 (by omega) _ hsum
        refine (added_any _ _ _ _ _ (own_row hown') hc7 hsum).mono ?_
        rintro e w4 ⟨rfl, rfl⟩
        go_wp2
        go_ret2
        refine ⟨Two.mk ?_ ?_, hB'⟩
        · rw [hSH.out, hL2H.out]
        · rw [hSH.out]
  · have hdH := Lib.hid hd
    clear hd
    go_enter Try.func63, Try.ntmps63
    go_wp2_with fail
    refine (even_f _ _ _ _ _ _ _ hdH.out).mono ?_
    rintro e w1 ⟨rfl, rfl⟩
    go_wp2
    go_ret2
    refine ⟨Two.mk ?_ ?_, Below.refl _ _⟩
    · unfold updateS; rw [if_neg hdH.out]
    · unfold updateS; rw [if_neg hdH.out]
end Go.Proofs.Ytaobnbjkhgcmlaa
