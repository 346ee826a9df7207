/-
  The walk of the law SumOrder.
-/
import Derived.Test.YtiplnjpgaiibhaaFew
namespace Go.Proofs.Ytiplnjpgaiibhaa
open Go.RowKit Go.Shelf

/-- the sum hangs on no order of parts with an even number of bytes -/
theorem wt_flat (xs : List Sl) (he : ∀ x ∈ xs, x.2.2.length % 2 = 0) (l : List Int) : wt (flat xs ++ l) = (xs.map fun x => wt x.2.2).sum + wt l := by
  induction xs with
  | nil => simp [flat]
  | cons x xs ih =>
    have h1 := ih (fun y hy => he y (by simp [hy]))
    have : flat (x :: xs) = x.2.2 ++ flat xs := by simp [flat]
    rw [this, List.append_assoc, wt_append _ _ (he x (by simp)), h1]
    simp
    omega
theorem flat_snoc (xs : List Sl) (x : Sl) : flat (xs ++ [x]) = flat xs ++ x.2.2 := by simp [flat]
theorem order_law (xs : List Sl) (he : ∀ x ∈ xs, x.2.2.length % 2 = 0) (x : Sl) (r1 : InB (flat (xs ++ [x]))) (r2 : InB (flat (xs.reverse ++ [x]))) : sumw (flat (xs.reverse ++ [x])) = sumw (flat (xs ++ [x])) := by
  rw [sumw_wt _ r1, sumw_wt _ r2, flat_snoc, flat_snoc, wt_flat xs he, wt_flat xs.reverse (fun y hy => he y (List.mem_reverse.1 hy)), List.map_reverse, List.sum_reverse]

theorem take_rev_succ {xs : List Sl} {k : Nat} (h : k < xs.length) : (xs.take (k + 1)).reverse = [xs[k]] ++ (xs.take k).reverse := by rw [List.take_succ_eq_append_getElem h, List.reverse_append]; rfl

set_option maxRecDepth 100000 in
set_option maxHeartbeats 2000000 in
theorem sumOrder_walk (A : Option Addr) (c : Nat) (xs : List Sl) (A2 : Option Addr) (c2 : Nat) (l2 : List Int) (w : World) (hI : Parts w.heap.size w A xs.length c xs) (h2 : By w.heap.size w A2 l2.length c2 l2) :
    Calls Try.prog 3 #[.slice A xs.length c, .slice A2 l2.length c2] w fun e w' => e = .returned (.bool true) ∧ Below w.heap.size w w' := by
  go_enter Try.func3, Try.ntmps3
  go_wp2_with fail
  refine (few_any _ _ _ _ hI).mono ?_
  rintro e w1 ⟨A1, c1, rfl, hown, hy, hB1⟩
  have hs1 := hB1.size
  have hc1 := own_cap hown
  have hy1 : ∀ x ∈ fewS xs, By w1.heap.size w1 x.1 x.2.2.length x.2.1 x.2.2 := fun x hx => ((hy x hx).below hB1 (Nat.le_refl _)).more hs1
  have hyH := Lib.hid hy
  have hle := fewS_le xs
  have hP : Parts w1.heap.size w1 A1 (fewS xs).length c1 (fewS xs) := Parts.own hown (by omega) (Nat.le_refl _) hy1
  clear hy hy1
  generalize fewS xs = ys at *
  go_wp2
  go_loopw [5, 6] (fun v i wr => ∃ k : Nat, k ≤ ys.length ∧ i = .int .i64 k ∧ wr.ownsRow w1.heap.size 23 1 v k (vals (ys.take k).reverse) ∧ Below w1.heap.size w1 wr ∧ Hid (∀ x ∈ ys.take k, x.2.2.length % 2 = 0)) (fun _ i _ => ys.length - (intOf i).toNat)
  case atStart => exact ⟨0, Nat.zero_le _, rfl, World.ownsRow_nil _ _ _ _, Below.refl _ _, Lib.hid (by simp)⟩
  case round =>
    obtain ⟨k, hk, rfl, hback, hB, hev⟩ := hrel
    by_cases hlt : k < ys.length
    · obtain ⟨b, off, hA, hb, hcell, hyk⟩ := (hP.below hB (Nat.le_refl _)).at_ k ys[k] (List.getElem?_eq_getElem hlt)
      subst hA
      have hst := take_rev_succ hlt
      have hst2 := List.take_succ_eq_append_getElem hlt
      have hstH := Lib.hid hst
      have hst2H := Lib.hid hst2
      clear hst hst2
      generalize ys[k] = x at hcell hyk hstH hst2H
      by_cases hx : x.2.2.length % 2 = 0
      · have t1 : ((x.2.2.length : Int) % 2 != 0) = false := by simp; omega
        have hxH := Lib.hid hx
        clear hx
        obtain ⟨A3, c3, rfl, hc3⟩ := own_shape hback
        go_wp2_with (at_builtin; refine wpList_appRow _ rfl _ _ _ rfl _ _ 24 Try.underlying22 infoS rfl w1.heap.size _ 1 (vals [x]) rfl ⟨rfl, .inr ⟨wr.heap.size, 1, _, rfl, hB.size, World.alloc_heap_new _ _, Nat.le_refl _, by simp only [maxLen]; omega, rfl, rfl⟩⟩ _ _ _ _ _ rfl (own_row (hback.alloc _)) (vals_one _) (by simp only [maxLen]; omega) (by omega) (by simp; have := hB.size; omega) ?_; intro v' w' hown' hg hat; have hB' := hB.trans (((Below.refl _ _).alloc hB.size _).grown hg (by simp; have := hB.size; omega) (fun k hk => by cases hk; exact hB.size)); rw [← vals_append] at hown')
        go_roundw
        case rel => exact ⟨k + 1, by omega, by go_num, by rw [hstH.out, Nat.add_comm]; exact hown', hB', Lib.hid (by rw [hst2H.out]; intro y hy; rcases List.mem_append.1 hy with h | h; exact hev.out y h; simp at h; rw [h]; exact hxH.out)⟩
        case measure => simp [intOf]; omega
      · have t1 : ((x.2.2.length : Int) % 2 != 0) = true := by simp; omega
        clear hx
        go_wp2_with fail
        refine (alive_any _).mono ?_
        rintro e w6 ⟨rfl, hb6⟩
        go_wp2
        go_ret
        exact ⟨rfl, (hB1.trans (hB.mono hs1)).trans (hb6.mono (Nat.le_trans hs1 hB.size))⟩
    · obtain rfl : k = ys.length := by omega
      rw [List.take_length] at hback hev
      obtain ⟨A3, c3, rfl, hc3⟩ := own_shape hback
      have hownl := own_below hown hB
      have hWr := hB1.trans (hB.mono hs1)
      have hsr := hWr.size
      clear hP
      go_wp2_with fail
      refine (cut_any _ _ _ _ _ ((h2.below hWr (Nat.le_refl _)).more hsr)).mono ?_
      rintro e w2 ⟨rfl, yl, rfl⟩
      have hxl : ∃ x2 : Sl, x2 = (A2, c2, cutS l2) := ⟨_, rfl⟩
      obtain ⟨zs, hzs⟩ : ∃ zs, ys ++ [((A2, c2, cutS l2) : Sl)] = zs := ⟨_, rfl⟩
      obtain ⟨zr, hzr⟩ : ∃ zr, ys.reverse ++ [((A2, c2, cutS l2) : Sl)] = zr := ⟨_, rfl⟩
      have hl1 : ys.length + 1 = zs.length := by rw [← hzs]; simp
      have hl2 : ys.length + 1 = zr.length := by rw [← hzr]; simp
      have hzsH := Lib.hid hzs
      have hzrH := Lib.hid hzr
      have hl1H := Lib.hid hl1
      have hl2H := Lib.hid hl2
      clear hzs hzr hl1 hl2 hxl
      have hylH := Lib.hid yl
      go_wp2_with (at_builtin; refine wpList_appRow _ rfl _ _ _ rfl _ _ 24 Try.underlying22 infoS rfl _ _ _ _ rfl (hownl.alloc _) _ _ _ _ (vals [(A2, c2, cutS l2)]) rfl (Row.blk (t := 23) (fz := (0, 0)) (Has.newAt rfl) (Nat.le_refl _) rfl rfl) (vals_one _) (by simp only [maxLen]; omega) (by omega) (by simp; omega) ?_; intro v3 w3 hown3 hg3 hat3; have hB3 : Below w.heap.size w w3 := hWr.trans (((Below.refl _ _).alloc hsr _).grown hg3 (by simp; omega) (fun k hk => (hownl.lt k hk).1)); have hbk3 := own_keep2 (hback.alloc _) (ne_new hown hback (Nat.le_refl _)) hg3; rw [← vals_append, hzsH.out, hl1H.out] at hown3; obtain ⟨A5, c5, rfl, hc5⟩ := own_shape hown3)
      have yl0 := h2.cutS
      have hzy : ∀ (B' : Nat) (W' : World), Below w.heap.size w W' → w.heap.size ≤ B' → (∀ x ∈ zs, By B' W' x.1 x.2.2.length x.2.1 x.2.2) ∧ ∀ x ∈ zr, By B' W' x.1 x.2.2.length x.2.1 x.2.2 := fun B' W' hW hB' => by
        have key : ∀ x, x ∈ ys ∨ x = (A2, c2, cutS l2) → By B' W' x.1 x.2.2.length x.2.1 x.2.2 := fun x hx => by
          rcases hx with hx | rfl
          · exact ((hyH.out x hx).below hW (Nat.le_refl _)).more hB'
          · exact (yl0.below hW (Nat.le_refl _)).more hB'
        refine ⟨fun x hx => key x ?_, fun x hx => key x ?_⟩
        · rw [← hzsH.out] at hx; simpa using hx
        · rw [← hzrH.out] at hx; simpa using hx
      have hzyH := Lib.hid hzy
      clear hzy
      have hs3 := hB3.size
      have hP3 := Parts.own hown3 hc5 (Nat.le_refl _) (hzyH.out _ _ hB3 hs3).1
      have hr1 := hP3.rng
      refine (fold_any _ _ _ _ hP3).mono ?_
      rintro e w4 ⟨rfl, hb4⟩
      have hbk4 := own_below hbk3 hb4
      have hB4 := hB3.trans (hb4.mono hs3)
      have hs4 := hB4.size
      have hb14 : w1.heap.size ≤ w4.heap.size := by have e1 := hB.size; have e2 := hg3.size; have e3 := hb4.size; rw [World.size_alloc] at e2; omega
      clear hbk3 hP3 hown3 hg3 hat3
      go_wp2_with fail
      refine (cut_any _ _ _ _ _ ((h2.below hB4 (Nat.le_refl _)).more hs4)).mono ?_
      rintro e w5 ⟨rfl, yl5, rfl⟩
      go_wp2_with (at_builtin; refine wpList_appRow _ rfl _ _ _ rfl _ _ 24 Try.underlying22 infoS rfl _ _ _ _ rfl (hbk4.alloc _) _ _ _ _ (vals [(A2, c2, cutS l2)]) rfl (Row.blk (t := 23) (fz := (0, 0)) (Has.newAt rfl) (Nat.le_refl _) rfl rfl) (vals_one _) (by simp only [maxLen]; omega) (by omega) (by simp; omega) ?_; intro v6 w6 hown6 hg6 hat6; have hB6 : Below w.heap.size w w6 := hB4.trans (((Below.refl _ _).alloc hs4 _).grown hg6 (by simp; omega) (fun k hk => by have := (hbk4.lt k hk).1; omega)); rw [← vals_append, hzrH.out, hl2H.out] at hown6; obtain ⟨A7, c7, rfl, hc7⟩ := own_shape hown6)
      have hP6 := Parts.own hown6 hc7 (Nat.le_refl _) (hzyH.out _ _ hB6 hB6.size).2
      have hr2 := hP6.rng
      refine (fold_any _ _ _ _ hP6).mono ?_
      rintro e w7 ⟨rfl, hb7⟩
      have hB7 := hB6.trans (hb7.mono hB6.size)
      have law : sumw (flat zr) = sumw (flat zs) := by
        rw [← hzsH.out] at hr1 ⊢
        rw [← hzrH.out] at hr2 ⊢
        exact order_law ys hev.out _ hr1 hr2
      rw [law]
      clear law
      generalize sumw (flat zs) = q
      go_wp2_with fail
      refine (alive_any _).mono ?_
      rintro e w8 ⟨rfl, hb8⟩
      go_wp2
      go_ret
      exact ⟨rfl, hB7.trans (hb8.mono hB7.size)⟩
end Go.Proofs.Ytiplnjpgaiibhaa
