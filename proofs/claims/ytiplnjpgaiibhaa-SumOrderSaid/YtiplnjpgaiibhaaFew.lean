/-
  The walk of few: at most twenty parts, each cut off.
-/
import Derived.Test.YtiplnjpgaiibhaaLawSumA
namespace Go.Proofs.Ytiplnjpgaiibhaa
open Go.RowKit Go.Shelf

theorem infoS : (Try.prog.info? 23).map (fun i => (i.zero, i.size, i.bytes)) = some (some (.slice none 0 0), 1, 24) := by kernel_rfl
def vals (xs : List Sl) : List Value := xs.map fun x => Value.slice x.1 x.2.2.length x.2.1
theorem vals_length (xs : List Sl) : (vals xs).length = xs.length := by simp [vals]
theorem vals_append (xs ys : List Sl) : vals (xs ++ ys) = vals xs ++ vals ys := by simp [vals]
theorem vals_one (xs : List Sl) : ∀ u ∈ vals xs, u.oneCell' = true := fun u hu => by obtain ⟨y, _, rfl⟩ := List.mem_map.1 hu; rfl
theorem own_cap {w : World} {base n c : Nat} {e : TypeId} {size : Nat} {A : Option Addr} {vs : List Value} (h : w.ownsRow base e size (.slice A n c) n vs) : c ≤ 9223372036854775807 := by
  obtain ⟨_, _, e, hc⟩ := own_shape h
  injection e with _ _ e
  omega
theorem Parts.own {w : World} {B base c : Nat} {e : TypeId} {A : Option Addr} {xs : List Sl} (h : w.ownsRow base e 1 (.slice A xs.length c) xs.length (vals xs)) (hc : c ≤ 9223372036854775807) (hB : w.heap.size ≤ B) (hy : ∀ x ∈ xs, By B w x.1 x.2.2.length x.2.1 x.2.2) : Parts B w A xs.length c xs := by
  have hr := own_row h
  refine ⟨rfl, hr.cap, hc, fun k x hk => ?_⟩
  have hkl : k < xs.length := (List.getElem?_eq_some_iff.1 hk).1
  obtain ⟨b, off, v, hA, hb, hv, hcell⟩ := hr.get hkl
  refine ⟨b, off, hA, by omega, ?_, hy x (List.mem_of_getElem? hk)⟩
  rw [hcell]
  simpa [vals, hk] using hv.symm

def cut1 (x : Sl) : Sl := (x.1, x.2.1, cutS x.2.2)
def fewS (xs : List Sl) : List Sl := (xs.take 20).map cut1
theorem fewS_le (xs : List Sl) : (fewS xs).length ≤ 20 := by unfold fewS; rw [List.length_map, List.length_take]; omega
theorem flat_few_le (xs : List Sl) : (flat (fewS xs)).length ≤ 60000 := by
  have h : ∀ ys : List Sl, (flat (ys.map cut1)).length ≤ 3000 * ys.length := fun ys => by
    induction ys with
    | nil => simp [flat]
    | cons y ys ih =>
      have := cutS_le y.2.2
      simp only [flat, List.map_cons, List.flatten_cons, List.length_append, List.length_cons, cut1] at ih ⊢
      omega
  have h1 := h (xs.take 20)
  unfold fewS
  have : (xs.take 20).length ≤ 20 := by rw [List.length_take]; omega
  omega

theorem By.cutS {B : Nat} {w : World} {A : Option Addr} {c : Nat} {l : List Int} (h : By B w A l.length c l) : By B w A (cutS l).length c (cutS l) := by
  unfold Proofs.Ytiplnjpgaiibhaa.cutS
  have := h.take (k := (l.take 3000).length) (by rw [List.length_take]; omega)
  rwa [show l.take (l.take 3000).length = l.take 3000 from by rw [List.length_take, List.take_eq_take_iff]; omega] at this

set_option maxHeartbeats 1000000 in
theorem few_any (A : Option Addr) (c : Nat) (xs : List Sl) (w : World) (hI : Parts w.heap.size w A xs.length c xs) :
    Calls Try.prog 11 #[.slice A xs.length c] w fun e w' => ∃ A' c', e = .returned (.slice A' (fewS xs).length c') ∧ w'.ownsRow w.heap.size 23 1 (.slice A' (fewS xs).length c') (fewS xs).length (vals (fewS xs)) ∧ (∀ x ∈ fewS xs, By w.heap.size w x.1 x.2.2.length x.2.1 x.2.2) ∧ Below w.heap.size w w' := by
  have hc63 : xs.length ≤ 9223372036854775807 := by have := hI.cap; have := hI.big; omega
  have hyall : ∀ x ∈ fewS xs, By w.heap.size w x.1 x.2.2.length x.2.1 x.2.2 := fun x hx => by
    obtain ⟨y, hy, rfl⟩ := List.mem_map.1 hx
    obtain ⟨k, hk⟩ := List.mem_iff_getElem?.1 (List.mem_of_mem_take hy)
    obtain ⟨_, _, _, _, _, hby⟩ := hI.at_ k y hk
    exact hby.cutS
  have hyH := Lib.hid hyall
  clear hyall
  go_enter Try.func11, Try.ntmps11
  go_wp2
  go_loopw [3, 4] (fun v i wr => ∃ k : Nat, k ≤ xs.length ∧ k ≤ 20 ∧ i = .int .i64 k ∧ wr.ownsRow w.heap.size 23 1 v k (vals ((xs.take k).map cut1)) ∧ Below w.heap.size w wr) (fun _ i _ => 20 - (intOf i).toNat)
  case atStart => exact ⟨0, Nat.zero_le _, Nat.zero_le _, rfl, World.ownsRow_nil _ _ _ _, Below.refl _ _⟩
  case round =>
    obtain ⟨k, hk, hk20, rfl, hown, hB⟩ := hrel
    by_cases hlt : k < xs.length
    · by_cases h20 : k < 20
      · obtain ⟨b, off, hA, hb, hcell, hy⟩ := (hI.below hB (Nat.le_refl _)).at_ k xs[k] (List.getElem?_eq_getElem hlt)
        subst hA
        have hst : (xs.take (k + 1)).map cut1 = (xs.take k).map cut1 ++ [cut1 xs[k]] := by rw [List.take_succ_eq_append_getElem hlt, List.map_append]; rfl
        have hstH := Lib.hid hst
        clear hst
        generalize xs[k] = x at hcell hy hstH
        go_wp2_with fail
        refine (cut_any _ _ _ _ _ hy).mono ?_
        rintro e w1 ⟨rfl, hy1, rfl⟩
        go_wp2_with (at_builtin; refine wpList_appRow _ rfl _ _ _ rfl _ _ 24 Try.underlying22 infoS rfl _ _ _ _ rfl (hown.alloc _) _ _ _ _ (vals [cut1 x]) rfl (Row.blk (t := 23) (fz := (0, 0)) (Has.newAt rfl) (Nat.le_refl _) rfl rfl) (vals_one _) (by simp only [maxLen]; omega) (by omega) (by simp; have := hB.size; omega) ?_; intro v' w' hown' hg hat; have hB' := hB.trans (((Below.refl _ _).alloc hB.size _).grown hg (by simp; have := hB.size; omega) (fun k hk => (hown.lt k hk).1)))
        go_roundw
        case rel => exact ⟨k + 1, by omega, by omega, by go_num, by rw [hstH.out, vals_append]; exact hown', hB'⟩
        case measure => simp [intOf]; omega
      · obtain rfl : k = 20 := by omega
        have hd : decide ((20 : Int) < 20) = false := rfl
        have hl20 : (fewS xs).length = 20 := by unfold fewS; rw [List.length_map, List.length_take]; omega
        obtain ⟨A', c', rfl, hc'⟩ := own_shape hown
        have hl20H := Lib.hid hl20
        clear hl20
        go_wp2
        go_ret
        exact ⟨A', c', by rw [hl20H.out]; rfl, by rw [hl20H.out]; exact hown, hyH.out, hB⟩
    · obtain rfl : k = xs.length := by omega
      have hfl : fewS xs = xs.map cut1 := by unfold fewS; rw [List.take_of_length_le (by omega)]
      rw [List.take_length] at hown
      obtain ⟨A', c', rfl, hc'⟩ := own_shape hown
      have hflH := Lib.hid hfl
      clear hfl
      go_wp2
      go_ret
      exact ⟨A', c', by rw [hflH.out, List.length_map]; rfl, by rw [hflH.out, List.length_map]; exact hown, hyH.out, hB⟩
end Go.Proofs.Ytiplnjpgaiibhaa
