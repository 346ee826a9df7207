/-
  What an argument that reads as data is to the walks: bytes, rows of bytes, arrays of bytes, whole numbers.
-/
import Derived.Test.YtndmmkadceobjaaRows
import Derived.Test.YtndmmkadceobjaaMem
import Derived.WalkKit
import Derived.ProofKit
import Derived.OpenShut
import Derived.ShutString
import Derived.ChangeOld
import Derived.Below
import Derived.Deep.Slices
namespace Go.Proofs.Ytndmmkadceobjaa
open Go.ChangeShapes Go.WideShapes Go.ChangeAt Go.RowKit

section
variable {H : Type} {enc : TypeId × Value → H} {P : Program} {W : World} {base : Nat} {spare : Nat → Bool} {held : Bool}

theorem cell_bytes {t e : TypeId} {fuel : Nat} {cs : List Value} {x : DataW H × List MemPlace} (ht : P.underlying t = some (.slice e)) (he : P.underlying e = some (.int .u8)) (hc : P.cellsOf e = 1)
    (h : DataW.trod enc P W base spare held fuel t cs = some x) : ∃ A c l, cs = [.slice A (List.length l) c] ∧ By W.heap.size W A l.length c l := by
  rcases open_ints ht he hc h with ⟨rfl, _⟩ | ⟨a, len, cap, zs, rfl, _, hl, hm, hz, _, hcell, hwz⟩
  · exact ⟨none, 0, [], rfl, By.nil _ _ _ (by omega)⟩
  · have hzl : len ≤ zs.length := by rw [hz]; split <;> omega
    have hlen : (zs.take len).length = len := by rw [List.length_take]; omega
    refine ⟨some a, cap, zs.take len, by rw [hlen], ?_⟩
    rw [hlen]
    refine ⟨⟨by rw [u8s_length, hlen], hl, fun hp => ?_⟩, fun y hy => bounds_u8 (hwz y (List.mem_of_mem_take hy)), hm⟩
    obtain ⟨b, off, rfl, hc'⟩ := ints_at hcell (by omega)
    refine ⟨b, off, rfl, World.block_lt_of_cell? W _ (hc' 0 (by omega)), fun j hj => ?_⟩
    rw [hc' j (by omega)]
    have hj' : j < zs.length := by omega
    simp [u8s, List.getElem?_take, hj, List.getElem?_eq_getElem hj']

theorem open_bytes {t e : TypeId} {v : Value} {d : DataW H} {p : List MemPlace} {r : Reach} {b0 : Nat} (ht : P.underlying t = some (.slice e)) (he : P.underlying e = some (.int .u8)) (hc : P.cellsOf e = 1)
    (hv : Value.okWide P W r b0 t v) (h : DataW.Trod enc P W base spare held t v d p) : ∃ A c l, v = .slice A (List.length l) c ∧ By W.heap.size W A l.length c l := by
  obtain ⟨a, len, cap, rfl⟩ := okWide_slice ht hv
  obtain ⟨fuel, hf⟩ := h
  obtain ⟨A, c, l, hcs, hy⟩ := cell_bytes ht he hc hf
  simp [Value.cells] at hcs
  obtain ⟨rfl, rfl, rfl⟩ := hcs
  exact ⟨_, _, l, rfl, hy⟩

theorem open_parts {t e e2 : TypeId} {v : Value} {d : DataW H} {p : List MemPlace} {r : Reach} {b0 : Nat} (ht : P.underlying t = some (.slice e)) (he : P.underlying e = some (.slice e2)) (hc : P.cellsOf e = 1) (he2 : P.underlying e2 = some (.int .u8)) (hc2 : P.cellsOf e2 = 1)
    (hv : Value.okWide P W r b0 t v) (h : DataW.Trod enc P W base spare held t v d p) : ∃ A c xs, v = .slice A (List.length xs) c ∧ Parts W.heap.size W A xs.length c xs := by
  obtain ⟨a, len, cap, rfl⟩ := okWide_slice ht hv
  obtain ⟨fuel, hf⟩ := h
  rcases Go.Deep.open_slice ht hf with ⟨hcs, _⟩ | ⟨a', len', cap', m, n, D, Pl, hcs, _, hl, hm, hmm, _, hi⟩
  · simp [Value.cells] at hcs
    obtain ⟨rfl, rfl, rfl⟩ := hcs
    exact ⟨none, 0, [], rfl, rfl, Nat.le_refl _, by omega, fun k x hk => by simp at hk⟩
  · simp [Value.cells] at hcs
    obtain ⟨rfl, rfl, rfl⟩ := hcs
    have hml : len ≤ m := by rw [hmm]; split <;> omega
    have hel : ∀ i : Nat, ∃ x : Sl, i < m → W.cell? (a'.add i) = some (.slice x.1 x.2.2.length x.2.1) ∧ By W.heap.size W x.1 x.2.2.length x.2.1 x.2.2 := fun i => by
      by_cases hlt : i < m
      · obtain ⟨cs', hcs', htr⟩ := hi i hlt
        obtain ⟨_, hlen, hat⟩ := World.cells?_some hcs'
        obtain ⟨A, c, l, rfl, hy⟩ := cell_bytes he he2 hc2 htr
        refine ⟨(A, c, l), fun _ => ⟨?_, hy⟩⟩
        have := hat 0 (by omega)
        rw [hc, Nat.mul_one] at this
        simpa [Addr.add] using this
      · exact ⟨(none, 0, []), fun h => absurd h hlt⟩
    let f : Nat → Sl := fun i => Classical.choose (hel i)
    have hf' : ∀ i, i < m → W.cell? (a'.add i) = some (.slice (f i).1 (f i).2.2.length (f i).2.1) ∧ By W.heap.size W (f i).1 (f i).2.2.length (f i).2.1 (f i).2.2 := fun i => Classical.choose_spec (hel i)
    have hlen : ((List.range len).map f).length = len := by simp
    refine ⟨some a', cap, (List.range len).map f, by rw [hlen], ?_⟩
    rw [hlen]
    refine ⟨hlen, hl, hm, fun k x hk => ?_⟩
    have hkl : k < len := by have := (List.getElem?_eq_some_iff.1 hk).1; omega
    obtain rfl : f k = x := by simpa [hkl] using hk
    obtain ⟨hck, hyk⟩ := hf' k (by omega)
    obtain ⟨b, off, spot⟩ := a'
    have hspot : spot = none := by
      have := World.cell?_spot (hf' 0 (by omega)).1
      simpa [Addr.add] using this
    subst hspot
    rw [add_plain] at hck
    exact ⟨b, off, rfl, World.block_lt_of_cell? W _ hck, hck, hyk⟩

theorem trod_u8s {t e : TypeId} {n fuel : Nat} {cs : List Value} {x : DataW H × List MemPlace} (ht : P.underlying t = some (.array n e)) (he : P.underlying e = some (.int .u8)) (hc : P.cellsOf e = 1) (hc2 : P.cellsOf t = n)
    (h : DataW.trod enc P W base spare held fuel t cs = some x) : ∃ l, cs = u8s l ∧ List.length l = n ∧ InB l := by
  obtain ⟨xs, m, _, _, hlen, hxl, hi⟩ := DataW.trod_array ht h
  have hel : ∀ i : Nat, i < n → ∃ y : Int, cs[i]? = some (.int .u8 y) ∧ 0 ≤ y ∧ y ≤ 255 := fun i hin => by
    have h1 := hi i hin
    rw [List.getElem?_eq_getElem (by omega)] at h1
    obtain ⟨y, hy, _, hwf⟩ := DataW.trod_int he h1
    rw [hc, Nat.mul_one] at hy
    refine ⟨y, ?_, bounds_u8 hwf⟩
    have hd : cs.drop i = cs[i]'(by omega) :: cs.drop (i + 1) := List.drop_eq_getElem_cons (by omega)
    rw [hd, List.take_succ_cons, List.take_zero] at hy
    injection hy with hy _
    rw [List.getElem?_eq_getElem (by omega), hy]
  have key : ∀ cs : List Value, (∀ i, i < cs.length → ∃ y : Int, cs[i]? = some (.int .u8 y) ∧ 0 ≤ y ∧ y ≤ 255) → ∃ l, cs = u8s l ∧ InB l := fun cs => by
    induction cs with
    | nil => exact fun _ => ⟨[], rfl, InB.nil⟩
    | cons c cs ih =>
      intro h
      obtain ⟨y, hy, hy0⟩ := h 0 (by simp)
      obtain ⟨l, rfl, hl⟩ := ih (fun i hi => by
        obtain ⟨z, hz, hz0⟩ := h (i + 1) (by simp; omega)
        exact ⟨z, by simpa using hz, hz0⟩)
      refine ⟨y :: l, by simp at hy; simp [u8s, hy], fun z hz => ?_⟩
      rcases List.mem_cons.1 hz with rfl | hz
      · exact hy0
      · exact hl z hz
  obtain ⟨l, rfl, hl⟩ := key cs (fun i hi => hel i (by omega))
  exact ⟨l, rfl, by rw [← hc2, ← hlen, u8s_length], hl⟩

theorem open_arr {t e : TypeId} {n : Nat} {v : Value} {d : DataW H} {p : List MemPlace} {r : Reach} {b0 : Nat} (ht : P.underlying t = some (.array n e)) (he : P.underlying e = some (.int .u8)) (hc : P.cellsOf e = 1) (hc2 : P.cellsOf t = n)
    (hv : Value.okWide P W r b0 t v) (h : DataW.Trod enc P W base spare held t v d p) : ∃ l, v = .agg (u8s l).toArray ∧ List.length l = n ∧ InB l := by
  simp only [Value.okWide, ht] at hv
  obtain ⟨cs, rfl, _⟩ := hv
  obtain ⟨fuel, hf⟩ := h
  obtain ⟨l, hl, hn, hr⟩ := trod_u8s ht he hc hc2 hf
  have : cs.toList = u8s l := hl
  exact ⟨l, by rw [← this], hn, hr⟩
theorem open_u16 {t : TypeId} {v : Value} {d : DataW H} {p : List MemPlace} {r : Reach} {b0 : Nat} (ht : P.underlying t = some (.int .u16)) (hv : Value.okWide P W r b0 t v) (h : DataW.Trod enc P W base spare held t v d p) : ∃ n, v = .int .u16 n ∧ 0 ≤ n ∧ n < 65536 := by
  obtain ⟨n, rfl, _, _, hw⟩ := open_int ht hv h
  have := bounds_u16 hw
  exact ⟨n, rfl, by omega, by omega⟩
theorem open_u8 {t : TypeId} {v : Value} {d : DataW H} {p : List MemPlace} {r : Reach} {b0 : Nat} (ht : P.underlying t = some (.int .u8)) (hv : Value.okWide P W r b0 t v) (h : DataW.Trod enc P W base spare held t v d p) : ∃ n, v = .int .u8 n ∧ 0 ≤ n ∧ n ≤ 255 := by
  obtain ⟨n, rfl, _, _, hw⟩ := open_int ht hv h
  have := bounds_u8 hw
  exact ⟨n, rfl, by omega, by omega⟩
theorem open_u32 {t : TypeId} {v : Value} {d : DataW H} {p : List MemPlace} {r : Reach} {b0 : Nat} (ht : P.underlying t = some (.int .u32)) (hv : Value.okWide P W r b0 t v) (h : DataW.Trod enc P W base spare held t v d p) : ∃ n, v = .int .u32 n ∧ 0 ≤ n ∧ n < 4294967296 := by
  obtain ⟨n, rfl, _, _, hw⟩ := open_int ht hv h
  have := bounds_u32 hw
  exact ⟨n, rfl, by omega, by omega⟩
theorem open_i64 {t : TypeId} {v : Value} {d : DataW H} {p : List MemPlace} {r : Reach} {b0 : Nat} (ht : P.underlying t = some (.int .i64)) (hv : Value.okWide P W r b0 t v) (h : DataW.Trod enc P W base spare held t v d p) : ∃ n, v = .int .i64 n ∧ -9223372036854775808 ≤ n ∧ n ≤ 9223372036854775807 := by
  obtain ⟨n, rfl, _, _, hw⟩ := open_int ht hv h
  have := bounds_i64 hw
  exact ⟨n, rfl, by omega, by omega⟩
end
theorem own_ : ownKnob Try.prog.godebug = none := by kernel_rfl
theorem laidOut_ : laidOutB Try.prog = true := by kernel_rfl
end Go.Proofs.Ytndmmkadceobjaa
