/-
  What an argument that is a row of options is to the walks.
-/
import Derived.Test.YtfkcejfjmfliaaaRowKit4
import Derived.Test.YtfkcejfjmfliaaaOpt
namespace Go.Proofs.Ytfkcejfjmfliaaa
open Go.ChangeShapes Go.WideShapes Go.ChangeAt Go.RowKit

section
variable {H : Type} {enc : TypeId × Value → H} {W : World} {base : Nat} {spare : Nat → Bool} {held : Bool}
theorem cell_opt {fuel : Nat} {cs : List Value} {x : DataW H × List MemPlace} (hf : DataW.trod enc Try.prog W base spare held fuel 64 cs = some x) :
    ∃ p : Kd, cs = [.int .u8 p.1, kdV p] ∧ 0 ≤ p.1 ∧ p.1 ≤ 255 ∧ By W.heap.size W p.2.1 p.2.2.2.length p.2.2.1 p.2.2.2 := by
  have ht := Try.underlying64
  have hlen : cs.length = 2 := (struct_len ht hf).trans (by kernel_rfl)
  have hk : ∃ m, _ := field_at ht hf
  obtain ⟨m, g⟩ := hk
  obtain ⟨c0, c1, hcs⟩ : ∃ a b, cs = [a, b] := by
    match cs, hlen with
    | [a, b], _ => exact ⟨a, b, rfl⟩
  have g : ∀ (i : Nat) (f : Field) (n : Nat), _ → _ → ∃ y, DataW.trod enc Try.prog W base spare held m f.type (([c0, c1].drop f.offset).take n) = some y := hcs ▸ g
  obtain ⟨y0, e0⟩ := g 0 _ 1 rfl (by kernel_rfl)
  obtain ⟨y1, e1⟩ := g 1 _ 1 rfl (by kernel_rfl)
  obtain ⟨k, q0, _, w0⟩ := DataW.trod_int Try.underlying5 e0
  have k0 : c0 = .int .u8 k := one_eq q0
  obtain ⟨lA, lc, l, q1, z1⟩ := cell_bytes Try.underlying25 Try.underlying5 (by kernel_rfl) e1
  have k1 : c1 = .slice lA l.length lc := one_eq q1
  subst k0 k1
  have b0 := bounds_u8 w0
  exact ⟨(k, lA, lc, l), hcs, by omega, by omega, z1⟩
theorem open_opts {v : Value} {d : DataW H} {p : List MemPlace} {r : Reach} {b0 : Nat} (hv : Value.okWide Try.prog W r b0 45 v) (h : DataW.Trod enc Try.prog W base spare held 45 v d p) :
    ∃ A c ps, v = .slice A (List.length ps) c ∧ Kds W.heap.size W A ps.length c ps := by
  have ht := Try.underlying45
  obtain ⟨a, len, cap, rfl⟩ := okWide_slice ht hv
  obtain ⟨fuel, hf⟩ := h
  have hce : (Try.prog).cellsOf 64 = 2 := by kernel_rfl
  rcases Go.Deep.open_slice ht hf with ⟨hcs, _⟩ | ⟨a', len', cap', m, n, D, Pl, hcs, _, hl, hm, hmm, _, hi⟩
  · simp [Value.cells] at hcs
    obtain ⟨rfl, rfl, rfl⟩ := hcs
    exact ⟨none, 0, [], rfl, Kds.nil _ _⟩
  · simp [Value.cells] at hcs
    obtain ⟨rfl, rfl, rfl⟩ := hcs
    have hml : len ≤ m := by rw [hmm]; split <;> omega
    rw [hce] at hi
    have hel : ∀ i : Nat, ∃ x : Kd, i < m → W.cell? (a'.add (i * 2)) = some (.int .u8 x.1) ∧ W.cell? ((a'.add (i * 2)).add 1) = some (kdV x) ∧ 0 ≤ x.1 ∧ x.1 ≤ 255 ∧ By W.heap.size W x.2.1 x.2.2.2.length x.2.2.1 x.2.2.2 := fun i => by
      by_cases hlt : i < m
      · obtain ⟨cs', hcs', htr⟩ := hi i hlt
        obtain ⟨_, hlen, hat⟩ := World.cells?_some hcs'
        obtain ⟨x, rfl, r0, r1, hy⟩ := cell_opt htr
        refine ⟨x, fun _ => ⟨?_, ?_, r0, r1, hy⟩⟩
        · have := hat 0 (by omega)
          simpa [Addr.add] using this
        · have := hat 1 (by omega)
          simpa [Addr.add] using this
      · exact ⟨(0, none, 0, []), fun h => absurd h hlt⟩
    let f : Nat → Kd := fun i => Classical.choose (hel i)
    have hf' : ∀ i, i < m → W.cell? (a'.add (i * 2)) = some (.int .u8 (f i).1) ∧ W.cell? ((a'.add (i * 2)).add 1) = some (kdV (f i)) ∧ 0 ≤ (f i).1 ∧ (f i).1 ≤ 255 ∧ By W.heap.size W (f i).2.1 (f i).2.2.2.length (f i).2.2.1 (f i).2.2.2 := fun i => Classical.choose_spec (hel i)
    have hlen : ((List.range len).map f).length = len := by simp
    refine ⟨some a', cap, (List.range len).map f, by rw [hlen], ?_⟩
    rw [hlen]
    refine ⟨hlen, hl, hm, fun k x hk => ?_⟩
    have hkl : k < len := by have := (List.getElem?_eq_some_iff.1 hk).1; omega
    obtain rfl : f k = x := by simpa [hkl] using hk
    obtain ⟨hck, hck1, hr0, hr1, hyk⟩ := hf' k (by omega)
    obtain ⟨b, off, spot⟩ := a'
    have hspot : spot = none := by
      have := World.cell?_spot (hf' 0 (by omega)).1
      simpa [Addr.add] using this
    subst hspot
    rw [add_plain] at hck hck1
    rw [add_plain] at hck1
    exact ⟨b, off, rfl, World.block_lt_of_cell? W _ hck, hck, hck1, hr0, hr1, hyk⟩
end
end Go.Proofs.Ytfkcejfjmfliaaa
