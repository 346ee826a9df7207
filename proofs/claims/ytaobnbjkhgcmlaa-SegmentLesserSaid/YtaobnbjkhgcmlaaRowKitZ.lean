/-
  How long an argument's bytes can be: the form's own reach.
-/
import Derived.Test.YtaobnbjkhgcmlaaRowKit6
import Derived.SizedLaws
namespace Go.Proofs.Ytaobnbjkhgcmlaa
open Go.ChangeShapes Go.WideShapes Go.ChangeAt Go.RowKit

section
variable {H : Type} {enc : TypeId × Value → H} {W : World} {base : Nat} {spare : Nat → Bool} {held : Bool}
theorem slice_reach {P : Program} {t e : TypeId} {fuel : Nat} {cs : List Value} {x : DataW H × List MemPlace} (ht : P.underlying t = some (.slice e)) (h : DataW.trod enc P W base spare held fuel t cs = some x) {A : Option Addr} {n c R : Nat} (hcs : cs = [.slice A n c]) (hw : ∀ k ∈ x.1.weights P t, k ≤ R) (hb : P.bytesOf e = 1) : n ≤ R := by
  rcases DataW.trod_slice ht h with ⟨h1, _⟩ | ⟨a, len, cap, elems, rest, m, _, h1, h2, _, _, _, hl, _⟩
  · rw [hcs] at h1
    injection h1 with h1
    injection h1 with _ h1 _
    omega
  · rw [hcs] at h1
    injection h1 with h1
    injection h1 with _ h1 _
    subst h2
    have := hw ((elems.length + rest.length) * P.bytesOf e) (by simp [DataW.weights, ht])
    rw [hb] at this
    omega
theorem tcp_cells1 : Try.prog.cellsOf 24 = 1 := by kernel_rfl
theorem tcp_bytes1 : Try.prog.bytesOf 5 = 1 := by kernel_rfl
set_option maxRecDepth 100000 in
theorem tcp_reach {D : DT} {p' : WT} {d : DataW H} {p : List MemPlace} (h : DataW.Trod enc Try.prog W base spare held 26 (.agg (D.cells p')) d p) {R : Nat} (hw : ∀ k ∈ d.weights Try.prog 26, k ≤ R) : D.ol.length ≤ R ∧ D.bl.length ≤ R := by
  have ht := Try.underlying26
  obtain ⟨fuel, hf⟩ := h
  obtain ⟨xs, m, _, hx, _, hxl, hi⟩ := DataW.trod_struct ht hf
  have hd : d = .agg (xs.map (·.1)) := congrArg (·.1) hx
  subst hd
  have hl : xs.length = 9 := hxl.trans (by kernel_rfl)
  have e7 := hi 7 _ rfl
  have e8 := hi 8 _ rfl
  rw [List.getElem?_eq_getElem (by omega)] at e7 e8
  have c7 : (((Value.agg (D.cells p')).cells.toList).drop 7).take (Try.prog.cellsOf 24) = [.slice p'.oA D.ol.length p'.oc] := by rw [tcp_cells1]; rfl
  have c8 : (((Value.agg (D.cells p')).cells.toList).drop 8).take (Try.prog.cellsOf 24) = [.slice p'.bA D.bl.length p'.bc] := by rw [tcp_cells1]; rfl
  refine ⟨slice_reach Try.underlying24 e7 c7 (fun k hk => hw k ?_) tcp_bytes1, slice_reach Try.underlying24 e8 c8 (fun k hk => hw k ?_) tcp_bytes1⟩
  · unfold DataW.weights
    rw [ht]
    exact DataW.weights_mem_each (j := 7) (t := 24) rfl (by rw [List.getElem?_map, List.getElem?_eq_getElem (by omega)]; rfl) k hk
  · unfold DataW.weights
    rw [ht]
    exact DataW.weights_mem_each (j := 8) (t := 24) rfl (by rw [List.getElem?_map, List.getElem?_eq_getElem (by omega)]; rfl) k hk
end
end Go.Proofs.Ytaobnbjkhgcmlaa
