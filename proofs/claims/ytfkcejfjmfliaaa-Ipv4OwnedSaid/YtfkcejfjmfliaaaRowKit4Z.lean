/-
  How long a slice can be that comes in: the reach of the form.
-/
import Derived.Test.YtfkcejfjmfliaaaRowKit
import Derived.Test.YtfkcejfjmfliaaaRowKit4
import Derived.SizedLaws
namespace Go.Proofs.Ytfkcejfjmfliaaa
open Go.ChangeShapes Go.WideShapes Go.ChangeAt Go.RowKit

section
variable {H : Type} {enc : TypeId × Value → H} {W : World} {base : Nat} {spare : Nat → Bool} {held : Bool}
theorem slice_reach {P : Program} {t e : TypeId} {fuel : Nat} {cs : List Value} {x : DataW H × List MemPlace} (ht : P.underlying t = some (.slice e)) (h : DataW.trod enc P W base spare held fuel t cs = some x) {A : Option Addr} {n c R : Nat} (hcs : cs = [.slice A n c]) (hw : ∀ k ∈ x.1.weights P t, k ≤ R) (hb : P.bytesOf e = 1) : n ≤ R := by
  rcases DataW.trod_slice ht h with ⟨h1, _⟩ | ⟨a, len, cap, elems, rest, m, _, h1, h2, _, _, _, hl, _⟩
  · rw [hcs] at h1
    injection h1 with h1
    injection h1 with _ h1 _
    omega
  · rw [hcs] at h1
    injection h1 with h1
    injection h1 with _ h1 _
    subst h2
    have := hw ((elems.length + rest.length) * P.bytesOf e) (by simp [DataW.weights, ht])
    rw [hb] at this
    omega
theorem u8s_cells1 : Try.prog.cellsOf 25 = 1 := by kernel_rfl
theorem u8s_bytes1 : Try.prog.bytesOf 5 = 1 := by kernel_rfl
theorem bytes_reach {A : Option Addr} {n c : Nat} {d : DataW H} {p : List MemPlace} (h : DataW.Trod enc Try.prog W base spare held 25 (.slice A n c) d p) {R : Nat} (hw : ∀ k ∈ d.weights Try.prog 25, k ≤ R) : n ≤ R := by
  obtain ⟨fuel, hf⟩ := h
  exact slice_reach (x := (d, p)) Try.underlying25 hf rfl hw u8s_bytes1
set_option maxRecDepth 100000 in
theorem v4_reach {D : D4} {p' : W4} {d : DataW H} {p : List MemPlace} (h : DataW.Trod enc Try.prog W base spare held 27 (.agg (D.cells p')) d p) {R : Nat} (hw : ∀ k ∈ d.weights Try.prog 27, k ≤ R) : D.ol.length ≤ R ∧ D.bl.length ≤ R := by
  have ht := Try.underlying27
  obtain ⟨fuel, hf⟩ := h
  obtain ⟨xs, m, _, hx, _, hxl, hi⟩ := DataW.trod_struct ht hf
  have hd : d = .agg (xs.map (·.1)) := congrArg (·.1) hx
  subst hd
  have hl : xs.length = 11 := hxl.trans (by kernel_rfl)
  have e9 := hi 9 _ rfl
  have e10 := hi 10 _ rfl
  rw [List.getElem?_eq_getElem (by omega)] at e9 e10
  have c9 : (((Value.agg (D.cells p')).cells.toList).drop 15).take (Try.prog.cellsOf 25) = [.slice p'.oA D.ol.length p'.oc] := by rw [u8s_cells1]; rfl
  have c10 : (((Value.agg (D.cells p')).cells.toList).drop 16).take (Try.prog.cellsOf 25) = [.slice p'.bA D.bl.length p'.bc] := by rw [u8s_cells1]; rfl
  refine ⟨slice_reach Try.underlying25 e9 c9 (fun k hk => hw k ?_) u8s_bytes1, slice_reach Try.underlying25 e10 c10 (fun k hk => hw k ?_) u8s_bytes1⟩
  · unfold DataW.weights
    rw [ht]
    exact DataW.weights_mem_each (j := 9) (t := 25) rfl (by rw [List.getElem?_map, List.getElem?_eq_getElem (by omega)]; rfl) k hk
  · unfold DataW.weights
    rw [ht]
    exact DataW.weights_mem_each (j := 10) (t := 25) rfl (by rw [List.getElem?_map, List.getElem?_eq_getElem (by omega)]; rfl) k hk
end
end Go.Proofs.Ytfkcejfjmfliaaa
