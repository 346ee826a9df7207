/-
  The walks of icmp's and the reference's small functions: Kind4, Kind6, Ident, WithIdent, Same.
-/
import Derived.Test.YtgigdaemecokbaaRRRIcA
import Derived.Test.YtgigdaemecokbaaRRRReg
namespace Go.Proofs.YtgigdaemecokbaaRRR
open Go.RowKit Go.Shelf

def One7 (x : Int) (e : Ending) : Prop := ∃ q : Int, e = .returned (.int .i64 q) ∧ Hid (q = x)
theorem One7.mk {x q : Int} (h : q = x) : One7 x (.returned (.int .i64 q)) := ⟨q, rfl, Lib.hid h⟩
def same7 (d d' : D7) : Bool := decide (d.ty = d'.ty ∧ d.code = d'.code ∧ d.rest = d'.rest ∧ d.bl = d'.bl)

theorem kind4_any (d : D7) (A : Option Addr) (c : Nat) (w : World) :
    Calls Try.prog 8 #[.agg (d.cells A c)] w fun e w' => One7 (kind4 d.ty d.code) e ∧ Below w.heap.size w w' := by
  have hB : Below w.heap.size w (w.alloc (.cells (d.cells A c) 25)) := (Below.refl _ _).alloc (Nat.le_refl _) _
  obtain ⟨ty, code, rest, bl⟩ := d
  unfold D7.cells at *
  simp only at *
  by_cases h8 : ty = 8
  · subst h8
    go_enter Try.func8, Try.ntmps8
    go_wp2
    go_ret
    exact ⟨One7.mk (by simp [kind4]), hB⟩
  · skip
    by_cases h0 : ty = 0
    · subst h0
      go_enter Try.func8, Try.ntmps8
      go_wp2
      go_ret
      exact ⟨One7.mk (by simp [kind4]), hB⟩
    · skip
      by_cases h3 : ty = 3
      · subst h3
        by_cases hc : code = 4
        · subst hc
          go_enter Try.func8, Try.ntmps8
          go_wp2
          go_ret
          exact ⟨One7.mk (by simp [kind4]), hB⟩
        · have e : kind4 3 code = 3 := by simp [kind4, hc]
          go_enter Try.func8, Try.ntmps8
          go_wp2
          go_ret
          exact ⟨One7.mk e.symm, hB⟩
      · skip
        by_cases h11 : ty = 11
        · subst h11
          go_enter Try.func8, Try.ntmps8
          go_wp2
          go_ret
          exact ⟨One7.mk (by simp [kind4]), hB⟩
        · skip
          by_cases h12 : ty = 12
          · subst h12
            go_enter Try.func8, Try.ntmps8
            go_wp2
            go_ret
            exact ⟨One7.mk (by simp [kind4]), hB⟩
          · skip
            have e : kind4 ty code = 0 := by simp [kind4, h8, h0, h3, h11, h12]
            have eH := Lib.hid e
            clear e
            go_enter Try.func8, Try.ntmps8
            go_wp2
            go_ret
            exact ⟨One7.mk eH.out.symm, hB⟩

theorem rkind4_any (d : D7) (A : Option Addr) (c : Nat) (w : World) :
    Calls Try.prog 9 #[.agg (d.cells A c)] w fun e w' => One7 (kind4 d.ty d.code) e ∧ Below w.heap.size w w' := by
  have hB : Below w.heap.size w (w.alloc (.cells (d.cells A c) 25)) := (Below.refl _ _).alloc (Nat.le_refl _) _
  obtain ⟨ty, code, rest, bl⟩ := d
  unfold D7.cells at *
  simp only at *
  by_cases h8 : ty = 8
  · subst h8
    go_enter Try.func9, Try.ntmps9
    go_wp2
    go_ret
    exact ⟨One7.mk (by simp [kind4]), hB⟩
  · skip
    by_cases h0 : ty = 0
    · subst h0
      go_enter Try.func9, Try.ntmps9
      go_wp2
      go_ret
      exact ⟨One7.mk (by simp [kind4]), hB⟩
    · skip
      by_cases h3 : ty = 3
      · subst h3
        by_cases hc : code = 4
        · subst hc
          go_enter Try.func9, Try.ntmps9
          go_wp2
          go_ret
          exact ⟨One7.mk (by simp [kind4]), hB⟩
        · have e : kind4 3 code = 3 := by simp [kind4, hc]
          go_enter Try.func9, Try.ntmps9
          go_wp2
          go_ret
          exact ⟨One7.mk e.symm, hB⟩
      · skip
        by_cases h11 : ty = 11
        · subst h11
          go_enter Try.func9, Try.ntmps9
          go_wp2
          go_ret
          exact ⟨One7.mk (by simp [kind4]), hB⟩
        · skip
          by_cases h12 : ty = 12
          · subst h12
            go_enter Try.func9, Try.ntmps9
            go_wp2
            go_ret
            exact ⟨One7.mk (by simp [kind4]), hB⟩
          · skip
            have e : kind4 ty code = 0 := by simp [kind4, h8, h0, h3, h11, h12]
            have eH := Lib.hid e
            clear e
            go_enter Try.func9, Try.ntmps9
            go_wp2
            go_ret
            exact ⟨One7.mk eH.out.symm, hB⟩

theorem kind6_any (d : D7) (A : Option Addr) (c : Nat) (w : World) :
    Calls Try.prog 10 #[.agg (d.cells A c)] w fun e w' => One7 (kind6 d.ty) e ∧ Below w.heap.size w w' := by
  have hB : Below w.heap.size w (w.alloc (.cells (d.cells A c) 25)) := (Below.refl _ _).alloc (Nat.le_refl _) _
  obtain ⟨ty, code, rest, bl⟩ := d
  unfold D7.cells at *
  simp only at *
  by_cases h128 : ty = 128
  · subst h128
    go_enter Try.func10, Try.ntmps10
    go_wp2
    go_ret
    exact ⟨One7.mk (by simp [kind6]), hB⟩
  · skip
    by_cases h129 : ty = 129
    · subst h129
      go_enter Try.func10, Try.ntmps10
      go_wp2
      go_ret
      exact ⟨One7.mk (by simp [kind6]), hB⟩
    · skip
      by_cases h1 : ty = 1
      · subst h1
        go_enter Try.func10, Try.ntmps10
        go_wp2
        go_ret
        exact ⟨One7.mk (by simp [kind6]), hB⟩
      · skip
        by_cases h2 : ty = 2
        · subst h2
          go_enter Try.func10, Try.ntmps10
          go_wp2
          go_ret
          exact ⟨One7.mk (by simp [kind6]), hB⟩
        · skip
          by_cases h3 : ty = 3
          · subst h3
            go_enter Try.func10, Try.ntmps10
            go_wp2
            go_ret
            exact ⟨One7.mk (by simp [kind6]), hB⟩
          · skip
            by_cases h4 : ty = 4
            · subst h4
              go_enter Try.func10, Try.ntmps10
              go_wp2
              go_ret
              exact ⟨One7.mk (by simp [kind6]), hB⟩
            · skip
              have e : kind6 ty = 0 := by simp [kind6, h128, h129, h1, h2, h3, h4]
              have eH := Lib.hid e
              clear e
              go_enter Try.func10, Try.ntmps10
              go_wp2
              go_ret
              exact ⟨One7.mk eH.out.symm, hB⟩

theorem rkind6_any (d : D7) (A : Option Addr) (c : Nat) (w : World) :
    Calls Try.prog 11 #[.agg (d.cells A c)] w fun e w' => One7 (kind6 d.ty) e ∧ Below w.heap.size w w' := by
  have hB : Below w.heap.size w (w.alloc (.cells (d.cells A c) 25)) := (Below.refl _ _).alloc (Nat.le_refl _) _
  obtain ⟨ty, code, rest, bl⟩ := d
  unfold D7.cells at *
  simp only at *
  by_cases h128 : ty = 128
  · subst h128
    go_enter Try.func11, Try.ntmps11
    go_wp2
    go_ret
    exact ⟨One7.mk (by simp [kind6]), hB⟩
  · skip
    by_cases h129 : ty = 129
    · subst h129
      go_enter Try.func11, Try.ntmps11
      go_wp2
      go_ret
      exact ⟨One7.mk (by simp [kind6]), hB⟩
    · skip
      by_cases h1 : ty = 1
      · subst h1
        go_enter Try.func11, Try.ntmps11
        go_wp2
        go_ret
        exact ⟨One7.mk (by simp [kind6]), hB⟩
      · skip
        by_cases h2 : ty = 2
        · subst h2
          go_enter Try.func11, Try.ntmps11
          go_wp2
          go_ret
          exact ⟨One7.mk (by simp [kind6]), hB⟩
        · skip
          by_cases h3 : ty = 3
          · subst h3
            go_enter Try.func11, Try.ntmps11
            go_wp2
            go_ret
            exact ⟨One7.mk (by simp [kind6]), hB⟩
          · skip
            by_cases h4 : ty = 4
            · subst h4
              go_enter Try.func11, Try.ntmps11
              go_wp2
              go_ret
              exact ⟨One7.mk (by simp [kind6]), hB⟩
            · skip
              have e : kind6 ty = 0 := by simp [kind6, h128, h129, h1, h2, h3, h4]
              have eH := Lib.hid e
              clear e
              go_enter Try.func11, Try.ntmps11
              go_wp2
              go_ret
              exact ⟨One7.mk eH.out.symm, hB⟩

theorem ident_any (d : D7) (hd : d.ok) (A : Option Addr) (c : Nat) (w : World) :
    Calls Try.prog 12 #[.agg (d.cells A c)] w fun e w' => e = .returned (.int .u16 (d.rest / 65536)) ∧ Below w.heap.size w w' := by
  have r := hd.rest
  unfold D7.cells
  go_enter Try.func12, Try.ntmps12
  go_wp2
  go_ret
  exact ⟨rfl, (Below.refl _ _).alloc (Nat.le_refl _) _⟩

theorem rident_any (d : D7) (hd : d.ok) (A : Option Addr) (c : Nat) (w : World) :
    Calls Try.prog 13 #[.agg (d.cells A c)] w fun e w' => e = .returned (.int .u16 (d.rest / 65536)) ∧ Below w.heap.size w w' := by
  have r := hd.rest
  unfold D7.cells
  go_enter Try.func13, Try.ntmps13
  go_wp2
  go_ret
  exact ⟨rfl, (Below.refl _ _).alloc (Nat.le_refl _) _⟩

theorem same_any (B1 B2 : Nat) (d d' : D7) (A A' : Option Addr) (c c' : Nat) (w : World) (y1 : By B1 w A d.bl.length c d.bl) (y2 : By B2 w A' d'.bl.length c' d'.bl) (hB1 : B1 ≤ w.heap.size) (hB2 : B2 ≤ w.heap.size) :
    Calls Try.prog 16 #[.agg (d.cells A c), .agg (d'.cells A' c')] w fun e w' => ∃ q : Bool, e = .returned (.bool q) ∧ Hid (q = same7 d d') ∧ Below w.heap.size w w' := by
  have hB : Below w.heap.size w ((w.alloc (.cells (d.cells A c) 25)).alloc (.cells (d'.cells A' c') 25)) := ((Below.refl _ _).alloc (Nat.le_refl _) _).alloc (by simp) _
  have y1 := y1.below hB hB1
  have y2 := y2.below hB hB2
  obtain ⟨ty, code, rest, bl⟩ := d
  obtain ⟨ty', code', rest', bl'⟩ := d'
  unfold D7.cells at *
  simp only at *
  by_cases hty : ty = ty'
  · subst hty
    by_cases hcode : code = code'
    · subst hcode
      by_cases hrest : rest = rest'
      · subst hrest
        go_enter Try.func16, Try.ntmps16
        go_wp2_with fail
        refine (equal_any _ _ _ _ _ _ _ _ _ y1 y2).mono ?_
        rintro e w1 ⟨rfl, rfl⟩
        go_wp2
        go_ret
        exact ⟨_, rfl, Lib.hid (by simp [same7]), hB⟩
      · have hf : Hid (false = same7 _ _) := Lib.hid (Eq.symm (by simp [same7, hrest] : same7 ⟨ty, code, rest, bl⟩ ⟨ty, code, rest', bl'⟩ = false))
        go_enter Try.func16, Try.ntmps16
        go_wp2
        go_ret
        exact ⟨_, rfl, hf, hB⟩
    · have hf : Hid (false = same7 _ _) := Lib.hid (Eq.symm (by simp [same7, hcode] : same7 ⟨ty, code, rest, bl⟩ ⟨ty, code', rest', bl'⟩ = false))
      go_enter Try.func16, Try.ntmps16
      go_wp2
      go_ret
      exact ⟨_, rfl, hf, hB⟩
  · have hf : Hid (false = same7 _ _) := Lib.hid (Eq.symm (by simp [same7, hty] : same7 ⟨ty, code, rest, bl⟩ ⟨ty', code', rest', bl'⟩ = false))
    go_enter Try.func16, Try.ntmps16
    go_wp2
    go_ret
    exact ⟨_, rfl, hf, hB⟩

theorem rsame_any (B1 B2 : Nat) (d d' : D7) (A A' : Option Addr) (c c' : Nat) (w : World) (y1 : By B1 w A d.bl.length c d.bl) (y2 : By B2 w A' d'.bl.length c' d'.bl) (hB1 : B1 ≤ w.heap.size) (hB2 : B2 ≤ w.heap.size) :
    Calls Try.prog 14 #[.agg (d.cells A c), .agg (d'.cells A' c')] w fun e w' => ∃ q : Bool, e = .returned (.bool q) ∧ Hid (q = same7 d d') ∧ Below w.heap.size w w' := by
  have hB : Below w.heap.size w ((w.alloc (.cells (d.cells A c) 25)).alloc (.cells (d'.cells A' c') 25)) := ((Below.refl _ _).alloc (Nat.le_refl _) _).alloc (by simp) _
  have y1 := y1.below hB hB1
  have y2 := y2.below hB hB2
  have u1 := y1.conv (P := Try.prog) 23 9 Try.underlying23 Try.underlying5 Try.underlying9
  have u2 := y2.conv (P := Try.prog) 23 9 Try.underlying23 Try.underlying5 Try.underlying9
  have hq := Lib.hid (strOfNums_beq y1.rng y2.rng)
  obtain ⟨ty, code, rest, bl⟩ := d
  obtain ⟨ty', code', rest', bl'⟩ := d'
  unfold D7.cells at *
  simp only at *
  by_cases hty : ty = ty'
  · subst hty
    by_cases hcode : code = code'
    · subst hcode
      by_cases hrest : rest = rest'
      · subst hrest
        go_enter Try.func14, Try.ntmps14
        go_wp2
        go_ret
        exact ⟨_, rfl, Lib.hid (by simp [same7, hq.out]), hB⟩
      · have hf : Hid (false = same7 _ _) := Lib.hid (Eq.symm (by simp [same7, hrest] : same7 ⟨ty, code, rest, bl⟩ ⟨ty, code, rest', bl'⟩ = false))
        go_enter Try.func14, Try.ntmps14
        go_wp2
        go_ret
        exact ⟨_, rfl, hf, hB⟩
    · have hf : Hid (false = same7 _ _) := Lib.hid (Eq.symm (by simp [same7, hcode] : same7 ⟨ty, code, rest, bl⟩ ⟨ty, code', rest', bl'⟩ = false))
      go_enter Try.func14, Try.ntmps14
      go_wp2
      go_ret
      exact ⟨_, rfl, hf, hB⟩
  · have hf : Hid (false = same7 _ _) := Lib.hid (Eq.symm (by simp [same7, hty] : same7 ⟨ty, code, rest, bl⟩ ⟨ty', code', rest', bl'⟩ = false))
    go_enter Try.func14, Try.ntmps14
    go_wp2
    go_ret
    exact ⟨_, rfl, hf, hB⟩
end Go.Proofs.YtgigdaemecokbaaRRR
