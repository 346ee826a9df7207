/-
  The walks of segment.set, the pseudo headers' closures.
-/
import Derived.Test.YtaobnbjkhgcmlaaP6
import Derived.Test.YtaobnbjkhgcmlaaClone
import Derived.Test.YtaobnbjkhgcmlaaSumOf
import Derived.Test.YtaobnbjkhgcmlaaPseudo4
import Derived.Test.YtaobnbjkhgcmlaaPseudo6
import Derived.Test.YtaobnbjkhgcmlaaMem3
import Derived.Test.YtaobnbjkhgcmlaaReg2
import Derived.Laws.MakeOwn
namespace Go.Proofs.Ytaobnbjkhgcmlaa
open Go.RowKit Go.Shelf

theorem res_none {P : Program} {fn : Func} {tmps : Array Value} {w : World} (hr : fn.results = #[]) : (results fn tmps).run P w = .ok (.tuple #[]) w := by
  simp [results, hr]
theorem grown_setCell {w0 w : World} {g : Nat} (h : w0.grownBy w (some g)) (k : Nat) (v : Value) : w0.grownBy (w.setCell ⟨g, k, none⟩ v) (some g) := by
  obtain ⟨h1, h2, h3, h4, h5⟩ := h
  refine ⟨h1, h2, h3, by simpa [World.setCell] using h4, fun i hi hne => ?_⟩
  have := h5 i hi hne
  rw [← this]
  have hg : i ≠ g := fun e => hne (by rw [e])
  simp [World.setCell, Array.getElem?_modify, Ne.symm hg]

/-- two bytes at a place -/
def set2 (l : List Int) (i : Nat) (x : Int) : List Int := (l.set i (x / 256)).set (i + 1) (x % 256)
theorem set2_len (l : List Int) (i : Nat) (x : Int) : (set2 l i x).length = l.length := by simp [set2]

set_option maxRecDepth 100000 in
theorem set_own (base : Nat) (A : Option Addr) (n c : Nat) (l : List Int) (w : World) (h : OwnB w base (.slice A n c) l) (hn : n = l.length) (i : Nat) (hi : i + 1 < n) (hm : n ≤ 140737488355328) (x : Int) (hx : 0 ≤ x ∧ x < 65536) :
    Calls Try.prog 61 #[.slice A n c, .int .i64 (i : Int), .int .u16 x] w fun e w' => e = .returned (.tuple #[]) ∧ OwnB w' base (.slice A n c) (set2 l i x) ∧ w.grownBy w' (Value.slice A n c).ownBlock := by
  obtain ⟨g, rfl, hg, hlt, c1, f1, u1⟩ := h.byte hn (show i < n by omega)
  have o1 := u1 (x / 256) (by omega)
  obtain ⟨g', e, _, _, c2, f2, u2⟩ := o1.byte (by rw [List.length_set]; exact hn) hi
  injection e with e
  injection e with e
  subst e
  have o2 := u2 (x % 256) (by omega)
  have z1 : (i : Int) < (n : Int) := by omega
  have z2 : (i : Int) + 1 < (n : Int) := by omega
  have z3 : IntKind.i64.wrap ((i : Int) + 1) = ((i + 1 : Nat) : Int) := by rw [IntWalk.i64_in _ (by omega)]; omega
  have z4 : ((i + 1 : Nat) : Int) < (n : Int) := by omega
  have hgr := grown_setCell (grown_setCell (World.grownBy.refl w (some g)) i (.int .u8 (x / 256))) (i + 1) (.int .u8 (x % 256))
  have o2H := Lib.hid o2
  clear o1 o2 u1 u2 h hn
  go_enter Try.func61, Try.ntmps61
  go_wp2
  exact ⟨rfl, _, res_none Try.results61, rfl, o2H.out, hgr⟩

theorem addr4_info (a : List Int) (ha : a.length = 4) : (Try.prog.info? 34).map (·.size) = some (u8s a).toArray.size := by
  rw [show (u8s a).toArray.size = 4 from by simp [u8s_length, ha]]
  kernel_rfl
theorem addr6_info (a : List Int) (ha : a.length = 16) : (Try.prog.info? 36).map (·.size) = some (u8s a).toArray.size := by
  rw [show (u8s a).toArray.size = 16 from by simp [u8s_length, ha]]
  kernel_rfl
theorem head4_any (a b : List Int) (ha : a.length = 4) (hb : b.length = 4) (ra : InB a) (rb : InB b) (p n : Int) (hp0 : 0 ≤ p) (hp1 : p ≤ 255) (h0 : 0 ≤ n) (h1 : n ≤ 65535) (g1 g2 : Nat) (w : World) (hA : Has w g1 (.cells (u8s a).toArray 34 (0, 0))) (hB : Has w g2 (.cells (u8s b).toArray 34 (0, 0))) :
    Calls Try.prog 68 #[.int .u8 p, .int .i64 n, .pointer (some ⟨g1, 0, none⟩), .pointer (some ⟨g2, 0, none⟩)] w fun e w' => ∃ v, e = .returned v ∧ OwnB w' w.heap.size v (pse4 a b n p) ∧ Below w.heap.size w w' := by
  have hia := addr4_info a ha
  have hib := addr4_info b hb
  obtain ⟨ps, hps⟩ : ∃ ps, pse4 a b n p = ps := ⟨_, rfl⟩
  rw [hps]
  have hps := Lib.hid hps
  go_enter Try.func68, Try.ntmps68
  go_wp2_with (first
    | (refine wpList_load_row rfl 34 (.tmp 2) rfl g1 rfl 34 (u8s a).toArray (0, 0) _ hA Try.underlying34 rfl hia ?_)
    | (refine wpList_load_row rfl 34 (.tmp 3) rfl g2 rfl 34 (u8s b).toArray (0, 0) _ hB Try.underlying34 rfl hib ?_))
  refine (pseudo4_ok a b ha hb ra rb p n hp0 hp1 h0 h1 _).mono ?_
  rintro e w' ⟨v, rfl, ho, hb'⟩
  have ho : OwnB w' w.heap.size v (pse4 a b n p) := ho
  rw [hps.out] at ho
  obtain ⟨A', c', rfl, _⟩ := own_shape ho.own
  go_wp2
  go_ret
  exact ⟨_, rfl, ho, hb'⟩
theorem head6_any (a b : List Int) (ha : a.length = 16) (hb : b.length = 16) (ra : InB a) (rb : InB b) (p n : Int) (hp0 : 0 ≤ p) (hp1 : p ≤ 255) (h0 : 0 ≤ n) (h1 : n ≤ 65535) (g1 g2 : Nat) (w : World) (hA : Has w g1 (.cells (u8s a).toArray 36 (0, 0))) (hB : Has w g2 (.cells (u8s b).toArray 36 (0, 0))) :
    Calls Try.prog 65 #[.int .u8 p, .int .i64 n, .pointer (some ⟨g1, 0, none⟩), .pointer (some ⟨g2, 0, none⟩)] w fun e w' => ∃ v, e = .returned v ∧ OwnB w' w.heap.size v (pse6 a b n p) ∧ Below w.heap.size w w' := by
  have hia := addr6_info a ha
  have hib := addr6_info b hb
  obtain ⟨ps, hps⟩ : ∃ ps, pse6 a b n p = ps := ⟨_, rfl⟩
  rw [hps]
  have hps := Lib.hid hps
  go_enter Try.func65, Try.ntmps65
  go_wp2_with (first
    | (refine wpList_load_row rfl 36 (.tmp 2) rfl g1 rfl 36 (u8s a).toArray (0, 0) _ hA Try.underlying36 rfl hia ?_)
    | (refine wpList_load_row rfl 36 (.tmp 3) rfl g2 rfl 36 (u8s b).toArray (0, 0) _ hB Try.underlying36 rfl hib ?_))
  refine (pseudo6_ok a b ha hb ra rb p n hp0 hp1 h0 h1 _).mono ?_
  rintro e w' ⟨v, rfl, ho, hb'⟩
  have ho : OwnB w' w.heap.size v (pse6 a b n p) := ho
  rw [hps.out] at ho
  obtain ⟨A', c', rfl, _⟩ := own_shape ho.own
  go_wp2
  go_ret
  exact ⟨_, rfl, ho, hb'⟩
end Go.Proofs.Ytaobnbjkhgcmlaa
