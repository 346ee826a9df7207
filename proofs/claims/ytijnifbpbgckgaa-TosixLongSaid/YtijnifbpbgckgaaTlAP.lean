/-
  Lemmas and walks for the row of TosixLong (part 16 of 37).
-/
import Derived.Test.YtijnifbpbgckgaaTlAG
import Derived.Test.YtijnifbpbgckgaaTlAH
import Derived.Test.YtijnifbpbgckgaaTlAJ
import Derived.Test.YtijnifbpbgckgaaTlAL
import Derived.Test.YtijnifbpbgckgaaTlAM
import Derived.Test.YtijnifbpbgckgaaTlAN
import Derived.Test.YtijnifbpbgckgaaTlAO
set_option linter.unusedVariables false
set_option linter.unusedSimpArgs false
namespace Go.Proofs.Ytijnifbpbgckgaa
open Go.RowKit Go.Shelf

theorem Has.byIn {w : World} {g : Nat} {cs : Array Value} {t : TypeId} {fz : Nat × Nat} (h : Has w g (.cells cs t fz)) (off n : Nat) (l : List Int) (hn : l.length = n) (hl : (cs.toList.drop off).take n = u8s l) (hr : InB l) (hb : n ≤ 9223372036854775807) : By w.heap.size w (some ⟨g, off, none⟩) n n l := by
  subst hn
  refine ⟨⟨u8s_length l, Nat.le_refl _, fun _ => ⟨g, off, rfl, h.lt, fun j hj => ?_⟩⟩, hr, hb⟩
  have hv : (u8s l)[j]? = some (.int .u8 (l[j]'hj)) := by simp [u8s, hj]
  rw [hv]
  refine h.cell (off + j) ?_
  rw [← hl, List.getElem?_take, if_pos hj, List.getElem?_drop] at hv
  simpa using hv
theorem u8s_16 {s : List Int} (h : s.length = 16) : u8s (l16 s) = u8s s := by rw [l16_eq h]
theorem own_byS {w : World} {base n : Nat} {A : Option Addr} {c : Nat} {l : List Int} (h : OwnB w base (.slice A n c) l) : By w.heap.size w A n c l := by
  obtain ⟨A', c', e, y⟩ := h.by_
  injection e with e1 e2 e3
  subst e1 e2 e3
  exact y
theorem own_len {w : World} {base n : Nat} {A : Option Addr} {c : Nat} {l : List Int} (h : OwnB w base (.slice A n c) l) : n = l.length := (own_byS h).len.symm
theorem own_form {w : World} {base n : Nat} {A : Option Addr} {c : Nat} {l : List Int} (h : OwnB w base (.slice A n c) l) (hn : 0 < n) : ∃ g, A = some ⟨g, 0, none⟩ ∧ base ≤ g ∧ g < w.heap.size := by
  obtain ⟨g, hA, h1, h2, _⟩ := h.byte (own_len h) hn
  exact ⟨g, hA, h1, h2⟩
theorem flat2 {A1 A2 : Option Addr} {c1 c2 : Nat} (l1 l2 : List Int) : flat [(A1, c1, l1), (A2, c2, l2)] = l1 ++ l2 := by simp [flat]
theorem flat3 {A1 A2 A3 : Option Addr} {c1 c2 c3 : Nat} (l1 l2 l3 : List Int) : flat [(A1, c1, l1), (A2, c2, l2), (A3, c3, l3)] = l1 ++ l2 ++ l3 := by simp [flat]
theorem flat4 {A1 A2 A3 A4 : Option Addr} {c1 c2 c3 c4 : Nat} (l1 l2 l3 l4 : List Int) : flat [(A1, c1, l1), (A2, c2, l2), (A3, c3, l3), (A4, c4, l4)] = l1 ++ l2 ++ l3 ++ l4 := by simp [flat]
theorem concat2 {g n1 n2 c1 c2 : Nat} {A1 A2 : Option Addr} {l1 l2 : List Int} {w : World} (h : Has w g (.cells #[.slice A1 n1 c1, .slice A2 n2 c2] 25 (0, 0))) (y1 : By w.heap.size w A1 n1 c1 l1) (y2 : By w.heap.size w A2 n2 c2 l2) (hb : n1 + n2 ≤ 140737488355328) :
    Calls Try.prog 87 #[.slice (some ⟨g, 0, none⟩) 2 2] w fun e w' => ∃ v, e = .returned v ∧ OwnB w' w.heap.size v (l1 ++ l2) ∧ Below w.heap.size w w' := by
  obtain rfl := y1.len
  obtain rfl := y2.len
  have := concat_any (some ⟨g, 0, none⟩) 2 [(A1, c1, l1), (A2, c2, l2)] w (Parts.blk h (Nat.le_refl _) rfl (all2 y1 y2) (by simp)) (by rw [flat2, List.length_append]; exact hb)
  rw [flat2] at this
  exact this
theorem concat3 {g n1 n2 n3 c1 c2 c3 : Nat} {A1 A2 A3 : Option Addr} {l1 l2 l3 : List Int} {w : World} (h : Has w g (.cells #[.slice A1 n1 c1, .slice A2 n2 c2, .slice A3 n3 c3] 25 (0, 0))) (y1 : By w.heap.size w A1 n1 c1 l1) (y2 : By w.heap.size w A2 n2 c2 l2) (y3 : By w.heap.size w A3 n3 c3 l3) (hb : n1 + n2 + n3 ≤ 140737488355328) :
    Calls Try.prog 87 #[.slice (some ⟨g, 0, none⟩) 3 3] w fun e w' => ∃ v, e = .returned v ∧ OwnB w' w.heap.size v (l1 ++ l2 ++ l3) ∧ Below w.heap.size w w' := by
  obtain rfl := y1.len
  obtain rfl := y2.len
  obtain rfl := y3.len
  have := concat_any (some ⟨g, 0, none⟩) 3 [(A1, c1, l1), (A2, c2, l2), (A3, c3, l3)] w (Parts.blk h (Nat.le_refl _) rfl (all3 y1 y2 y3) (by simp)) (by rw [flat3, List.length_append, List.length_append]; exact hb)
  rw [flat3] at this
  exact this
theorem concat4 {g n1 n2 n3 n4 c1 c2 c3 c4 : Nat} {A1 A2 A3 A4 : Option Addr} {l1 l2 l3 l4 : List Int} {w : World} (h : Has w g (.cells #[.slice A1 n1 c1, .slice A2 n2 c2, .slice A3 n3 c3, .slice A4 n4 c4] 25 (0, 0))) (y1 : By w.heap.size w A1 n1 c1 l1) (y2 : By w.heap.size w A2 n2 c2 l2) (y3 : By w.heap.size w A3 n3 c3 l3) (y4 : By w.heap.size w A4 n4 c4 l4) (hb : n1 + n2 + n3 + n4 ≤ 140737488355328) :
    Calls Try.prog 87 #[.slice (some ⟨g, 0, none⟩) 4 4] w fun e w' => ∃ v, e = .returned v ∧ OwnB w' w.heap.size v (l1 ++ l2 ++ l3 ++ l4) ∧ Below w.heap.size w w' := by
  obtain rfl := y1.len
  obtain rfl := y2.len
  obtain rfl := y3.len
  obtain rfl := y4.len
  have := concat_any (some ⟨g, 0, none⟩) 4 [(A1, c1, l1), (A2, c2, l2), (A3, c3, l3), (A4, c4, l4)] w (Parts.blk h (Nat.le_refl _) rfl (all4 y1 y2 y3 y4) (by simp)) (by rw [flat4, List.length_append, List.length_append, List.length_append]; exact hb)
  rw [flat4] at this
  exact this
section
variable {P : Program}
theorem slice_tail {t : TypeId} {g o n c k : Nat} (ht : P.underlying t = some (.slice 5)) (hs : (P.info? 5).map (·.size) = some 1) (hk : k < n) (hn : n ≤ c) (w : World) :
    (Instr.sliceAt t (.slice (some ⟨g, o, none⟩) n c) (some (.int .i64 (k : Int))) none none).run P w = .ok (.slice (some ⟨g, o + k, none⟩) (n - k) (c - k)) w := by
  have he : P.elem t = 5 := by simp [Program.elem, ht]
  have hsz : (sizeOf 5).run P w = .ok 1 w := by
    cases hq : P.info? 5 with
    | none => simp [hq] at hs
    | some i => simp [hq] at hs; simp [sizeOf, typeInfo, hq, hs]
  have hc : ¬ c = k := by omega
  rw [run_sliceAt_slice w t _ _ _ _ (by rw [he]; exact ht), run_slice_l w t _ _ _ (by rw [he]; exact ht) .i64 (k : Int) (by omega) (by omega), he, hsz]
  simp [sliced, Result.andThen, hc, Addr.add]
theorem w_or16 (t : TypeId) (a b : Int) (ha : 0 ≤ a ∧ a ≤ 255) (hb : 0 ≤ b ∧ b ≤ 255) (w : World) : (binOp .or t (.int .u16 (a * 256)) (.int .u16 b)).run P w = .ok (.int .u16 (a * 256 + b)) w :=
  b_or_u16 t _ _ _ (or_u16 8 (by omega) (by omega) (by omega) (by omega) (by omega) (by omega)) w
theorem w_or64 (t : TypeId) (a b : Int) (ha : 0 ≤ a ∧ a ≤ 255) (hb : 0 ≤ b ∧ b ≤ 255) (w : World) : (binOp .or t (.int .i64 (a * 256)) (.int .i64 b)).run P w = .ok (.int .i64 (a * 256 + b)) w := by
  rw [← or8_i64 ha hb]
  rfl
theorem w_shl64 (t : TypeId) (x : Int) (h : 0 ≤ x ∧ x ≤ 255) (w : World) : (binOp .shl t (.int .i64 x) (.int .u64 8)).run P w = .ok (.int .i64 (x * 256)) w := by
  have h1 := h.1
  have h2 := h.2
  clear h
  go_simp
  exact IntWalk.i64_in _ ⟨by omega, by omega⟩
theorem w_shr16 (t : TypeId) (x : Int) (w : World) : (binOp .shr t (.int .u16 x) (.int .u64 8)).run P w = .ok (.int .u16 (x / 256)) w := b_shr .u16 t 8 (x / 256) rfl (by decide) w
end
end Go.Proofs.Ytijnifbpbgckgaa
namespace Go.Proofs.Ytijnifbpbgckgaa
open Go.RowKit Go.Shelf
attribute [local irreducible] wpList Code.wp Oper.wp wpOp wpAnyH

set_option maxRecDepth 100000 in
theorem store17_any (udp : Bool) (g k n0 c0 N c base : Nat) (v : Int) (hv : 0 ≤ v ∧ v < 65536) (l : List Int) (w : World) (hO : OwnB w base (.slice (some ⟨g, 0, none⟩) n0 c0) l) (hk : k + 2 ≤ n0) (hN : 2 ≤ N) :
  Calls Try.prog 74 #[.slice (some ⟨g, k, none⟩) N c, .int .u16 v, .bool udp] w fun e w' => e = .returned (.tuple #[]) ∧ OwnB w' base (.slice (some ⟨g, 0, none⟩) n0 c0) (put17 l k (fix17 udp v)) ∧ But6 g w w' ∧ Below g w w' := by
 have hn := own_len hO
 suffices H : ∀ (V : Int), 0 ≤ V ∧ V < 65536 → fix17 udp v = V → Calls Try.prog 74 #[.slice (some ⟨g, k, none⟩) N c, .int .u16 v, .bool udp] w fun e w' => e = .returned (.tuple #[]) ∧ OwnB w' base (.slice (some ⟨g, 0, none⟩) n0 c0) (put17 l k V) ∧ But6 g w w' ∧ Below g w w' from by
  have := H _ (fix17_rng hv) rfl
  exact this
 intro V hV hf
 by_cases h0 : v = 0
 case pos =>
  subst h0
  cases udp
  case true =>
   obtain rfl : V = 65535 := by rw [← hf]; rfl
   go_enter Try.func74, Try.ntmps74
   refine wp_seq ?_
   refine wp_sr ?_
   refine lv (.int .u16 0) (by exact xm) ?_
   simp only [lay]
   refine lv (.bool true) (by exact yq (h := (by decide))) ?_
   simp only [lay]
   refine lv (.bool true) (by exact xm) ?_
   simp only [lay]
   refine lv (.bool true) (by exact xm) ?_
   simp only [lay]
   refine lv (.bool true) (by exact xp (b := true)) ?_
   simp only [lay]
   refine wn ?_
   refine wp_cond_true (by exact rfl) ?_
   refine wp_region_lit ?_
   refine lv (.int .u16 65535) (by exact xa) ?_
   simp only [lay]
   refine wn ?_
   refine wp_region_lit ?_
   refine lv (.slice (some ⟨g, k, none⟩) N c) (by exact xm) ?_
   simp only [lay]
   refine lv (.slice (some ⟨g, k, none⟩) N c) (by exact xm) ?_
   simp only [lay]
   refine lv (.int .u16 65535) (by exact xm) ?_
   simp only [lay]
   refine lv (.int .u16 (65535 / 256)) (by exact xb (w_shr16 _ _ _)) ?_
   simp only [lay]
   refine lv (.int .u8 (65535 / 256)) (by exact xv (conv_u8' 22 5 .u16 (65535 / 256) (by kernel_rfl) Try.underlying5 (by omega) _)) ?_
   simp only [lay]
   refine lv (.int .u16 65535) (by exact xm) ?_
   simp only [lay]
   refine lv (.int .u8 (65535 % 256)) (by exact xv (conv_u8 22 5 .u16 65535 (by kernel_rfl) Try.underlying5 _)) ?_
   simp only [lay]
   refine lv (.pointer (some ⟨g, k + 0, none⟩)) (by exact ex_index (k := 0) (by exact rfl) Try.underlying25 (by kernel_rfl) (by exact rfl) (by exact rfl) (show 0 < N by omega)) ?_
   simp only [lay]
   refine lz (ow_stB 5 (.tmp 18) (.tmp 15) g _ base n0 c0 (65535 / 256) _ rfl (by exact rfl) (by exact rfl) (by kernel_rfl) hO (by omega) (own_len hO) (by omega) ?_)
   intro W1 hO2 bs3 hb4
   have z5 := hb4.size
   simp only [lay]
   refine lv (.pointer (some ⟨g, k + 1, none⟩)) (by exact ex_index (k := 1) (by exact rfl) Try.underlying25 (by kernel_rfl) (by exact rfl) (by exact rfl) (show 1 < N by omega)) ?_
   simp only [lay]
   refine lz (ow_stB 5 (.tmp 19) (.tmp 17) g _ base n0 c0 (65535 % 256) _ rfl (by exact rfl) (by exact rfl) (by kernel_rfl) hO2 (by omega) (own_len hO2) (by omega) ?_)
   intro W6 hO7 bs8 hb9
   have z10 := hb9.size
   simp only [lay]
   refine wpList_nil ?_
   exact bodyPost_nrm (res_nil Try.results74) rfl ⟨rfl, hO7, bs3.trans bs8, hb4.trans hb9⟩
  case false =>
   obtain rfl : V = 0 := by rw [← hf]; rfl
   go_enter Try.func74, Try.ntmps74
   refine wp_seq ?_
   refine wp_sr ?_
   refine lv (.int .u16 0) (by exact xm) ?_
   simp only [lay]
   refine lv (.bool true) (by exact yq (h := (by decide))) ?_
   simp only [lay]
   refine lv (.bool true) (by exact xm) ?_
   simp only [lay]
   refine lv (.bool false) (by exact xm) ?_
   simp only [lay]
   refine lv (.bool false) (by exact xp (b := true)) ?_
   simp only [lay]
   refine wn ?_
   refine wp_cond_false (by exact rfl) ?_
   refine wp_skip ?_
   change Code.wp _ _ _ _ _
   refine wp_region_lit ?_
   refine lv (.slice (some ⟨g, k, none⟩) N c) (by exact xm) ?_
   simp only [lay]
   refine lv (.slice (some ⟨g, k, none⟩) N c) (by exact xm) ?_
   simp only [lay]
   refine lv (.int .u16 0) (by exact xm) ?_
   simp only [lay]
   refine lv (.int .u16 (0 / 256)) (by exact xb (w_shr16 _ _ _)) ?_
   simp only [lay]
   refine lv (.int .u8 (0 / 256)) (by exact xv (conv_u8' 22 5 .u16 (0 / 256) (by kernel_rfl) Try.underlying5 (by omega) _)) ?_
   simp only [lay]
   refine lv (.int .u16 0) (by exact xm) ?_
   simp only [lay]
   refine lv (.int .u8 (0 % 256)) (by exact xv (conv_u8 22 5 .u16 0 (by kernel_rfl) Try.underlying5 _)) ?_
   simp only [lay]
   refine lv (.pointer (some ⟨g, k + 0, none⟩)) (by exact ex_index (k := 0) (by exact rfl) Try.underlying25 (by kernel_rfl) (by exact rfl) (by exact rfl) (show 0 < N by omega)) ?_
   simp only [lay]
   refine lz (ow_stB 5 (.tmp 18) (.tmp 15) g _ base n0 c0 (0 / 256) _ rfl (by exact rfl) (by exact rfl) (by kernel_rfl) hO (by omega) (own_len hO) (by omega) ?_)
   intro W1 hO2 bs3 hb4
   have z5 := hb4.size
   simp only [lay]
   refine lv (.pointer (some ⟨g, k + 1, none⟩)) (by exact ex_index (k := 1) (by exact rfl) Try.underlying25 (by kernel_rfl) (by exact rfl) (by exact rfl) (show 1 < N by omega)) ?_
   simp only [lay]
   refine lz (ow_stB 5 (.tmp 19) (.tmp 17) g _ base n0 c0 (0 % 256) _ rfl (by exact rfl) (by exact rfl) (by kernel_rfl) hO2 (by omega) (own_len hO2) (by omega) ?_)
   intro W6 hO7 bs8 hb9
   have z10 := hb9.size
   simp only [lay]
   refine wpList_nil ?_
   exact bodyPost_nrm (res_nil Try.results74) rfl ⟨rfl, hO7, bs3.trans bs8, hb4.trans hb9⟩
 have hb : (v == 0) = false := by simpa using h0
 obtain rfl : v = V := by rw [← hf, fix17, if_neg (fun h => h0 h.1)]
 go_enter Try.func74, Try.ntmps74
 refine wp_seq ?_
 refine wp_sr ?_
 refine lv (.int .u16 v) (by exact xm) ?_
 simp only [lay]
 refine lv (.bool false) (by exact yqn) ?_
 simp only [lay]
 refine lv (.bool false) (by exact xm) ?_
 simp only [lay]
 refine lzn ?_
 simp only [lay]
 refine lv (.bool false) (by exact xp (b := false)) ?_
 simp only [lay]
 refine wn ?_
 refine wp_cond_false (by exact rfl) ?_
 refine wp_skip ?_
 change Code.wp _ _ _ _ _
 refine wp_region_lit ?_
 refine lv (.slice (some ⟨g, k, none⟩) N c) (by exact xm) ?_
 simp only [lay]
 refine lv (.slice (some ⟨g, k, none⟩) N c) (by exact xm) ?_
 simp only [lay]
 refine lv (.int .u16 v) (by exact xm) ?_
 simp only [lay]
 refine lv (.int .u16 (v / 256)) (by exact xb (w_shr16 _ _ _)) ?_
 simp only [lay]
 refine lv (.int .u8 (v / 256)) (by exact xv (conv_u8' 22 5 .u16 (v / 256) (by kernel_rfl) Try.underlying5 (by omega) _)) ?_
 simp only [lay]
 refine lv (.int .u16 v) (by exact xm) ?_
 simp only [lay]
 refine lv (.int .u8 (v % 256)) (by exact xv (conv_u8 22 5 .u16 v (by kernel_rfl) Try.underlying5 _)) ?_
 simp only [lay]
 refine lv (.pointer (some ⟨g, k + 0, none⟩)) (by exact ex_index (k := 0) (by exact rfl) Try.underlying25 (by kernel_rfl) (by exact rfl) (by exact rfl) (show 0 < N by omega)) ?_
 simp only [lay]
 refine lz (ow_stB 5 (.tmp 18) (.tmp 15) g _ base n0 c0 (v / 256) _ rfl (by exact rfl) (by exact rfl) (by kernel_rfl) hO (by omega) (own_len hO) (by omega) ?_)
 intro W2 hO3 bs4 hb5
 have z6 := hb5.size
 simp only [lay]
 refine lv (.pointer (some ⟨g, k + 1, none⟩)) (by exact ex_index (k := 1) (by exact rfl) Try.underlying25 (by kernel_rfl) (by exact rfl) (by exact rfl) (show 1 < N by omega)) ?_
 simp only [lay]
 refine lz (ow_stB 5 (.tmp 19) (.tmp 17) g _ base n0 c0 (v % 256) _ rfl (by exact rfl) (by exact rfl) (by kernel_rfl) hO3 (by omega) (own_len hO3) (by omega) ?_)
 intro W7 hO8 bs9 hb10
 have z11 := hb10.size
 simp only [lay]
 refine wpList_nil ?_
 exact bodyPost_nrm (res_nil Try.results74) rfl ⟨rfl, hO8, bs4.trans bs9, hb5.trans hb10⟩
end Go.Proofs.Ytijnifbpbgckgaa
