/-
  Lemmas and walks for the row of TosixLong (part 7 of 37).
-/
import Derived.Test.YtijnifbpbgckgaaTlAD
import Derived.Test.YtijnifbpbgckgaaTlAF
import Derived.Laws.CopyOwn
set_option linter.unusedVariables false
set_option linter.unusedSimpArgs false
namespace Go.Proofs.Ytijnifbpbgckgaa
open Go.RowKit

section
variable {P : Program}
variable {md : Region.Mode} {ops : Array Oper} {Q : Exit → Act → World → Prop} {S : World → Prop}
theorem run_build0 (w : World) (t e : TypeId) (hu : P.underlying t = some (.slice e)) (hs : (P.info? e).map (·.size) = some 1) : (Instr.buildSlice t 0 #[]).run P w = .ok (.slice (some ⟨w.heap.size, 0, none⟩) 0 0) (w.alloc (.cells #[] e)) := by
  cases hq : P.info? e with
  | none => simp [hq] at hs
  | some ie => simp [Instr.buildSlice, run_underlying hu, sizeOf, typeInfo, hq, Instr.fill, newRow]; congr 2; exact Array.eq_empty_of_size_eq_zero (by simp)
theorem conv_u16 (src dst : TypeId) (k : IntKind) (n : Int) (hs : (P.underlying src).isSome = true) (hd : P.underlying dst = some (.int .u16)) (h0 : 0 ≤ n) (h1 : n < 65536) (w : World) : (convert src dst (.int k n)).run P w = .ok (.int .u16 n) w := by
  have hk : P.intKind dst = .u16 := by simp [Program.intKind, hd]
  have := run_convert_int (P := P) w src dst k n hs (by rw [hk]; exact hd)
  rw [hk, IntWalk.u16_in n ⟨h0, by omega⟩] at this
  exact this
theorem conv_u32 (src dst : TypeId) (k : IntKind) (n : Int) (hs : (P.underlying src).isSome = true) (hd : P.underlying dst = some (.int .u32)) (h0 : 0 ≤ n) (h1 : n < 4294967296) (w : World) : (convert src dst (.int k n)).run P w = .ok (.int .u32 n) w := by
  have hk : P.intKind dst = .u32 := by simp [Program.intKind, hd]
  have := run_convert_int (P := P) w src dst k n hs (by rw [hk]; exact hd)
  rw [hk, IntWalk.u32_in n ⟨h0, by omega⟩] at this
  exact this
end
end Go.Proofs.Ytijnifbpbgckgaa
namespace Go.Proofs.Ytijnifbpbgckgaa
open Go.RowKit

section
variable {P : Program}
variable {md : Region.Mode} {ops : Array Oper} {Q : Exit → Act → World → Prop} {S : World → Prop}
end

section
variable {P : Program} {ops : Array Oper} {Q : Exit → Act → World → Prop}
end

section
variable {P : Program} {md : Region.Mode} {ops : Array Oper} {Q : Exit → Act → World → Prop} {S : World → Prop}
theorem add1_i64 (t : TypeId) (k : Nat) (h : k < 9223372036854775807) (w : World) : (binOp .add t (.int .i64 (k : Int)) (.int .i64 1)).run P w = .ok (.int .i64 ((k + 1 : Nat) : Int)) w := by
  rw [add_i64 t (k : Int) 1 (by omega) w, Int.natCast_add]
  rfl
theorem shr8_i64 (t : TypeId) (m : Int) (w : World) : (binOp .shr t (.int .i64 m) (.int .u64 8)).run P w = .ok (.int .i64 (m / 256)) w := by
  have h := shift_shr_i64 (x := m) (y := 8) (yk := .u64) (by decide) (by decide)
  rw [binOp_shr, h]
  rfl
theorem conv_u8' (src dst : TypeId) (k : IntKind) (n : Int) (hs : (P.underlying src).isSome = true) (hd : P.underlying dst = some (.int .u8)) (h : 0 ≤ n ∧ n < 256) (w : World) : (convert src dst (.int k n)).run P w = .ok (.int .u8 n) w := by
  rw [conv_u8 src dst k n hs hd, show n % 256 = n from by omega]
end

section
variable {P : Program} {md : Region.Mode} {ops : Array Oper} {Q : Exit → Act → World → Prop} {S : World → Prop}
theorem exec_copy {a : Act} {o : Oper} {w : World} (d s : Operand) (dT sT : TypeId) (ho : o.op = .call { callee := .builtin .copy, args := #[d, s], argTypes := #[dT, sT] }) {e : TypeId} (hu : P.underlying dT = some (.slice e)) (hsz : (P.info? e).map (·.size) = some 1)
    {g off n m dc : Nat} (hd : a.eval d = .slice (some ⟨g, off, none⟩) n dc) {A : Option Addr} {c : Nat} {l : List Int} (hs : a.eval s = .slice A m c) {B : Nat} (hy : By B w A m c l) (hm : m = n) (hpos : 0 < n) {cur new : Array Value} {t : TypeId} (hg : Has w g (.cells cur t (0, 0)))
    (hfit : off + n ≤ cur.size) (hnew : (cur.toList.take off ++ u8s l ++ cur.toList.drop (off + n)).toArray = new) : (execOp a.eval o).run P w = .ok (.value (goInt n)) (w.setRow g new) := by
  subst hm
  have hl := hy.len
  obtain ⟨b, o2, rfl, _, hc⟩ := hy.row.at_ hpos
  have hr := run_copy_row (P := P) w dT sT o.type e g off m dc ⟨b, o2, none⟩ m c cur t (u8s l) hu hsz hg (by rw [u8s_length, hl]; exact (Nat.min_self _).symm) (fun j v hj => by
    rw [Go.WideShapes.add_plain]
    have hj2 : j < m := by have := (List.getElem?_eq_some_iff.1 hj).1; rw [u8s_length, hl] at this; exact this
    rw [hc j hj2]; exact hj) (by rw [u8s_length, hl]; exact hfit) (fun v hv => by obtain ⟨y, _, rfl⟩ := List.mem_map.1 hv; rfl)
  rw [u8s_length, hl, hnew] at hr
  unfold execOp
  simp [ho, resolve, invoke, builtin, hd, hs, hr, Result.andThen]
/-- number i alone is ready: a copy of bytes into a block of the call's own -/
theorem tk_copy {i : Nat} {o : Oper} {fuel : Nat} {listed : Array Bool} {a : Act} {w : World} (d s : Operand) (dT sT : TypeId) (hr : Region.ready md ops listed = [i]) (hi : ops.toList[i]? = some o) (hw : Region.wanted o (yielded ops a.tmps) = true) (ho : o.op = .call { callee := .builtin .copy, args := #[d, s], argTypes := #[dT, sT] }) {e : TypeId} (hu : P.underlying dT = some (.slice e)) (hsz : (P.info? e).map (·.size) = some 1)
    {g off n m dc : Nat} (hd : a.eval d = .slice (some ⟨g, off, none⟩) n dc) {A : Option Addr} {c : Nat} {l : List Int} (hs : a.eval s = .slice A m c) {B : Nat} (hy : By B w A m c l) (hm : m = n) (hpos : 0 < n) {cur new : Array Value} {t : TypeId} (hg : Has w g (.cells cur t (0, 0)))
    (hfit : off + n ≤ cur.size) (hnew : (cur.toList.take off ++ u8s l ++ cur.toList.drop (off + n)).toArray = new) (hS : S (w.setRow g new))
    (h : wpAnyH P md ops Q S fuel (listed.setIfInBounds i true) (a.put o.dst (goInt n)) (w.setRow g new)) : wpAnyH P md ops Q S (fuel + 1) listed a w :=
  wpAnyH_all hr (by simp) fun j hj => by
    obtain rfl : j = i := by simpa using hj
    have hi : ops[j]? = some o := by simpa using hi
    unfold wpOp
    rw [hi]
    simp only [hw, if_true]
    left
    unfold Oper.wp
    rw [exec_copy d s dT sT ho hu hsz hd hs hy hm hpos hg hfit hnew]
    exact ⟨hS, h⟩
end
end Go.Proofs.Ytijnifbpbgckgaa
namespace Go.Proofs.Ytijnifbpbgckgaa
open Go.RowKit

section
variable {P : Program}
theorem conv_i64 (src dst : TypeId) (k : IntKind) (n : Int) (hs : (P.underlying src).isSome = true) (hd : P.underlying dst = some (.int .i64)) (h : -9223372036854775808 ≤ n ∧ n < 9223372036854775808) (w : World) : (convert src dst (.int k n)).run P w = .ok (.int .i64 n) w := by
  have hk : P.intKind dst = .i64 := by simp [Program.intKind, hd]
  have := run_convert_int (P := P) w src dst k n hs (by rw [hk]; exact hd)
  rw [hk, IntWalk.i64_in n (by omega)] at this
  exact this
theorem b_shl8_u16 (t : TypeId) (x : Int) (h : 0 ≤ x ∧ x ≤ 255) (w : World) : (binOp .shl t (.int .u16 x) (.int .u64 8)).run P w = .ok (.int .u16 (x * 256)) w := by
  have h1 := h.1
  have h2 := h.2
  clear h
  go_simp
  exact IntWalk.u16_in _ ⟨by omega, by omega⟩
theorem b_or_u16 (t : TypeId) (x y z : Int) (h : bits .or .u16 x y = z) (w : World) : (binOp .or t (.int .u16 x) (.int .u16 y)).run P w = .ok (.int .u16 z) w := by subst h; rfl
theorem By.mid {B : Nat} {w : World} {A : Option Addr} {n c : Nat} {l : List Int} (h : By B w A n c l) (t : TypeId) (ht : P.underlying t = some (.slice 5)) (hs : (P.info? 5).map (·.size) = some 1) {k m : Nat} (hk : k ≤ m) (hm : m ≤ n) :
    ∃ A' c', (∀ w', (Instr.sliceAt t (.slice A n c) (some (.int .i64 (k : Int))) (some (.int .i64 (m : Int))) none).run P w' = .ok (.slice A' (m - k) c') w') ∧ By B w A' (m - k) c' ((l.take m).drop k) := by
  refine ⟨_, _, fun w' => ?_, (h.take hm).cut hk⟩
  have hcap := h.cap
  have he : P.elem t = 5 := by simp [Program.elem, ht]
  have hsz : (sizeOf 5).run P w' = .ok 1 w' := by
    cases hq : P.info? 5 with
    | none => simp [hq] at hs
    | some i => simp [hq] at hs; simp [sizeOf, typeInfo, hq, hs]
  rw [run_sliceAt_slice w' t _ _ _ _ (by rw [he]; exact ht), run_slice_lh w' t _ _ _ (by rw [he]; exact ht) .i64 .i64 (k : Int) (m : Int) (by omega) (by omega) (by omega), he, hsz]
  simp [sliced, Result.andThen]
end
section
variable {P : Program} {md : Region.Mode} {ops : Array Oper} {Q : Exit → Act → World → Prop} {S : World → Prop}
end
end Go.Proofs.Ytijnifbpbgckgaa
namespace Go.Proofs.Ytijnifbpbgckgaa
open Go.RowKit

section
variable {P : Program}
theorem b_sub (t : TypeId) {x y : Int} (z : Int) (h : x - y = z) (h0 : -9223372036854775808 ≤ z ∧ z < 9223372036854775808) (w : World) : (binOp .sub t (.int .i64 x) (.int .i64 y)).run P w = .ok (.int .i64 z) w := by
  subst h
  have h1 := h0.1
  have h2 := h0.2
  clear h0
  go_simp
  exact IntWalk.i64_in _ (by omega)
theorem b_add (t : TypeId) {x y : Int} (z : Int) (h : x + y = z) (h0 : -9223372036854775808 ≤ z ∧ z < 9223372036854775808) (w : World) : (binOp .add t (.int .i64 x) (.int .i64 y)).run P w = .ok (.int .i64 z) w := by
  subst h
  exact add_i64 t x y h0 w
theorem b_gtr (t : TypeId) {x y : Int} (q : Bool) (h : decide (y < x) = q) (w : World) : (binOp .gtr t (.int .i64 x) (.int .i64 y)).run P w = .ok (.bool q) w := by
  subst h
  rfl
theorem b_shr (k : IntKind) (t : TypeId) {x : Int} (n : Nat) (z : Int) (h : x / 2 ^ n = z) (hn : n ≤ k.bits) (w : World) : (binOp .shr t (.int k x) (.int .u64 (n : Int))).run P w = .ok (.int k z) w := by
  subst h
  have h := shift_shr k .u64 x (n : Int) (Int.natCast_nonneg n) (by exact_mod_cast hn)
  rw [binOp_shr, h]
  rfl
theorem b_quo (t : TypeId) {x y : Int} (z : Int) (h : x / y = z) (h0 : 0 ≤ x ∧ x < 9223372036854775808) (h1 : 0 < y) (w : World) : (binOp .quo t (.int .i64 x) (.int .i64 y)).run P w = .ok (.int .i64 z) w := by
  subst h
  have e : x.tdiv y = x / y := Int.tdiv_eq_ediv_of_nonneg h0.1
  have hz : IntKind.i64.wrap (x / y) = x / y := IntWalk.i64_in _ (by
    have h2 : 0 ≤ x / y := Int.ediv_nonneg h0.1 (by omega)
    have h3 : x / y ≤ x := Int.ediv_le_self y h0.1
    omega)
  have hy : y ≠ 0 := by omega
  simp [go_sem, hy, e, hz]
theorem b_or8 (t : TypeId) {x y : Int} (z : Int) (h : bits .or .u8 x y = z) (w : World) : (binOp .or t (.int .u8 x) (.int .u8 y)).run P w = .ok (.int .u8 z) w := by subst h; rfl
theorem b_shl4 (t : TypeId) {x : Int} (z : Int) (h : x * 16 % 256 = z) (w : World) : (binOp .shl t (.int .u8 x) (.int .u64 4)).run P w = .ok (.int .u8 z) w := by
  subst h
  have h := shift_shl .u8 .u64 x 4 (by decide) (by decide)
  rw [binOp_shl, h]
  show Result.ok (Value.int .u8 (IntKind.u8.wrap (x * 2 ^ (4 : Int).toNat))) w = _
  rw [IntKind.wrap_u8]
  rfl
theorem b_add32 (t : TypeId) {x y : Int} (z : Int) (h : x + y = z) (h0 : 0 ≤ z ∧ z < 4294967296) (w : World) : (binOp .add t (.int .u32 x) (.int .u32 y)).run P w = .ok (.int .u32 z) w := by
  subst h
  have hz : IntKind.u32.wrap (x + y) = x + y := IntWalk.u32_in _ (by omega)
  simp [go_sem, hz]
end
end Go.Proofs.Ytijnifbpbgckgaa
namespace Go.Proofs.Ytijnifbpbgckgaa
open Go.RowKit Go.Shelf
theorem lay : (∀ (a : Act) (v : Value), a.put none v = a) ∧ (∀ (T : Array Value) (D : List Deferred) (d : Nat) (v : Value), (⟨T, D⟩ : Act).put (some d) v = ⟨T.setIfInBounds d v, D⟩) ∧ (∀ (l : List Value) (i : Nat) (v : Value), l.toArray.setIfInBounds i v = (l.set i v).toArray) ∧
    (∀ (x : Value) (l : List Value) (v : Value), (x :: l).set 0 v = v :: l) ∧ (∀ (x : Value) (l : List Value) (i : Nat) (v : Value), (x :: l).set (i + 1) v = x :: l.set i v) :=
  ⟨fun _ _ => rfl, fun _ _ _ _ => rfl, fun _ _ _ => by simp, fun _ _ _ => rfl, fun _ _ _ _ => rfl⟩
end Go.Proofs.Ytijnifbpbgckgaa
namespace Go.Proofs.Ytijnifbpbgckgaa
open Go.RowKit Go.Shelf

set_option maxRecDepth 100000 in
set_option maxHeartbeats 4000000 in
theorem check6_any (d : D6) (p : W6) (w : World) (hR : Rd6 w.heap.size w d p) :
    Calls Try.prog 43 #[.agg (d.cells p)] w fun e w' => Num1 d.check e ∧ Below w.heap.size w w' := by
  have hB : Below w.heap.size w (w.alloc (.cells (d.cells p) 36)) := (Below.refl _ _).alloc (Nat.le_refl _) _
  have hH : Has (w.alloc (.cells (d.cells p) 36)) w.heap.size (.cells (d.cells p) 36 (0, 0)) := Has.newAt rfl
  obtain ⟨W1, hW1⟩ : ∃ W, w.alloc (.cells (d.cells p) 36) = W := ⟨_, rfl⟩
  rw [hW1] at hB hH
  have hR1 := (hR.below hB (Nat.le_refl _)).more hB.size
  have hbl := Nat.le_trans hR.body.cap hR.body.big
  have hz : (d.cells p).size = 42 := rfl
  obtain ⟨C, hC⟩ : ∃ C, d.check = C := ⟨_, rfl⟩
  rw [hC]
  go_enter Try.func43, Try.ntmps43
  go_wp2_with (refine wpList_load_row rfl 36 (.tmp 1) rfl w.heap.size rfl 36 (d.cells p) (0, 0) _ hH Try.underlying36 rfl v6_info ?_)
  refine (right_any d p W1 hR1).mono ?_
  rintro e w1 ⟨⟨q, rfl, hq⟩, hb1⟩
  cases hr : d.right with
  | false =>
    obtain rfl : q = false := hq.out.trans hr
    have hC : Hid (C = 54) := Lib.hid (by rw [← hC, D6.check, if_pos hr])
    clear hr hq
    go_wp2
    go_ret
    exact ⟨Num1.mk hC.out.symm, hB.trans (hb1.mono hB.size)⟩
  | true =>
  obtain rfl : q = true := hq.out.trans hr
  have hsm := (D6.ahead_le hr).1
  have ha2 := (D6.ahead_le hr).2.1
  have ha3 := (D6.ahead_le hr).2.2
  obtain ⟨X, hX⟩ : ∃ X, d.ahead = X := ⟨_, rfl⟩
  rw [hX] at ha2 ha3
  clear hq hW1
  by_cases hlong : 65535 < d.bl.length + (X - 40)
  · have hC : Hid (C = 2) := Lib.hid (by rw [← hC, D6.check, if_neg (by simp [hr]), if_pos (by omega)])
    clear hr
    go_wp2
    refine wp_region_held_drew (S := fun W => Below W1.heap.size W1 W) (by kernel_rfl) (hb1.trans (below_drew _ _)) (fun hS => ?_)
    refine te 0 (.pointer (some ⟨w.heap.size, 41, none⟩)) hS rfl (by intro _ _; exact ex_field 41 0 (by exact rfl) Try.underlying36 (by exact rfl) rfl (by kernel_rfl) (by exact rfl)) ?_
    simp only [lay]
    refine te 1 (.slice p.bA d.bl.length p.bc) hS rfl (by intro _ h; exact ex_cell (by exact rfl) Try.underlying25 rfl (by exact rfl) ((hH.below h hH.lt).cell 41 rfl)) ?_
    simp only [lay]
    refine te 2 (.int .i64 (d.bl.length : Int)) hS rfl (by intro _ _; exact ex_len (by exact rfl) Try.underlying25 (by exact rfl)) ?_
    simp only [lay]
    refine te 3 (.agg (d.cells p)) hS rfl (by intro _ h; exact ex_load (by exact rfl) (by exact rfl) (((hH.below h hH.lt)).load (P := Try.prog) 36 Try.underlying36 rfl v6_info)) ?_
    simp only [lay]
    refine tk_callx (i := 4) (fun v _ => ∃ q : Int, v = .int .i64 q ∧ Hid (q = d.ahead)) (by kernel_rfl) rfl (by kernel_rfl) (by exact ex_call (by exact rfl) Try.func77 (by kernel_rfl) (by kernel_rfl) (by simp only [List.map_toArray, List.map_cons, List.map_nil] <;> rfl)) ((ahead_any d p _ ((hR1.below hS (Nat.le_refl _)).more hS.size) hsm).mono (fun e w' ⟨⟨q, he, hq⟩, hb⟩ => ⟨_, he, ⟨q, rfl, hq⟩, hS.trans (hb.mono hS.size)⟩)) ?_
    rintro v W6 ⟨q, rfl, hq⟩ hS6
    obtain rfl : q = (X : Int) := hq.out.trans (by rw [hX])
    simp only [lay]
    refine te 5 (.int .i64 ((X : Int) - 40)) hS6 rfl (by intro _ _; exact ex_bin (by exact rfl) (by exact rfl) (by exact rfl) (by decide) (b_sub _ _ rfl (by omega) _)) ?_
    simp only [lay]
    refine te 6 (.int .i64 (65535 - ((X : Int) - 40))) hS6 rfl (by intro _ _; exact ex_bin (by exact rfl) (by exact rfl) (by exact rfl) (by decide) (b_sub _ _ rfl (by omega) _)) ?_
    simp only [lay]
    refine te 7 (.bool true) hS6 rfl (by intro _ _; exact ex_bin (by exact rfl) (by exact rfl) (by exact rfl) (by decide) (b_gtr _ _ (decide_eq_true (by omega)) _)) ?_
    simp only [lay]
    refine wpAnyH_done (by kernel_rfl) ?_ _
    go_wp2
    go_ret
    exact ⟨Num1.mk hC.out.symm, hB.trans (hS6.mono hB.size)⟩
  · have hC : Hid (C = 0) := Lib.hid (by rw [← hC, D6.check, if_neg (by simp [hr]), if_neg (by omega)])
    clear hr
    go_wp2
    refine wp_region_held_drew (S := fun W => Below W1.heap.size W1 W) (by kernel_rfl) (hb1.trans (below_drew _ _)) (fun hS => ?_)
    refine te 0 (.pointer (some ⟨w.heap.size, 41, none⟩)) hS rfl (by intro _ _; exact ex_field 41 0 (by exact rfl) Try.underlying36 (by exact rfl) rfl (by kernel_rfl) (by exact rfl)) ?_
    simp only [lay]
    refine te 1 (.slice p.bA d.bl.length p.bc) hS rfl (by intro _ h; exact ex_cell (by exact rfl) Try.underlying25 rfl (by exact rfl) ((hH.below h hH.lt).cell 41 rfl)) ?_
    simp only [lay]
    refine te 2 (.int .i64 (d.bl.length : Int)) hS rfl (by intro _ _; exact ex_len (by exact rfl) Try.underlying25 (by exact rfl)) ?_
    simp only [lay]
    refine te 3 (.agg (d.cells p)) hS rfl (by intro _ h; exact ex_load (by exact rfl) (by exact rfl) (((hH.below h hH.lt)).load (P := Try.prog) 36 Try.underlying36 rfl v6_info)) ?_
    simp only [lay]
    refine tk_callx (i := 4) (fun v _ => ∃ q : Int, v = .int .i64 q ∧ Hid (q = d.ahead)) (by kernel_rfl) rfl (by kernel_rfl) (by exact ex_call (by exact rfl) Try.func77 (by kernel_rfl) (by kernel_rfl) (by simp only [List.map_toArray, List.map_cons, List.map_nil] <;> rfl)) ((ahead_any d p _ ((hR1.below hS (Nat.le_refl _)).more hS.size) hsm).mono (fun e w' ⟨⟨q, he, hq⟩, hb⟩ => ⟨_, he, ⟨q, rfl, hq⟩, hS.trans (hb.mono hS.size)⟩)) ?_
    rintro v W6 ⟨q, rfl, hq⟩ hS6
    obtain rfl : q = (X : Int) := hq.out.trans (by rw [hX])
    simp only [lay]
    refine te 5 (.int .i64 ((X : Int) - 40)) hS6 rfl (by intro _ _; exact ex_bin (by exact rfl) (by exact rfl) (by exact rfl) (by decide) (b_sub _ _ rfl (by omega) _)) ?_
    simp only [lay]
    refine te 6 (.int .i64 (65535 - ((X : Int) - 40))) hS6 rfl (by intro _ _; exact ex_bin (by exact rfl) (by exact rfl) (by exact rfl) (by decide) (b_sub _ _ rfl (by omega) _)) ?_
    simp only [lay]
    refine te 7 (.bool false) hS6 rfl (by intro _ _; exact ex_bin (by exact rfl) (by exact rfl) (by exact rfl) (by decide) (b_gtr _ _ (decide_eq_false (by omega)) _)) ?_
    simp only [lay]
    refine wpAnyH_done (by kernel_rfl) ?_ _
    go_wp2
    go_ret
    exact ⟨Num1.mk hC.out.symm, hB.trans (hS6.mono hB.size)⟩

set_option maxRecDepth 100000 in
set_option maxHeartbeats 4000000 in
theorem rcheck6_any (d : D6) (p : W6) (w : World) (hR : Rd6 w.heap.size w d p) :
    Calls Try.prog 49 #[.agg (d.cells p)] w fun e w' => Num1 d.check e ∧ Below w.heap.size w w' := by
  have hB : Below w.heap.size w (w.alloc (.cells (d.cells p) 36)) := (Below.refl _ _).alloc (Nat.le_refl _) _
  have hH : Has (w.alloc (.cells (d.cells p) 36)) w.heap.size (.cells (d.cells p) 36 (0, 0)) := Has.newAt rfl
  obtain ⟨W1, hW1⟩ : ∃ W, w.alloc (.cells (d.cells p) 36) = W := ⟨_, rfl⟩
  rw [hW1] at hB hH
  have hR1 := (hR.below hB (Nat.le_refl _)).more hB.size
  have hbl := Nat.le_trans hR.body.cap hR.body.big
  have hz : (d.cells p).size = 42 := rfl
  obtain ⟨C, hC⟩ : ∃ C, d.check = C := ⟨_, rfl⟩
  rw [hC]
  go_enter Try.func49, Try.ntmps49
  go_wp2_with (refine wpList_load_row rfl 36 (.tmp 1) rfl w.heap.size rfl 36 (d.cells p) (0, 0) _ hH Try.underlying36 rfl v6_info ?_)
  refine (rright_any d p W1 hR1).mono ?_
  rintro e w1 ⟨⟨q, rfl, hq⟩, hb1⟩
  cases hr : d.right with
  | false =>
    obtain rfl : q = false := hq.out.trans hr
    have hC : Hid (C = 54) := Lib.hid (by rw [← hC, D6.check, if_pos hr])
    clear hr hq
    go_wp2
    go_ret
    exact ⟨Num1.mk hC.out.symm, hB.trans (hb1.mono hB.size)⟩
  | true =>
  obtain rfl : q = true := hq.out.trans hr
  have hsm := (D6.ahead_le hr).1
  have ha2 := (D6.ahead_le hr).2.1
  have ha3 := (D6.ahead_le hr).2.2
  obtain ⟨X, hX⟩ : ∃ X, d.ahead = X := ⟨_, rfl⟩
  rw [hX] at ha2 ha3
  clear hq hW1
  by_cases hlg : 65535 < d.bl.length
  · have hC : Hid (C = 2) := Lib.hid (by rw [← hC, D6.check, if_neg (by simp [hr]), if_pos (by omega)])
    clear hr
    go_wp2
    refine wp_region_held_drew (S := fun W => Below W1.heap.size W1 W) (by kernel_rfl) (hb1.trans (below_drew _ _)) (fun hS => ?_)
    refine te 0 (.pointer (some ⟨w.heap.size, 41, none⟩)) hS rfl (by intro _ _; exact ex_field 41 0 (by exact rfl) Try.underlying36 (by exact rfl) rfl (by kernel_rfl) (by exact rfl)) ?_
    simp only [lay]
    refine te 1 (.slice p.bA d.bl.length p.bc) hS rfl (by intro _ h; exact ex_cell (by exact rfl) Try.underlying25 rfl (by exact rfl) ((hH.below h hH.lt).cell 41 rfl)) ?_
    simp only [lay]
    refine te 2 (.int .i64 (d.bl.length : Int)) hS rfl (by intro _ _; exact ex_len (by exact rfl) Try.underlying25 (by exact rfl)) ?_
    simp only [lay]
    refine te 3 (.bool true) hS rfl (by intro _ _; exact ex_bin (by exact rfl) (by exact rfl) (by exact rfl) (by decide) (b_gtr _ _ (decide_eq_true (by omega)) _)) ?_
    simp only [lay]
    refine te 4 (.bool true) hS rfl (by intro _ _; exact rfl) ?_
    simp only [lay]
    refine tn 5 hS rfl ?_
    simp only [lay]
    refine tn 6 hS rfl ?_
    simp only [lay]
    refine tn 7 hS rfl ?_
    simp only [lay]
    refine tn 8 hS rfl ?_
    simp only [lay]
    refine tn 9 hS rfl ?_
    simp only [lay]
    refine tn 10 hS rfl ?_
    simp only [lay]
    refine tn 11 hS rfl ?_
    simp only [lay]
    refine tn 12 hS rfl ?_
    simp only [lay]
    refine te 13 (.bool true) hS rfl (by intro _ _; exact rfl) ?_
    simp only [lay]
    refine wpAnyH_done (by kernel_rfl) ?_ _
    go_wp2
    go_ret
    exact ⟨Num1.mk hC.out.symm, hB.trans (hS.mono hB.size)⟩
  by_cases hlong : 65535 < d.bl.length + (X - 40)
  · have hC : Hid (C = 2) := Lib.hid (by rw [← hC, D6.check, if_neg (by simp [hr]), if_pos (by omega)])
    clear hr
    go_wp2
    refine wp_region_held_drew (S := fun W => Below W1.heap.size W1 W) (by kernel_rfl) (hb1.trans (below_drew _ _)) (fun hS => ?_)
    refine te 0 (.pointer (some ⟨w.heap.size, 41, none⟩)) hS rfl (by intro _ _; exact ex_field 41 0 (by exact rfl) Try.underlying36 (by exact rfl) rfl (by kernel_rfl) (by exact rfl)) ?_
    simp only [lay]
    refine te 1 (.slice p.bA d.bl.length p.bc) hS rfl (by intro _ h; exact ex_cell (by exact rfl) Try.underlying25 rfl (by exact rfl) ((hH.below h hH.lt).cell 41 rfl)) ?_
    simp only [lay]
    refine te 2 (.int .i64 (d.bl.length : Int)) hS rfl (by intro _ _; exact ex_len (by exact rfl) Try.underlying25 (by exact rfl)) ?_
    simp only [lay]
    refine te 3 (.bool false) hS rfl (by intro _ _; exact ex_bin (by exact rfl) (by exact rfl) (by exact rfl) (by decide) (b_gtr _ _ (decide_eq_false (by omega)) _)) ?_
    simp only [lay]
    refine te 4 (.bool false) hS rfl (by intro _ _; exact rfl) ?_
    simp only [lay]
    refine te 5 (.agg (d.cells p)) hS rfl (by intro _ h; exact ex_load (by exact rfl) (by exact rfl) (((hH.below h hH.lt)).load (P := Try.prog) 36 Try.underlying36 rfl v6_info)) ?_
    simp only [lay]
    refine te 8 (.pointer (some ⟨w.heap.size, 41, none⟩)) hS rfl (by intro _ _; exact ex_field 41 0 (by exact rfl) Try.underlying36 (by exact rfl) rfl (by kernel_rfl) (by exact rfl)) ?_
    simp only [lay]
    refine te 9 (.slice p.bA d.bl.length p.bc) hS rfl (by intro _ h; exact ex_cell (by exact rfl) Try.underlying25 rfl (by exact rfl) ((hH.below h hH.lt).cell 41 rfl)) ?_
    simp only [lay]
    refine te 10 (.int .i64 (d.bl.length : Int)) hS rfl (by intro _ _; exact ex_len (by exact rfl) Try.underlying25 (by exact rfl)) ?_
    simp only [lay]
    refine tk_callx (i := 6) (fun v _ => ∃ q : Int, v = .int .i64 q ∧ Hid (q = d.ahead)) (by kernel_rfl) rfl (by kernel_rfl) (by exact ex_call (by exact rfl) Try.func64 (by kernel_rfl) (by kernel_rfl) (by simp only [List.map_toArray, List.map_cons, List.map_nil] <;> rfl)) ((rheads_any d p _ ((hR1.below hS (Nat.le_refl _)).more hS.size) hsm).mono (fun e w' ⟨⟨q, he, hq⟩, hb⟩ => ⟨_, he, ⟨q, rfl, hq⟩, hS.trans (hb.mono hS.size)⟩)) ?_
    rintro v W6 ⟨q, rfl, hq⟩ hS6
    obtain rfl : q = (X : Int) := hq.out.trans (by rw [hX])
    simp only [lay]
    refine te 7 (.int .i64 ((X : Int) - 40)) hS6 rfl (by intro _ _; exact ex_bin (by exact rfl) (by exact rfl) (by exact rfl) (by decide) (b_sub _ _ rfl (by omega) _)) ?_
    simp only [lay]
    refine te 11 (.int .i64 ((X : Int) - 40 + (d.bl.length : Int))) hS6 rfl (by intro _ _; exact ex_bin (by exact rfl) (by exact rfl) (by exact rfl) (by decide) (b_add _ _ rfl (by omega) _)) ?_
    simp only [lay]
    refine te 12 (.bool true) hS6 rfl (by intro _ _; exact ex_bin (by exact rfl) (by exact rfl) (by exact rfl) (by decide) (b_gtr _ _ (decide_eq_true (by omega)) _)) ?_
    simp only [lay]
    refine te 13 (.bool true) hS6 rfl (by intro _ _; exact rfl) ?_
    simp only [lay]
    refine wpAnyH_done (by kernel_rfl) ?_ _
    go_wp2
    go_ret
    exact ⟨Num1.mk hC.out.symm, hB.trans (hS6.mono hB.size)⟩
  · have hC : Hid (C = 0) := Lib.hid (by rw [← hC, D6.check, if_neg (by simp [hr]), if_neg (by omega)])
    clear hr
    go_wp2
    refine wp_region_held_drew (S := fun W => Below W1.heap.size W1 W) (by kernel_rfl) (hb1.trans (below_drew _ _)) (fun hS => ?_)
    refine te 0 (.pointer (some ⟨w.heap.size, 41, none⟩)) hS rfl (by intro _ _; exact ex_field 41 0 (by exact rfl) Try.underlying36 (by exact rfl) rfl (by kernel_rfl) (by exact rfl)) ?_
    simp only [lay]
    refine te 1 (.slice p.bA d.bl.length p.bc) hS rfl (by intro _ h; exact ex_cell (by exact rfl) Try.underlying25 rfl (by exact rfl) ((hH.below h hH.lt).cell 41 rfl)) ?_
    simp only [lay]
    refine te 2 (.int .i64 (d.bl.length : Int)) hS rfl (by intro _ _; exact ex_len (by exact rfl) Try.underlying25 (by exact rfl)) ?_
    simp only [lay]
    refine te 3 (.bool false) hS rfl (by intro _ _; exact ex_bin (by exact rfl) (by exact rfl) (by exact rfl) (by decide) (b_gtr _ _ (decide_eq_false (by omega)) _)) ?_
    simp only [lay]
    refine te 4 (.bool false) hS rfl (by intro _ _; exact rfl) ?_
    simp only [lay]
    refine te 5 (.agg (d.cells p)) hS rfl (by intro _ h; exact ex_load (by exact rfl) (by exact rfl) (((hH.below h hH.lt)).load (P := Try.prog) 36 Try.underlying36 rfl v6_info)) ?_
    simp only [lay]
    refine te 8 (.pointer (some ⟨w.heap.size, 41, none⟩)) hS rfl (by intro _ _; exact ex_field 41 0 (by exact rfl) Try.underlying36 (by exact rfl) rfl (by kernel_rfl) (by exact rfl)) ?_
    simp only [lay]
    refine te 9 (.slice p.bA d.bl.length p.bc) hS rfl (by intro _ h; exact ex_cell (by exact rfl) Try.underlying25 rfl (by exact rfl) ((hH.below h hH.lt).cell 41 rfl)) ?_
    simp only [lay]
    refine te 10 (.int .i64 (d.bl.length : Int)) hS rfl (by intro _ _; exact ex_len (by exact rfl) Try.underlying25 (by exact rfl)) ?_
    simp only [lay]
    refine tk_callx (i := 6) (fun v _ => ∃ q : Int, v = .int .i64 q ∧ Hid (q = d.ahead)) (by kernel_rfl) rfl (by kernel_rfl) (by exact ex_call (by exact rfl) Try.func64 (by kernel_rfl) (by kernel_rfl) (by simp only [List.map_toArray, List.map_cons, List.map_nil] <;> rfl)) ((rheads_any d p _ ((hR1.below hS (Nat.le_refl _)).more hS.size) hsm).mono (fun e w' ⟨⟨q, he, hq⟩, hb⟩ => ⟨_, he, ⟨q, rfl, hq⟩, hS.trans (hb.mono hS.size)⟩)) ?_
    rintro v W6 ⟨q, rfl, hq⟩ hS6
    obtain rfl : q = (X : Int) := hq.out.trans (by rw [hX])
    simp only [lay]
    refine te 7 (.int .i64 ((X : Int) - 40)) hS6 rfl (by intro _ _; exact ex_bin (by exact rfl) (by exact rfl) (by exact rfl) (by decide) (b_sub _ _ rfl (by omega) _)) ?_
    simp only [lay]
    refine te 11 (.int .i64 ((X : Int) - 40 + (d.bl.length : Int))) hS6 rfl (by intro _ _; exact ex_bin (by exact rfl) (by exact rfl) (by exact rfl) (by decide) (b_add _ _ rfl (by omega) _)) ?_
    simp only [lay]
    refine te 12 (.bool false) hS6 rfl (by intro _ _; exact ex_bin (by exact rfl) (by exact rfl) (by exact rfl) (by decide) (b_gtr _ _ (decide_eq_false (by omega)) _)) ?_
    simp only [lay]
    refine te 13 (.bool false) hS6 rfl (by intro _ _; exact rfl) ?_
    simp only [lay]
    refine wpAnyH_done (by kernel_rfl) ?_ _
    go_wp2
    go_ret
    exact ⟨Num1.mk hC.out.symm, hB.trans (hS6.mono hB.size)⟩

end Go.Proofs.Ytijnifbpbgckgaa
