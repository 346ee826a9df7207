/-
  Lemmas and walks for the row of TosixRight (part 6 of 33).
-/
import Derived.Test.YtijnifbpbgckgaaTrAD
import Derived.Test.YtijnifbpbgckgaaTrAE
import Derived.Laws.CopyOwn
set_option linter.unusedVariables false
set_option linter.unusedSimpArgs false
namespace Go.Proofs.Ytijnifbpbgckgaa
open Go.RowKit

section
variable {P : Program}
variable {md : Region.Mode} {ops : Array Oper} {Q : Exit → Act → World → Prop} {S : World → Prop}
theorem conv_u16 (src dst : TypeId) (k : IntKind) (n : Int) (hs : (P.underlying src).isSome = true) (hd : P.underlying dst = some (.int .u16)) (h0 : 0 ≤ n) (h1 : n < 65536) (w : World) : (convert src dst (.int k n)).run P w = .ok (.int .u16 n) w := by
  have hk : P.intKind dst = .u16 := by simp [Program.intKind, hd]
  have := run_convert_int (P := P) w src dst k n hs (by rw [hk]; exact hd)
  rw [hk, IntWalk.u16_in n ⟨h0, by omega⟩] at this
  exact this
theorem conv_u32 (src dst : TypeId) (k : IntKind) (n : Int) (hs : (P.underlying src).isSome = true) (hd : P.underlying dst = some (.int .u32)) (h0 : 0 ≤ n) (h1 : n < 4294967296) (w : World) : (convert src dst (.int k n)).run P w = .ok (.int .u32 n) w := by
  have hk : P.intKind dst = .u32 := by simp [Program.intKind, hd]
  have := run_convert_int (P := P) w src dst k n hs (by rw [hk]; exact hd)
  rw [hk, IntWalk.u32_in n ⟨h0, by omega⟩] at this
  exact this
end
end Go.Proofs.Ytijnifbpbgckgaa
namespace Go.Proofs.Ytijnifbpbgckgaa
open Go.RowKit

section
variable {P : Program}
variable {md : Region.Mode} {ops : Array Oper} {Q : Exit → Act → World → Prop} {S : World → Prop}
end

section
variable {P : Program} {ops : Array Oper} {Q : Exit → Act → World → Prop}
end

section
variable {P : Program} {md : Region.Mode} {ops : Array Oper} {Q : Exit → Act → World → Prop} {S : World → Prop}
theorem add1_i64 (t : TypeId) (k : Nat) (h : k < 9223372036854775807) (w : World) : (binOp .add t (.int .i64 (k : Int)) (.int .i64 1)).run P w = .ok (.int .i64 ((k + 1 : Nat) : Int)) w := by
  rw [add_i64 t (k : Int) 1 (by omega) w, Int.natCast_add]
  rfl
theorem shr8_i64 (t : TypeId) (m : Int) (w : World) : (binOp .shr t (.int .i64 m) (.int .u64 8)).run P w = .ok (.int .i64 (m / 256)) w := by
  have h := shift_shr_i64 (x := m) (y := 8) (yk := .u64) (by decide) (by decide)
  rw [binOp_shr, h]
  rfl
theorem conv_u8' (src dst : TypeId) (k : IntKind) (n : Int) (hs : (P.underlying src).isSome = true) (hd : P.underlying dst = some (.int .u8)) (h : 0 ≤ n ∧ n < 256) (w : World) : (convert src dst (.int k n)).run P w = .ok (.int .u8 n) w := by
  rw [conv_u8 src dst k n hs hd, show n % 256 = n from by omega]
end

section
variable {P : Program} {md : Region.Mode} {ops : Array Oper} {Q : Exit → Act → World → Prop} {S : World → Prop}
theorem exec_copy {a : Act} {o : Oper} {w : World} (d s : Operand) (dT sT : TypeId) (ho : o.op = .call { callee := .builtin .copy, args := #[d, s], argTypes := #[dT, sT] }) {e : TypeId} (hu : P.underlying dT = some (.slice e)) (hsz : (P.info? e).map (·.size) = some 1)
    {g off n m dc : Nat} (hd : a.eval d = .slice (some ⟨g, off, none⟩) n dc) {A : Option Addr} {c : Nat} {l : List Int} (hs : a.eval s = .slice A m c) {B : Nat} (hy : By B w A m c l) (hm : m = n) (hpos : 0 < n) {cur new : Array Value} {t : TypeId} (hg : Has w g (.cells cur t (0, 0)))
    (hfit : off + n ≤ cur.size) (hnew : (cur.toList.take off ++ u8s l ++ cur.toList.drop (off + n)).toArray = new) : (execOp a.eval o).run P w = .ok (.value (goInt n)) (w.setRow g new) := by
  subst hm
  have hl := hy.len
  obtain ⟨b, o2, rfl, _, hc⟩ := hy.row.at_ hpos
  have hr := run_copy_row (P := P) w dT sT o.type e g off m dc ⟨b, o2, none⟩ m c cur t (u8s l) hu hsz hg (by rw [u8s_length, hl]; exact (Nat.min_self _).symm) (fun j v hj => by
    rw [Go.WideShapes.add_plain]
    have hj2 : j < m := by have := (List.getElem?_eq_some_iff.1 hj).1; rw [u8s_length, hl] at this; exact this
    rw [hc j hj2]; exact hj) (by rw [u8s_length, hl]; exact hfit) (fun v hv => by obtain ⟨y, _, rfl⟩ := List.mem_map.1 hv; rfl)
  rw [u8s_length, hl, hnew] at hr
  unfold execOp
  simp [ho, resolve, invoke, builtin, hd, hs, hr, Result.andThen]
/-- number i alone is ready: a copy of bytes into a block of the call's own -/
theorem tk_copy {i : Nat} {o : Oper} {fuel : Nat} {listed : Array Bool} {a : Act} {w : World} (d s : Operand) (dT sT : TypeId) (hr : Region.ready md ops listed = [i]) (hi : ops.toList[i]? = some o) (hw : Region.wanted o (yielded ops a.tmps) = true) (ho : o.op = .call { callee := .builtin .copy, args := #[d, s], argTypes := #[dT, sT] }) {e : TypeId} (hu : P.underlying dT = some (.slice e)) (hsz : (P.info? e).map (·.size) = some 1)
    {g off n m dc : Nat} (hd : a.eval d = .slice (some ⟨g, off, none⟩) n dc) {A : Option Addr} {c : Nat} {l : List Int} (hs : a.eval s = .slice A m c) {B : Nat} (hy : By B w A m c l) (hm : m = n) (hpos : 0 < n) {cur new : Array Value} {t : TypeId} (hg : Has w g (.cells cur t (0, 0)))
    (hfit : off + n ≤ cur.size) (hnew : (cur.toList.take off ++ u8s l ++ cur.toList.drop (off + n)).toArray = new) (hS : S (w.setRow g new))
    (h : wpAnyH P md ops Q S fuel (listed.setIfInBounds i true) (a.put o.dst (goInt n)) (w.setRow g new)) : wpAnyH P md ops Q S (fuel + 1) listed a w :=
  wpAnyH_all hr (by simp) fun j hj => by
    obtain rfl : j = i := by simpa using hj
    have hi : ops[j]? = some o := by simpa using hi
    unfold wpOp
    rw [hi]
    simp only [hw, if_true]
    left
    unfold Oper.wp
    rw [exec_copy d s dT sT ho hu hsz hd hs hy hm hpos hg hfit hnew]
    exact ⟨hS, h⟩
end
end Go.Proofs.Ytijnifbpbgckgaa
namespace Go.Proofs.Ytijnifbpbgckgaa
open Go.RowKit

section
variable {P : Program}
theorem conv_i64 (src dst : TypeId) (k : IntKind) (n : Int) (hs : (P.underlying src).isSome = true) (hd : P.underlying dst = some (.int .i64)) (h : -9223372036854775808 ≤ n ∧ n < 9223372036854775808) (w : World) : (convert src dst (.int k n)).run P w = .ok (.int .i64 n) w := by
  have hk : P.intKind dst = .i64 := by simp [Program.intKind, hd]
  have := run_convert_int (P := P) w src dst k n hs (by rw [hk]; exact hd)
  rw [hk, IntWalk.i64_in n (by omega)] at this
  exact this
theorem b_shl8_u16 (t : TypeId) (x : Int) (h : 0 ≤ x ∧ x ≤ 255) (w : World) : (binOp .shl t (.int .u16 x) (.int .u64 8)).run P w = .ok (.int .u16 (x * 256)) w := by
  have h1 := h.1
  have h2 := h.2
  clear h
  go_simp
  exact IntWalk.u16_in _ ⟨by omega, by omega⟩
theorem b_or_u16 (t : TypeId) (x y z : Int) (h : bits .or .u16 x y = z) (w : World) : (binOp .or t (.int .u16 x) (.int .u16 y)).run P w = .ok (.int .u16 z) w := by subst h; rfl
theorem By.mid {B : Nat} {w : World} {A : Option Addr} {n c : Nat} {l : List Int} (h : By B w A n c l) (t : TypeId) (ht : P.underlying t = some (.slice 5)) (hs : (P.info? 5).map (·.size) = some 1) {k m : Nat} (hk : k ≤ m) (hm : m ≤ n) :
    ∃ A' c', (∀ w', (Instr.sliceAt t (.slice A n c) (some (.int .i64 (k : Int))) (some (.int .i64 (m : Int))) none).run P w' = .ok (.slice A' (m - k) c') w') ∧ By B w A' (m - k) c' ((l.take m).drop k) := by
  refine ⟨_, _, fun w' => ?_, (h.take hm).cut hk⟩
  have hcap := h.cap
  have he : P.elem t = 5 := by simp [Program.elem, ht]
  have hsz : (sizeOf 5).run P w' = .ok 1 w' := by
    cases hq : P.info? 5 with
    | none => simp [hq] at hs
    | some i => simp [hq] at hs; simp [sizeOf, typeInfo, hq, hs]
  rw [run_sliceAt_slice w' t _ _ _ _ (by rw [he]; exact ht), run_slice_lh w' t _ _ _ (by rw [he]; exact ht) .i64 .i64 (k : Int) (m : Int) (by omega) (by omega) (by omega), he, hsz]
  simp [sliced, Result.andThen]
end
section
variable {P : Program} {md : Region.Mode} {ops : Array Oper} {Q : Exit → Act → World → Prop} {S : World → Prop}
end
end Go.Proofs.Ytijnifbpbgckgaa
namespace Go.Proofs.Ytijnifbpbgckgaa
open Go.RowKit

section
variable {P : Program}
theorem b_sub (t : TypeId) {x y : Int} (z : Int) (h : x - y = z) (h0 : -9223372036854775808 ≤ z ∧ z < 9223372036854775808) (w : World) : (binOp .sub t (.int .i64 x) (.int .i64 y)).run P w = .ok (.int .i64 z) w := by
  subst h
  have h1 := h0.1
  have h2 := h0.2
  clear h0
  go_simp
  exact IntWalk.i64_in _ (by omega)
theorem b_add (t : TypeId) {x y : Int} (z : Int) (h : x + y = z) (h0 : -9223372036854775808 ≤ z ∧ z < 9223372036854775808) (w : World) : (binOp .add t (.int .i64 x) (.int .i64 y)).run P w = .ok (.int .i64 z) w := by
  subst h
  exact add_i64 t x y h0 w
theorem b_gtr (t : TypeId) {x y : Int} (q : Bool) (h : decide (y < x) = q) (w : World) : (binOp .gtr t (.int .i64 x) (.int .i64 y)).run P w = .ok (.bool q) w := by
  subst h
  rfl
theorem b_shr (k : IntKind) (t : TypeId) {x : Int} (n : Nat) (z : Int) (h : x / 2 ^ n = z) (hn : n ≤ k.bits) (w : World) : (binOp .shr t (.int k x) (.int .u64 (n : Int))).run P w = .ok (.int k z) w := by
  subst h
  have h := shift_shr k .u64 x (n : Int) (Int.natCast_nonneg n) (by exact_mod_cast hn)
  rw [binOp_shr, h]
  rfl
theorem b_quo (t : TypeId) {x y : Int} (z : Int) (h : x / y = z) (h0 : 0 ≤ x ∧ x < 9223372036854775808) (h1 : 0 < y) (w : World) : (binOp .quo t (.int .i64 x) (.int .i64 y)).run P w = .ok (.int .i64 z) w := by
  subst h
  have e : x.tdiv y = x / y := Int.tdiv_eq_ediv_of_nonneg h0.1
  have hz : IntKind.i64.wrap (x / y) = x / y := IntWalk.i64_in _ (by
    have h2 : 0 ≤ x / y := Int.ediv_nonneg h0.1 (by omega)
    have h3 : x / y ≤ x := Int.ediv_le_self y h0.1
    omega)
  have hy : y ≠ 0 := by omega
  simp [go_sem, hy, e, hz]
theorem b_or8 (t : TypeId) {x y : Int} (z : Int) (h : bits .or .u8 x y = z) (w : World) : (binOp .or t (.int .u8 x) (.int .u8 y)).run P w = .ok (.int .u8 z) w := by subst h; rfl
theorem b_shl4 (t : TypeId) {x : Int} (z : Int) (h : x * 16 % 256 = z) (w : World) : (binOp .shl t (.int .u8 x) (.int .u64 4)).run P w = .ok (.int .u8 z) w := by
  subst h
  have h := shift_shl .u8 .u64 x 4 (by decide) (by decide)
  rw [binOp_shl, h]
  show Result.ok (Value.int .u8 (IntKind.u8.wrap (x * 2 ^ (4 : Int).toNat))) w = _
  rw [IntKind.wrap_u8]
  rfl
end
end Go.Proofs.Ytijnifbpbgckgaa
namespace Go.Proofs.Ytijnifbpbgckgaa
open Go.RowKit Go.Shelf
theorem lay : (∀ (a : Act) (v : Value), a.put none v = a) ∧ (∀ (T : Array Value) (D : List Deferred) (d : Nat) (v : Value), (⟨T, D⟩ : Act).put (some d) v = ⟨T.setIfInBounds d v, D⟩) ∧ (∀ (l : List Value) (i : Nat) (v : Value), l.toArray.setIfInBounds i v = (l.set i v).toArray) ∧
    (∀ (x : Value) (l : List Value) (v : Value), (x :: l).set 0 v = v :: l) ∧ (∀ (x : Value) (l : List Value) (i : Nat) (v : Value), (x :: l).set (i + 1) v = x :: l.set i v) :=
  ⟨fun _ _ => rfl, fun _ _ _ _ => rfl, fun _ _ _ => by simp, fun _ _ _ => rfl, fun _ _ _ _ => rfl⟩
end Go.Proofs.Ytijnifbpbgckgaa
namespace Go.Proofs.Ytijnifbpbgckgaa
open Go.RowKit Go.Shelf

set_option maxRecDepth 100000 in
set_option maxHeartbeats 4000000 in
theorem check6_any (d : D6) (p : W6) (w : World) (hR : Rd6 w.heap.size w d p) :
    Calls Try.prog 43 #[.agg (d.cells p)] w fun e w' => Num1 d.check e ∧ Below w.heap.size w w' := by
  have hB : Below w.heap.size w (w.alloc (.cells (d.cells p) 36)) := (Below.refl _ _).alloc (Nat.le_refl _) _
  have hH : Has (w.alloc (.cells (d.cells p) 36)) w.heap.size (.cells (d.cells p) 36 (0, 0)) := Has.newAt rfl
  obtain ⟨W1, hW1⟩ : ∃ W, w.alloc (.cells (d.cells p) 36) = W := ⟨_, rfl⟩
  rw [hW1] at hB hH
  have hR1 := (hR.below hB (Nat.le_refl _)).more hB.size
  have hbl := Nat.le_trans hR.body.cap hR.body.big
  have hz : (d.cells p).size = 42 := rfl
  obtain ⟨C, hC⟩ : ∃ C, d.check = C := ⟨_, rfl⟩
  rw [hC]
  go_enter Try.func43, Try.ntmps43
  go_wp2_with (refine wpList_load_row rfl 36 (.tmp 1) rfl w.heap.size rfl 36 (d.cells p) (0, 0) _ hH Try.underlying36 rfl v6_info ?_)
  refine (right_any d p W1 hR1).mono ?_
  rintro e w1 ⟨⟨q, rfl, hq⟩, hb1⟩
  cases hr : d.right with
  | false =>
    obtain rfl : q = false := hq.out.trans hr
    have hC : Hid (C = 54) := Lib.hid (by rw [← hC, D6.check, if_pos hr])
    clear hr hq
    go_wp2
    go_ret
    exact ⟨Num1.mk hC.out.symm, hB.trans (hb1.mono hB.size)⟩
  | true =>
  obtain rfl : q = true := hq.out.trans hr
  have hsm := (D6.ahead_le hr).1
  have ha2 := (D6.ahead_le hr).2.1
  have ha3 := (D6.ahead_le hr).2.2
  obtain ⟨X, hX⟩ : ∃ X, d.ahead = X := ⟨_, rfl⟩
  rw [hX] at ha2 ha3
  clear hq hW1
  by_cases hlong : 65535 < d.bl.length + (X - 40)
  · have hC : Hid (C = 2) := Lib.hid (by rw [← hC, D6.check, if_neg (by simp [hr]), if_pos (by omega)])
    clear hr
    go_wp2
    refine wp_region_held_drew (S := fun W => Below W1.heap.size W1 W) (by kernel_rfl) (hb1.trans (below_drew _ _)) (fun hS => ?_)
    refine te 0 (.pointer (some ⟨w.heap.size, 41, none⟩)) hS rfl (by intro _ _; exact ex_field 41 0 (by exact rfl) Try.underlying36 (by exact rfl) rfl (by kernel_rfl) (by exact rfl)) ?_
    simp only [lay]
    refine te 1 (.slice p.bA d.bl.length p.bc) hS rfl (by intro _ h; exact ex_cell (by exact rfl) Try.underlying25 rfl (by exact rfl) ((hH.below h hH.lt).cell 41 rfl)) ?_
    simp only [lay]
    refine te 2 (.int .i64 (d.bl.length : Int)) hS rfl (by intro _ _; exact ex_len (by exact rfl) Try.underlying25 (by exact rfl)) ?_
    simp only [lay]
    refine te 3 (.agg (d.cells p)) hS rfl (by intro _ h; exact ex_load (by exact rfl) (by exact rfl) (((hH.below h hH.lt)).load (P := Try.prog) 36 Try.underlying36 rfl v6_info)) ?_
    simp only [lay]
    refine tk_callx (i := 4) (fun v _ => ∃ q : Int, v = .int .i64 q ∧ Hid (q = d.ahead)) (by kernel_rfl) rfl (by kernel_rfl) (by exact ex_call (by exact rfl) Try.func77 (by kernel_rfl) (by kernel_rfl) (by simp only [List.map_toArray, List.map_cons, List.map_nil] <;> rfl)) ((ahead_any d p _ ((hR1.below hS (Nat.le_refl _)).more hS.size) hsm).mono (fun e w' ⟨⟨q, he, hq⟩, hb⟩ => ⟨_, he, ⟨q, rfl, hq⟩, hS.trans (hb.mono hS.size)⟩)) ?_
    rintro v W6 ⟨q, rfl, hq⟩ hS6
    obtain rfl : q = (X : Int) := hq.out.trans (by rw [hX])
    simp only [lay]
    refine te 5 (.int .i64 ((X : Int) - 40)) hS6 rfl (by intro _ _; exact ex_bin (by exact rfl) (by exact rfl) (by exact rfl) (by decide) (b_sub _ _ rfl (by omega) _)) ?_
    simp only [lay]
    refine te 6 (.int .i64 (65535 - ((X : Int) - 40))) hS6 rfl (by intro _ _; exact ex_bin (by exact rfl) (by exact rfl) (by exact rfl) (by decide) (b_sub _ _ rfl (by omega) _)) ?_
    simp only [lay]
    refine te 7 (.bool true) hS6 rfl (by intro _ _; exact ex_bin (by exact rfl) (by exact rfl) (by exact rfl) (by decide) (b_gtr _ _ (decide_eq_true (by omega)) _)) ?_
    simp only [lay]
    refine wpAnyH_done (by kernel_rfl) ?_ _
    go_wp2
    go_ret
    exact ⟨Num1.mk hC.out.symm, hB.trans (hS6.mono hB.size)⟩
  · have hC : Hid (C = 0) := Lib.hid (by rw [← hC, D6.check, if_neg (by simp [hr]), if_neg (by omega)])
    clear hr
    go_wp2
    refine wp_region_held_drew (S := fun W => Below W1.heap.size W1 W) (by kernel_rfl) (hb1.trans (below_drew _ _)) (fun hS => ?_)
    refine te 0 (.pointer (some ⟨w.heap.size, 41, none⟩)) hS rfl (by intro _ _; exact ex_field 41 0 (by exact rfl) Try.underlying36 (by exact rfl) rfl (by kernel_rfl) (by exact rfl)) ?_
    simp only [lay]
    refine te 1 (.slice p.bA d.bl.length p.bc) hS rfl (by intro _ h; exact ex_cell (by exact rfl) Try.underlying25 rfl (by exact rfl) ((hH.below h hH.lt).cell 41 rfl)) ?_
    simp only [lay]
    refine te 2 (.int .i64 (d.bl.length : Int)) hS rfl (by intro _ _; exact ex_len (by exact rfl) Try.underlying25 (by exact rfl)) ?_
    simp only [lay]
    refine te 3 (.agg (d.cells p)) hS rfl (by intro _ h; exact ex_load (by exact rfl) (by exact rfl) (((hH.below h hH.lt)).load (P := Try.prog) 36 Try.underlying36 rfl v6_info)) ?_
    simp only [lay]
    refine tk_callx (i := 4) (fun v _ => ∃ q : Int, v = .int .i64 q ∧ Hid (q = d.ahead)) (by kernel_rfl) rfl (by kernel_rfl) (by exact ex_call (by exact rfl) Try.func77 (by kernel_rfl) (by kernel_rfl) (by simp only [List.map_toArray, List.map_cons, List.map_nil] <;> rfl)) ((ahead_any d p _ ((hR1.below hS (Nat.le_refl _)).more hS.size) hsm).mono (fun e w' ⟨⟨q, he, hq⟩, hb⟩ => ⟨_, he, ⟨q, rfl, hq⟩, hS.trans (hb.mono hS.size)⟩)) ?_
    rintro v W6 ⟨q, rfl, hq⟩ hS6
    obtain rfl : q = (X : Int) := hq.out.trans (by rw [hX])
    simp only [lay]
    refine te 5 (.int .i64 ((X : Int) - 40)) hS6 rfl (by intro _ _; exact ex_bin (by exact rfl) (by exact rfl) (by exact rfl) (by decide) (b_sub _ _ rfl (by omega) _)) ?_
    simp only [lay]
    refine te 6 (.int .i64 (65535 - ((X : Int) - 40))) hS6 rfl (by intro _ _; exact ex_bin (by exact rfl) (by exact rfl) (by exact rfl) (by decide) (b_sub _ _ rfl (by omega) _)) ?_
    simp only [lay]
    refine te 7 (.bool false) hS6 rfl (by intro _ _; exact ex_bin (by exact rfl) (by exact rfl) (by exact rfl) (by decide) (b_gtr _ _ (decide_eq_false (by omega)) _)) ?_
    simp only [lay]
    refine wpAnyH_done (by kernel_rfl) ?_ _
    go_wp2
    go_ret
    exact ⟨Num1.mk hC.out.symm, hB.trans (hS6.mono hB.size)⟩

end Go.Proofs.Ytijnifbpbgckgaa
namespace Go.Proofs.Ytijnifbpbgckgaa
open Go.RowKit Go.Shelf

/-- three numbers that read as said -/
def Num3 (x y z : Int) (e : Ending) : Prop := ∃ q r s : Int, e = .returned (.tuple #[.int .i64 q, .int .i64 r, .int .i64 s]) ∧ Hid (q = x ∧ r = y ∧ s = z)
theorem Num3.mk {x y z q r s : Int} (h1 : q = x) (h2 : r = y) (h3 : s = z) : Num3 x y z (.returned (.tuple #[.int .i64 q, .int .i64 r, .int .i64 s])) := ⟨q, r, s, rfl, Lib.hid ⟨h1, h2, h3⟩⟩
def D6.all (d : D6) : Int := if d.check = 0 then (d.ahead : Int) + d.bl.length else 0
def D6.headI (d : D6) : Int := if d.check = 0 then (d.ahead : Int) else 0

set_option maxRecDepth 100000 in
set_option maxHeartbeats 4000000 in
theorem size6_any (d : D6) (p : W6) (w : World) (hR : Rd6 w.heap.size w d p) :
    Calls Try.prog 85 #[.agg (d.cells p)] w fun e w' => Num3 d.all d.headI d.check e ∧ Below w.heap.size w w' := by
  have hB : Below w.heap.size w (w.alloc (.cells (d.cells p) 36)) := (Below.refl _ _).alloc (Nat.le_refl _) _
  have hH : Has (w.alloc (.cells (d.cells p) 36)) w.heap.size (.cells (d.cells p) 36 (0, 0)) := Has.newAt rfl
  obtain ⟨W1, hW1⟩ : ∃ W, w.alloc (.cells (d.cells p) 36) = W := ⟨_, rfl⟩
  rw [hW1] at hB hH
  have hR1 := (hR.below hB (Nat.le_refl _)).more hB.size
  have hbl := Nat.le_trans hR.body.cap hR.body.big
  have hz : (d.cells p).size = 42 := rfl
  go_enter Try.func85, Try.ntmps85
  go_wp2_with (refine wpList_load_row rfl 36 (.tmp 1) rfl w.heap.size rfl 36 (d.cells p) (0, 0) _ hH Try.underlying36 rfl v6_info ?_)
  refine (check6_any d p W1 hR1).mono ?_
  rintro e w1 ⟨⟨q, rfl, hq⟩, hb1⟩
  rcases d.check_cases with h0 | h0 | h0
  case inr.inl =>
    obtain rfl : q = 54 := hq.out.trans h0
    have h0H := Lib.hid h0
    clear h0 hq
    go_wp2
    go_ret3
    exact ⟨Num3.mk (by rw [D6.all, if_neg (by rw [h0H.out]; decide)]) (by rw [D6.headI, if_neg (by rw [h0H.out]; decide)]) h0H.out.symm, hB.trans (hb1.mono hB.size)⟩
  case inr.inr =>
    obtain rfl : q = 2 := hq.out.trans h0
    have h0H := Lib.hid h0
    clear h0 hq
    go_wp2
    go_ret3
    exact ⟨Num3.mk (by rw [D6.all, if_neg (by rw [h0H.out]; decide)]) (by rw [D6.headI, if_neg (by rw [h0H.out]; decide)]) h0H.out.symm, hB.trans (hb1.mono hB.size)⟩
  obtain rfl : q = 0 := hq.out.trans h0
  have hC0 := Lib.hid h0
  obtain ⟨hr, hle⟩ := D6.ok_of_check h0
  have hsm := (D6.ahead_le hr).1
  have ha2 := (D6.ahead_le hr).2.1
  obtain ⟨X, hX⟩ : ∃ X, d.ahead = X := ⟨_, rfl⟩
  rw [hX] at ha2 hle
  clear hq hW1 h0 hr
  go_wp2
  refine wp_region_held_drew (S := fun W => Below W1.heap.size W1 W) (by kernel_rfl) (hb1.trans (below_drew _ _)) (fun hS => ?_)
  refine te 0 (.agg (d.cells p)) hS rfl (by intro _ h; exact ex_load (by exact rfl) (by exact rfl) (((hH.below h hH.lt)).load (P := Try.prog) 36 Try.underlying36 rfl v6_info)) ?_
  simp only [lay]
  refine te 2 (.pointer (some ⟨w.heap.size, 41, none⟩)) hS rfl (by intro _ _; exact ex_field 41 0 (by exact rfl) Try.underlying36 (by exact rfl) rfl (by kernel_rfl) (by exact rfl)) ?_
  simp only [lay]
  refine te 3 (.slice p.bA d.bl.length p.bc) hS rfl (by intro _ h; exact ex_cell (by exact rfl) Try.underlying25 rfl (by exact rfl) ((hH.below h hH.lt).cell 41 rfl)) ?_
  simp only [lay]
  refine te 4 (.int .i64 (d.bl.length : Int)) hS rfl (by intro _ _; exact ex_len (by exact rfl) Try.underlying25 (by exact rfl)) ?_
  simp only [lay]
  refine te 6 (.agg (d.cells p)) hS rfl (by intro _ h; exact ex_load (by exact rfl) (by exact rfl) (((hH.below h hH.lt)).load (P := Try.prog) 36 Try.underlying36 rfl v6_info)) ?_
  simp only [lay]
  refine tk_one (by kernel_rfl) (op_callx (i := 1) (fun v _ => ∃ q : Int, v = .int .i64 q ∧ Hid (q = d.ahead)) rfl (by kernel_rfl) (by exact ex_call (by exact rfl) Try.func77 (by kernel_rfl) (by kernel_rfl) (by simp only [List.map_toArray, List.map_cons, List.map_nil] <;> rfl)) ((ahead_any d p _ ((hR1.below hS (Nat.le_refl _)).more hS.size) hsm).mono (fun e w' ⟨⟨q, he, hq⟩, hb⟩ => ⟨_, he, ⟨q, rfl, hq⟩, hS.trans (hb.mono hS.size)⟩)) ?_)
  rintro v W6 ⟨q, rfl, hq⟩ hS6
  obtain rfl : q = (X : Int) := hq.out.trans (by rw [hX])
  simp only [lay]
  refine te 5 (.int .i64 ((X : Int) + (d.bl.length : Int))) hS6 rfl (by intro _ _; exact ex_bin (by exact rfl) (by exact rfl) (by exact rfl) (by decide) (b_add _ _ rfl (by omega) _)) ?_
  simp only [lay]
  refine tk_one (by kernel_rfl) (op_callx (i := 7) (fun v _ => ∃ q : Int, v = .int .i64 q ∧ Hid (q = d.ahead)) rfl (by kernel_rfl) (by exact ex_call (by exact rfl) Try.func77 (by kernel_rfl) (by kernel_rfl) (by simp only [List.map_toArray, List.map_cons, List.map_nil] <;> rfl)) ((ahead_any d p _ ((hR1.below hS6 (Nat.le_refl _)).more hS6.size) hsm).mono (fun e w' ⟨⟨q, he, hq⟩, hb⟩ => ⟨_, he, ⟨q, rfl, hq⟩, hS6.trans (hb.mono hS6.size)⟩)) ?_)
  rintro v W7 ⟨q, rfl, hq⟩ hS7
  obtain rfl : q = (X : Int) := hq.out.trans (by rw [hX])
  simp only [lay]
  refine te 8 (.int .i64 ((X : Int) + (d.bl.length : Int))) hS7 rfl (by intro _ _; exact rfl) ?_
  simp only [lay]
  refine te 9 (.int .i64 (X : Int)) hS7 rfl (by intro _ _; exact rfl) ?_
  simp only [lay]
  refine te 10 (.int .i64 0) hS7 rfl (by intro _ _; exact rfl) ?_
  simp only [lay]
  refine wpAnyH_done (by kernel_rfl) ?_ _
  go_wp2
  go_ret3
  exact ⟨Num3.mk (by rw [D6.all, if_pos hC0.out, hX]) (by rw [D6.headI, if_pos hC0.out, hX]) hC0.out.symm, hB.trans (hS7.mono hB.size)⟩

end Go.Proofs.Ytijnifbpbgckgaa
namespace Go.Proofs.Ytijnifbpbgckgaa
open Go.RowKit Go.Shelf

theorem infoB : (Try.prog.info? 5).map (fun i => (i.zero, i.size, i.bytes)) = some (some (.int .u8 0), 1, 1) := by kernel_rfl
/-- the kinds of the heads, and of what stands behind each -/
def D6.ks (d : D6) : List Int := d.hs.map (·.1) ++ (if d.frag then [44, d.pro] else [d.pro])
theorem D6.ks_len (d : D6) : d.ks.length = d.hs.length + (if d.frag then 2 else 1) := by unfold D6.ks; split <;> simp
theorem D6.ks_get (d : D6) {k : Nat} (hk : k ≤ d.hs.length) : d.ks.getD k 0 = nxt d.last (d.hs.drop k) := by
  unfold D6.ks
  rw [List.getD_eq_getElem?_getD]
  rcases Nat.lt_or_ge k d.hs.length with h | h
  · rw [List.getElem?_append_left (by simpa using h), List.drop_eq_getElem_cons h]
    simp [nxt, h]
  · obtain rfl : k = d.hs.length := by omega
    rw [List.getElem?_append_right (by simp), List.drop_length]
    cases hf : d.frag <;> simp [nxt, D6.last, hf]
theorem InB.one {x : Int} (h : 0 ≤ x ∧ x ≤ 255) : InB [x] := fun y hy => by rw [List.mem_singleton] at hy; subst hy; exact h
theorem map_take_succ {hs : List (Int × List Int)} {k : Nat} {q : Int × List Int} (h : hs[k]? = some q) : (hs.take (k + 1)).map (·.1) = (hs.take k).map (·.1) ++ [q.1] := by
  obtain ⟨hk, rfl⟩ := List.getElem?_eq_some_iff.1 h
  rw [List.take_succ_eq_append_getElem hk, List.map_append]
  rfl

set_option maxRecDepth 100000 in
set_option maxHeartbeats 4000000 in
theorem kinds_any (d : D6) (p : W6) (w : World) (hR : Rd6 w.heap.size w d p) (hM8 : d.hs.length ≤ 8) :
    Calls Try.prog 86 #[.agg (d.cells p)] w fun e w' => ∃ v, e = .returned v ∧ OwnB w' w.heap.size v d.ks ∧ Below w.heap.size w w' := by
  obtain ⟨hA, hc, ps, bA, bc⟩ := p
  have hB : Below w.heap.size w (w.alloc (.cells (d.cells ⟨hA, hc, ps, bA, bc⟩) 36)) := (Below.refl _ _).alloc (Nat.le_refl _) _
  have hH : Has (w.alloc (.cells (d.cells ⟨hA, hc, ps, bA, bc⟩) 36)) w.heap.size (.cells (d.cells ⟨hA, hc, ps, bA, bc⟩) 36 (0, 0)) := Has.newAt rfl
  obtain ⟨W1, hW1⟩ : ∃ W, w.alloc (.cells (d.cells ⟨hA, hc, ps, bA, bc⟩) 36) = W := ⟨_, rfl⟩
  obtain ⟨M, hM⟩ : ∃ M, d.hs.length = M := ⟨_, rfl⟩
  have K := hR.hd.below hB (Nat.le_refl _)
  have hkl : kdL ps = d.hs := hR.hl
  have hpro := hR.ok.pro
  dsimp only at K
  rw [hW1] at hB hH K
  have c35 := hH.cell 35 (v := .slice hA d.hs.length hc) rfl
  rw [hM] at K c35 hM8
  have hMnH := Lib.hid K.len
  have hMH := Lib.hid hM
  obtain ⟨R, hR2⟩ : ∃ R, d.ks = R := ⟨_, rfl⟩
  have hRH : Hid (d.hs.map (·.1) ++ (if d.frag then [44, d.pro] else [d.pro]) = R) := Lib.hid hR2
  rw [hR2]
  clear hM hR hR2
  go_enter Try.func86, Try.ntmps86
  go_wp2
  go_loopw [3, 9] (fun n i wr => ∃ k : Nat, k ≤ M ∧ i = .int .i64 k ∧ OwnB wr W1.heap.size n ((d.hs.take k).map (·.1)) ∧ Below W1.heap.size W1 wr) (fun _ i _ => M - (intOf i).toNat)
  case atStart => exact ⟨0, Nat.zero_le _, rfl, by rw [List.take_zero]; exact OwnB.nil _ _, Below.refl _ _⟩
  case round =>
    obtain ⟨k, hk, rfl, hO, hBr⟩ := hrel
    rename_i wr _
    have hBw := hB.trans (hBr.mono hB.size)
    have hH1 := hH.below hBr hH.lt
    have c35 := hH1.cell 35 (v := .slice hA d.hs.length hc) rfl
    rw [hMH.out] at c35
    by_cases hkM : k < M
    case neg =>
      obtain rfl : k = M := by omega
      have hge : ¬ ((k : Int) < (k : Int)) := by omega
      have c36 := hH1.cell 36 (v := .bool d.frag) rfl
      have hta : (d.hs.take k).map (·.1) = d.hs.map (·.1) := by rw [List.take_of_length_le (by rw [hMH.out]; omega)]
      rw [hta] at hO
      have hTl : (d.hs.map (·.1)).length = k := by rw [List.length_map, hMH.out]
      obtain ⟨T, hT⟩ : ∃ T, d.hs.map (·.1) = T := ⟨_, rfl⟩
      rw [hT] at hO hTl hRH
      have hTlH := Lib.hid hTl
      clear K hkM hkl hta hT hTl
      cases hf : d.frag with
      | true =>
        rw [hf] at c36
        have hq : Hid (T ++ [44] ++ [d.pro] = R) := Lib.hid (by rw [← hRH.out, hf, List.append_assoc]; rfl)
        have o1 := hO.alloc (.cells #[.int .u8 44] 5)
        have y1 := By.new wr 5 [44] (InB.one (by decide)) (by decide)
        have hB1 := hBr.trans (((Below.refl wr.heap.size wr).alloc (Nat.le_refl _) (.cells #[.int .u8 44] 5)).mono hBr.size)
        clear hRH hf
        clear c35
        go_wp2_with (first | (at_builtin; refine wpList_appB _ rfl _ _ 25 rfl Try.underlying25 infoB W1.heap.size _ _ rfl o1 _ _ 1 1 [44] rfl y1 (by rw [hTlH.out]; omega) (hB1.size) ?_; intro v7 w7 o7 hg7 _; have hb7 := below_own (OwnB.own o1) hg7 (hB1.size); have hB7 := hB1.trans hb7; have c40 := (hH.below hB7 hH.lt).cell 40 (v := .int .u8 d.pro) rfl; have o2 := o7.alloc (.cells #[.int .u8 d.pro] 5); have y2 := By.new w7 5 [d.pro] (InB.one hpro) (show 1 ≤ 9223372036854775807 by decide); have hB2 := hB7.trans (((Below.refl w7.heap.size w7).alloc (Nat.le_refl _) (.cells #[.int .u8 d.pro] 5)).mono hB7.size)) | (at_builtin; refine wpList_appB _ rfl _ _ 25 rfl Try.underlying25 infoB W1.heap.size _ _ rfl o2 _ _ 1 1 [d.pro] rfl y2 (by rw [List.length_append, hTlH.out]; show k + 1 + 1 ≤ _; omega) (hB2.size) ?_; intro v8 w8 o8 hg8 _; have hb8 := below_own (OwnB.own o2) hg8 (hB2.size)))
        go_ret
        rw [hq.out] at o8
        exact ⟨_, rfl, o8.more hB.size, hB.trans ((hB2.trans hb8).mono hB.size)⟩
      | false =>
        rw [hf] at c36
        have hq : Hid (T ++ [d.pro] = R) := Lib.hid (by rw [← hRH.out, hf]; rfl)
        have c40 := hH1.cell 40 (v := .int .u8 d.pro) rfl
        have o2 := hO.alloc (.cells #[.int .u8 d.pro] 5)
        have y2 := By.new wr 5 [d.pro] (InB.one hpro) (show 1 ≤ 9223372036854775807 by decide)
        have hB2 := hBr.trans (((Below.refl wr.heap.size wr).alloc (Nat.le_refl _) (.cells #[.int .u8 d.pro] 5)).mono hBr.size)
        clear hRH hf
        go_wp2_with (at_builtin; refine wpList_appB _ rfl _ _ 25 rfl Try.underlying25 infoB W1.heap.size _ _ rfl o2 _ _ 1 1 [d.pro] rfl y2 (by rw [hTlH.out]; omega) (hB2.size) ?_; intro v8 w8 o8 hg8 _; have hb8 := below_own (OwnB.own o2) hg8 (hB2.size))
        go_ret
        rw [hq.out] at o8
        exact ⟨_, rfl, o8.more hB.size, hB.trans ((hB2.trans hb8).mono hB.size)⟩
    case pos =>
    have hkz : (k : Int) < (M : Int) := by omega
    obtain ⟨⟨pk, pA, pc, pl⟩, hp⟩ : ∃ p', ps[k]? = some p' := ⟨ps[k]'(by rw [hMnH.out]; exact hkM), List.getElem?_eq_getElem _⟩
    have hmt := map_take_succ (kd_get hkl hp)
    obtain ⟨b1, o1, hA1, hb1, hr1, hr2, yP, e0, e1, hld⟩ := K.loadHead hp
    have hld := hld wr (hBr.mono hB.size)
    subst hA1
    dsimp only at hld hmt hr1 hr2
    obtain ⟨m, hm⟩ : ∃ m, pl.length = m := ⟨_, rfl⟩
    rw [hm] at hld
    obtain ⟨W4, hW4, hH4, hX⟩ := head_var wr pk pA m pc
    have c0 := hH4.cell 0 (v := .int .u8 pk) rfl
    have hB4 := hBr.trans (hX.mono hBr.size)
    have hN : Has (wr.alloc (.cells #[.int .u8 0, .slice none 0 0] 93)) wr.heap.size (.cells #[.int .u8 0, .slice none 0 0] 93 (0, 0)) := Has.newAt rfl
    have hTl : ((d.hs.take k).map (·.1)).length = k := by rw [List.length_map, List.length_take, hMH.out]; omega
    obtain ⟨T, hT⟩ : ∃ T, (d.hs.take k).map (·.1) = T := ⟨_, rfl⟩
    rw [hT] at hO hTl hmt
    have o2 := ((hO.below hX).alloc (.cells #[.int .u8 pk] 5))
    have y2 := By.new W4 5 [pk] (InB.one ⟨hr1, hr2⟩) (show 1 ≤ 9223372036854775807 by decide)
    have hB2 := hB4.trans (((Below.refl W4.heap.size W4).alloc (Nat.le_refl _) (.cells #[.int .u8 pk] 5)).mono hB4.size)
    have hmtH := Lib.hid hmt
    have hTlH := Lib.hid hTl
    clear hp K hm yP e0 e1 hkl hT hO hmt hTl hRH
    go_wp2_with (first | (refine wl (.pointer (some ⟨b1, o1 + k * 2, none⟩)) (by kernel_rfl) (by exact ex_index2 (by exact rfl) Try.underlying34 (by kernel_rfl) (by exact rfl) (by exact rfl) hkM) ?_) | (refine wl (.agg #[.int .u8 pk, .slice pA m pc]) (by kernel_rfl) (by exact ex_loadAt (by exact rfl) (by exact rfl) hld) ?_) | (refine wpList_store_row rfl 93 (.tmp 5) (.tmp 12) rfl wr.heap.size _ rfl rfl 93 _ hN head_info rfl (by simp [Value.oneCell']) ?_) | (at_builtin; refine wpList_appB _ rfl _ _ 25 rfl Try.underlying25 infoB W1.heap.size _ _ rfl o2 _ _ 1 1 [pk] rfl y2 (by rw [hTlH.out]; omega) (hB2.size) ?_; intro v8 w8 o8 hg8 _; have hb8 := below_own (OwnB.own o2) hg8 (hB2.size)))
    go_roundw
    case rel => exact ⟨k + 1, by omega, by go_num, by rw [hmtH.out]; exact o8, hB2.trans hb8⟩
    case measure => simp [intOf]; omega

/-- a byte that reads as said -/
def Byt (x : Int) (e : Ending) : Prop := ∃ q : Int, e = .returned (.int .u8 q) ∧ Hid (q = x)
theorem Byt.mk {x q : Int} (h : q = x) : Byt x (.returned (.int .u8 q)) := ⟨q, rfl, Lib.hid h⟩
end Go.Proofs.Ytijnifbpbgckgaa
