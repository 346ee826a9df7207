/-
  The walk of the reference's Pseudo.
-/
import Derived.Test.YtaobnbjkhgcmlaaP6
import Derived.Test.YtaobnbjkhgcmlaaReg3
import Derived.Test.YtaobnbjkhgcmlaaRefPseudo
namespace Go.Proofs.Ytaobnbjkhgcmlaa
open Go.RowKit Go.Shelf

theorem u8s_one (l : List Int) : ∀ v ∈ u8s l, v.oneCell' = true := by intro v hv; simp only [u8s, List.mem_map] at hv; obtain ⟨_, _, rfl⟩ := hv; rfl
/-- a whole row of bytes copied into a block of the call's own -/
theorem wpList_copy_all {P : Program} {w : World} {ops : Array Oper} {rest : List Oper} {o : Oper} {a : Act} {Q : Exit → Act → World → Prop} (hgd : o.guard = none) (d s : Operand) (dT sT : TypeId)
    (ho : o.op = .call { callee := .builtin .copy, args := #[d, s], argTypes := #[dT, sT] }) {elem : TypeId} (hu : P.underlying dT = some (.slice elem)) (hsz : (P.info? elem).map (·.size) = some 1)
    (g n c : Nat) (A : Option Addr) (hd : a.eval d = .slice (some ⟨g, 0, none⟩) n n) (hs : a.eval s = .slice A n c) (old : Array Value) (t : TypeId) (hg : Has w g (.cells old t (0, 0))) (hold : old.size = n)
    (l : List Int) (B : Nat) (hy : By B w A n c l) (hpos : 0 < n) (h : wpList P ops Q rest (a.put o.dst (goInt n)) (w.setRow g (u8s l).toArray)) : wpList P ops Q (o :: rest) a w := by
  obtain ⟨b, off, rfl, _, hc⟩ := hy.row.at_ hpos
  have hl := hy.len
  have hul : (u8s l).length = n := by rw [u8s_length, hl]
  refine wpList_copy_own hgd d s dT sT ho elem hu hsz g 0 n n ⟨b, off, none⟩ n c hd hs old t hg (u8s l) (by rw [hul]; simp) (fun j v hj => ?_) (by omega) (u8s_one l) ?_
  · have hjn : j < n := by have := (List.getElem?_eq_some_iff.1 hj).1; omega
    rw [Go.WideShapes.add_plain, hc j hjn, hj]
  · have e : (old.toList.take 0 ++ (u8s l ++ old.toList.drop (0 + (u8s l).length))).toArray = (u8s l).toArray := by
      rw [hul, Nat.zero_add, List.drop_of_length_le (by simp [hold])]; simp
    rw [e, hul]
    exact h

set_option maxRecDepth 100000 in
set_option maxHeartbeats 2000000 in
theorem rpse4_any (a b : List Int) (ha : a.length = 4) (hb : b.length = 4) (p n : Int) (hp0 : 0 ≤ p) (hp1 : p ≤ 255) (h0 : 0 ≤ n) (h1 : n ≤ 65535) (A1 A2 : Option Addr) (c1 c2 : Nat) (w : World) (y1 : By w.heap.size w A1 4 c1 a) (y2 : By w.heap.size w A2 4 c2 b) :
    Calls Try.prog 20 #[.slice A1 4 c1, .slice A2 4 c2, .int .u8 p, .int .i64 n] w fun e w' => ∃ v, e = .returned v ∧ OwnB w' w.heap.size v (pse4 a b n p) ∧ Below w.heap.size w w' := by
  have hB : Below w.heap.size w ((w.alloc (.cells #[.int .u8 0, .int .u8 0, .int .u8 0, .int .u8 0] 33)).alloc (.cells #[.int .u8 0, .int .u8 0, .int .u8 0, .int .u8 0] 33)) := ((Below.refl _ _).alloc (Nat.le_refl _) _).alloc (by simp) _
  have hX1 : Has ((w.alloc (.cells #[.int .u8 0, .int .u8 0, .int .u8 0, .int .u8 0] 33)).alloc (.cells #[.int .u8 0, .int .u8 0, .int .u8 0, .int .u8 0] 33)) w.heap.size (.cells #[.int .u8 0, .int .u8 0, .int .u8 0, .int .u8 0] 33 (0, 0)) := (Has.newAt rfl).alloc
  have hX2 : Has ((w.alloc (.cells #[.int .u8 0, .int .u8 0, .int .u8 0, .int .u8 0] 33)).alloc (.cells #[.int .u8 0, .int .u8 0, .int .u8 0, .int .u8 0] 33)) (w.heap.size + 1) (.cells #[.int .u8 0, .int .u8 0, .int .u8 0, .int .u8 0] 33 (0, 0)) := Has.newAt (by simp)
  have x1 := y1.below hB (Nat.le_refl _)
  have hB1 := hB.trans (below_setRow' (w := ((w.alloc (.cells #[.int .u8 0, .int .u8 0, .int .u8 0, .int .u8 0] 33)).alloc (.cells #[.int .u8 0, .int .u8 0, .int .u8 0, .int .u8 0] 33))) (g := w.heap.size) (cs := (u8s a).toArray))
  have x2 := y2.below hB1 (Nat.le_refl _)
  have hX2 := hX2.setRow_other (Nat.succ_ne_self w.heap.size) (cs' := (u8s a).toArray)
  have hX1' := (hX1.setRow_same (cs' := (u8s a).toArray)).setRow_other (Nat.succ_ne_self w.heap.size).symm (cs' := (u8s b).toArray)
  have hX2' := hX2.setRow_same (cs' := (u8s b).toArray)
  have hB2 := hB1.trans ((below_setRow' (w := ((w.alloc (.cells #[.int .u8 0, .int .u8 0, .int .u8 0, .int .u8 0] 33)).alloc (.cells #[.int .u8 0, .int .u8 0, .int .u8 0, .int .u8 0] 33)).setRow w.heap.size (u8s a).toArray) (g := w.heap.size + 1) (cs := (u8s b).toArray)).mono (Nat.le_succ _))
  have hia : (Try.prog.info? 33).map (·.size) = some (u8s a).toArray.size := by rw [show (u8s a).toArray.size = 4 from by simp [u8s_length, ha]]; kernel_rfl
  have hib : (Try.prog.info? 33).map (·.size) = some (u8s b).toArray.size := by rw [show (u8s b).toArray.size = 4 from by simp [u8s_length, hb]]; kernel_rfl
  obtain ⟨ps, hps⟩ : ∃ ps, pse4 a b n p = ps := ⟨_, rfl⟩
  rw [hps]
  have hpsH := Lib.hid hps
  clear hps
  go_enter Try.func20, Try.ntmps20
  go_wp2_with (first
    | (with_reducible refine wpList_copy_all rfl (.tmp 20) (.tmp 21) _ _ rfl Try.underlying24 (by kernel_rfl) w.heap.size 4 c1 A1 rfl rfl _ _ hX1 rfl a _ x1 (by decide) ?_)
    | (with_reducible refine wpList_copy_all rfl (.tmp 23) (.tmp 24) _ _ rfl Try.underlying24 (by kernel_rfl) (w.heap.size + 1) 4 c2 A2 rfl rfl _ _ hX2 rfl b _ x2 (by decide) ?_)
    | (refine wpList_load_row rfl 33 (.tmp 9) rfl w.heap.size rfl 33 (u8s a).toArray (0, 0) _ hX1' Try.underlying33 rfl hia ?_)
    | (refine wpList_load_row rfl 33 (.tmp 10) rfl (w.heap.size + 1) rfl 33 (u8s b).toArray (0, 0) _ hX2' Try.underlying33 rfl hib ?_))
  refine (rpseudo4_ok a b ha hb y1.rng y2.rng p n hp0 hp1 h0 h1 _).mono ?_
  rintro e w1 ⟨v, rfl, ho, hb1⟩
  have ho : OwnB w1 w.heap.size v ps := by have h := ho.more hB2.size; rw [← hpsH.out]; exact h
  obtain ⟨A', c', rfl, _⟩ := own_shape ho.own
  go_wp2
  go_ret
  exact ⟨_, rfl, ho, hB2.trans (hb1.mono hB2.size)⟩

set_option maxRecDepth 100000 in
set_option maxHeartbeats 2000000 in
theorem rpse6_any (a b : List Int) (ha : a.length = 16) (hb : b.length = 16) (p n : Int) (hp0 : 0 ≤ p) (hp1 : p ≤ 255) (h0 : 0 ≤ n) (h1 : n ≤ 65535) (A1 A2 : Option Addr) (c1 c2 : Nat) (w : World) (y1 : By w.heap.size w A1 16 c1 a) (y2 : By w.heap.size w A2 16 c2 b) :
    Calls Try.prog 20 #[.slice A1 16 c1, .slice A2 16 c2, .int .u8 p, .int .i64 n] w fun e w' => ∃ v, e = .returned v ∧ OwnB w' w.heap.size v (pse6 a b n p) ∧ Below w.heap.size w w' := by
  have hB : Below w.heap.size w ((w.alloc (.cells #[.int .u8 0, .int .u8 0, .int .u8 0, .int .u8 0, .int .u8 0, .int .u8 0, .int .u8 0, .int .u8 0, .int .u8 0, .int .u8 0, .int .u8 0, .int .u8 0, .int .u8 0, .int .u8 0, .int .u8 0, .int .u8 0] 35)).alloc (.cells #[.int .u8 0, .int .u8 0, .int .u8 0, .int .u8 0, .int .u8 0, .int .u8 0, .int .u8 0, .int .u8 0, .int .u8 0, .int .u8 0, .int .u8 0, .int .u8 0, .int .u8 0, .int .u8 0, .int .u8 0, .int .u8 0] 35)) := ((Below.refl _ _).alloc (Nat.le_refl _) _).alloc (by simp) _
  have hX1 : Has ((w.alloc (.cells #[.int .u8 0, .int .u8 0, .int .u8 0, .int .u8 0, .int .u8 0, .int .u8 0, .int .u8 0, .int .u8 0, .int .u8 0, .int .u8 0, .int .u8 0, .int .u8 0, .int .u8 0, .int .u8 0, .int .u8 0, .int .u8 0] 35)).alloc (.cells #[.int .u8 0, .int .u8 0, .int .u8 0, .int .u8 0, .int .u8 0, .int .u8 0, .int .u8 0, .int .u8 0, .int .u8 0, .int .u8 0, .int .u8 0, .int .u8 0, .int .u8 0, .int .u8 0, .int .u8 0, .int .u8 0] 35)) w.heap.size (.cells #[.int .u8 0, .int .u8 0, .int .u8 0, .int .u8 0, .int .u8 0, .int .u8 0, .int .u8 0, .int .u8 0, .int .u8 0, .int .u8 0, .int .u8 0, .int .u8 0, .int .u8 0, .int .u8 0, .int .u8 0, .int .u8 0] 35 (0, 0)) := (Has.newAt rfl).alloc
  have hX2 : Has ((w.alloc (.cells #[.int .u8 0, .int .u8 0, .int .u8 0, .int .u8 0, .int .u8 0, .int .u8 0, .int .u8 0, .int .u8 0, .int .u8 0, .int .u8 0, .int .u8 0, .int .u8 0, .int .u8 0, .int .u8 0, .int .u8 0, .int .u8 0] 35)).alloc (.cells #[.int .u8 0, .int .u8 0, .int .u8 0, .int .u8 0, .int .u8 0, .int .u8 0, .int .u8 0, .int .u8 0, .int .u8 0, .int .u8 0, .int .u8 0, .int .u8 0, .int .u8 0, .int .u8 0, .int .u8 0, .int .u8 0] 35)) (w.heap.size + 1) (.cells #[.int .u8 0, .int .u8 0, .int .u8 0, .int .u8 0, .int .u8 0, .int .u8 0, .int .u8 0, .int .u8 0, .int .u8 0, .int .u8 0, .int .u8 0, .int .u8 0, .int .u8 0, .int .u8 0, .int .u8 0, .int .u8 0] 35 (0, 0)) := Has.newAt (by simp)
  have x1 := y1.below hB (Nat.le_refl _)
  have hB1 := hB.trans (below_setRow' (w := ((w.alloc (.cells #[.int .u8 0, .int .u8 0, .int .u8 0, .int .u8 0, .int .u8 0, .int .u8 0, .int .u8 0, .int .u8 0, .int .u8 0, .int .u8 0, .int .u8 0, .int .u8 0, .int .u8 0, .int .u8 0, .int .u8 0, .int .u8 0] 35)).alloc (.cells #[.int .u8 0, .int .u8 0, .int .u8 0, .int .u8 0, .int .u8 0, .int .u8 0, .int .u8 0, .int .u8 0, .int .u8 0, .int .u8 0, .int .u8 0, .int .u8 0, .int .u8 0, .int .u8 0, .int .u8 0, .int .u8 0] 35))) (g := w.heap.size) (cs := (u8s a).toArray))
  have x2 := y2.below hB1 (Nat.le_refl _)
  have hX2 := hX2.setRow_other (Nat.succ_ne_self w.heap.size) (cs' := (u8s a).toArray)
  have hX1' := (hX1.setRow_same (cs' := (u8s a).toArray)).setRow_other (Nat.succ_ne_self w.heap.size).symm (cs' := (u8s b).toArray)
  have hX2' := hX2.setRow_same (cs' := (u8s b).toArray)
  have hB2 := hB1.trans ((below_setRow' (w := ((w.alloc (.cells #[.int .u8 0, .int .u8 0, .int .u8 0, .int .u8 0, .int .u8 0, .int .u8 0, .int .u8 0, .int .u8 0, .int .u8 0, .int .u8 0, .int .u8 0, .int .u8 0, .int .u8 0, .int .u8 0, .int .u8 0, .int .u8 0] 35)).alloc (.cells #[.int .u8 0, .int .u8 0, .int .u8 0, .int .u8 0, .int .u8 0, .int .u8 0, .int .u8 0, .int .u8 0, .int .u8 0, .int .u8 0, .int .u8 0, .int .u8 0, .int .u8 0, .int .u8 0, .int .u8 0, .int .u8 0] 35)).setRow w.heap.size (u8s a).toArray) (g := w.heap.size + 1) (cs := (u8s b).toArray)).mono (Nat.le_succ _))
  have hia : (Try.prog.info? 35).map (·.size) = some (u8s a).toArray.size := by rw [show (u8s a).toArray.size = 16 from by simp [u8s_length, ha]]; kernel_rfl
  have hib : (Try.prog.info? 35).map (·.size) = some (u8s b).toArray.size := by rw [show (u8s b).toArray.size = 16 from by simp [u8s_length, hb]]; kernel_rfl
  obtain ⟨ps, hps⟩ : ∃ ps, pse6 a b n p = ps := ⟨_, rfl⟩
  rw [hps]
  have hpsH := Lib.hid hps
  clear hps
  go_enter Try.func20, Try.ntmps20
  go_wp2_with (first
    | (with_reducible refine wpList_copy_all rfl (.tmp 35) (.tmp 36) _ _ rfl Try.underlying24 (by kernel_rfl) w.heap.size 16 c1 A1 rfl rfl _ _ hX1 rfl a _ x1 (by decide) ?_)
    | (with_reducible refine wpList_copy_all rfl (.tmp 38) (.tmp 39) _ _ rfl Try.underlying24 (by kernel_rfl) (w.heap.size + 1) 16 c2 A2 rfl rfl _ _ hX2 rfl b _ x2 (by decide) ?_)
    | (refine wpList_load_row rfl 35 (.tmp 13) rfl w.heap.size rfl 35 (u8s a).toArray (0, 0) _ hX1' Try.underlying35 rfl hia ?_)
    | (refine wpList_load_row rfl 35 (.tmp 14) rfl (w.heap.size + 1) rfl 35 (u8s b).toArray (0, 0) _ hX2' Try.underlying35 rfl hib ?_))
  refine (rpseudo6_ok a b ha hb y1.rng y2.rng p n hp0 hp1 h0 h1 _).mono ?_
  rintro e w1 ⟨v, rfl, ho, hb1⟩
  have ho : OwnB w1 w.heap.size v ps := by have h := ho.more hB2.size; rw [← hpsH.out]; exact h
  obtain ⟨A', c', rfl, _⟩ := own_shape ho.own
  go_wp2
  go_ret
  exact ⟨_, rfl, ho, hB2.trans (hb1.mono hB2.size)⟩
end Go.Proofs.Ytaobnbjkhgcmlaa
