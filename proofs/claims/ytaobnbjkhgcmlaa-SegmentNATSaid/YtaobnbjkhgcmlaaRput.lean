/-
  The walk of the reference's put: a number's bytes, the greatest first.
-/
import Derived.Test.YtaobnbjkhgcmlaaRefSum
import Derived.Test.YtaobnbjkhgcmlaaP6
import Derived.Test.YtaobnbjkhgcmlaaReg3
import Derived.LoopN
namespace Go.Proofs.Ytaobnbjkhgcmlaa
open Go.RowKit Go.Shelf

theorem byte_of (y : Int) : IntKind.u8.wrap y = y % 256 := IntKind.wrap_u8 y

/-- an own row that grew: other own rows stand, and where it lies now -/
structure Grew (w w' : World) (v v' : Value) : Prop where
  keeps : ∀ (b2 : Nat) (v2 : Value) (l2 : List Int), OwnB w b2 v2 l2 → (v2.ownBlock = none ∨ v2.ownBlock ≠ v.ownBlock) → OwnB w' b2 v2 l2
  row : v'.ownBlock = v.ownBlock ∨ ∃ g, v'.ownBlock = some g ∧ w.heap.size ≤ g
  size : w.heap.size ≤ w'.heap.size
theorem Grew.refl (w : World) (v : Value) : Grew w w v v := ⟨fun _ _ _ h _ => h, .inl rfl, Nat.le_refl _⟩
theorem Grew.app {w w1 w2 : World} {v v1 v2 : Value} (h : Grew w w1 v v1) (o : Obj) (hg : (w1.alloc o).grownBy w2 v1.ownBlock) (hat : v2.ownBlock = v1.ownBlock ∨ v2.ownBlock = some (w1.alloc o).heap.size) : Grew w w2 v v2 := by
  have hs := hg.size
  simp at hs
  have hz := h.size
  refine ⟨fun b2 x l2 hx hne => ((h.keeps b2 x l2 hx hne).alloc o).grown hg ?_, ?_, by omega⟩
  · rcases h.row with h1 | ⟨g, h1, hge⟩
    · rw [h1]; exact hne
    · rw [h1]
      right
      intro he
      have := (hx.base g he).2
      omega
  · rcases hat with h2 | h2
    · rw [h2]; exact h.row
    · exact .inr ⟨_, h2, by simp; omega⟩
set_option maxRecDepth 100000 in
set_option maxHeartbeats 1000000 in
theorem put2_gr (base : Nat) (v : Value) (l : List Int) (x : Int) (h0 : 0 ≤ x) (h1 : x < 65536) (w : World) (ho : OwnB w base v l) (hb : base ≤ w.heap.size) (hl : l.length ≤ 1000000) :
    Calls Try.prog 51 #[v, .int .u64 x, .int .i64 2] w fun e w' => ∃ v', e = .returned v' ∧ OwnB w' base v' (l ++ [x / 256, x % 256]) ∧ Below base w w' ∧ Grew w w' v v' := by
  obtain ⟨A, c, rfl, _⟩ := own_shape ho.own
  go_enter Try.func51, Try.ntmps51
  go_wp2
  refine wp_loop_rounds 3 ?_
  have hG0 := Grew.refl w (.slice A l.length c)
  rw [rounds_succ]
  go_wp2_with (at_builtin; refine wpList_appB _ rfl _ _ _ rfl Try.underlying24 info8 base (.slice A l.length c) _ rfl (ho.alloc _) _ _ 1 1 [x / 256] rfl (By.blk (t := 5) (fz := (0, 0)) (Has.newAt rfl) (Nat.le_refl _) (by intro y hy; simp at hy; omega) (by simp) rfl rfl) (by simp; omega) (by simp; omega) ?_; intro v1 w1 ho1 hg1 ha1)
  have hB1 : Below base w w1 := (Below.refl base w).trans (((Below.refl _ _).alloc (by omega) _).trans (below_app (ho.alloc _) hg1 (by simp; omega)))
  have hG1 := hG0.app _ hg1 ha1 
  have hb1 : base ≤ w1.heap.size := Nat.le_trans hb hB1.size
  have hw1 : w.heap.size ≤ w1.heap.size := hG1.size
  clear hg1 ha1
  have hl1 : (l ++ [x / 256]).length ≤ 1000001 := by simp; omega
  rw [rounds_succ]
  go_wp2_with (at_builtin; refine wpList_appB _ rfl _ _ _ rfl Try.underlying24 info8 base (v1) _ rfl (ho1.alloc _) _ _ 1 1 [x % 256] rfl (By.blk (t := 5) (fz := (0, 0)) (Has.newAt rfl) (Nat.le_refl _) (by intro y hy; simp at hy; omega) (by simp) rfl rfl) (by simp; omega) (by simp; omega) ?_; intro v2 w2 ho2 hg2 ha2)
  have hB2 : Below base w w2 := hB1.trans (((Below.refl _ _).alloc (by omega) _).trans (below_app (ho1.alloc _) hg2 (by simp; omega)))
  have hG2 := hG1.app _ hg2 ha2 
  have hb2 : base ≤ w2.heap.size := Nat.le_trans hb hB2.size
  have hw2 : w.heap.size ≤ w2.heap.size := hG2.size
  clear hg2 ha2
  have hl2 : (l ++ [x / 256] ++ [x % 256]).length ≤ 1000002 := by simp; omega
  obtain ⟨A', c', rfl, _⟩ := own_shape ho2.own
  rw [rounds_succ]
  go_wp2
  go_ret
  exact ⟨_, rfl, by simpa using ho2, hB2, hG2⟩
theorem put2_any (base : Nat) (v : Value) (l : List Int) (x : Int) (h0 : 0 ≤ x) (h1 : x < 65536) (w : World) (ho : OwnB w base v l) (hb : base ≤ w.heap.size) (hl : l.length ≤ 1000000) :
    Calls Try.prog 51 #[v, .int .u64 x, .int .i64 2] w fun e w' => ∃ v', e = .returned v' ∧ OwnB w' base v' (l ++ [x / 256, x % 256]) ∧ Below base w w' :=
  (put2_gr base v l x h0 h1 w ho hb hl).mono fun _ _ ⟨v', h1, h2, h3, _⟩ => ⟨v', h1, h2, h3⟩
set_option maxRecDepth 100000 in
set_option maxHeartbeats 1000000 in
theorem put4_gr (base : Nat) (v : Value) (l : List Int) (x : Int) (h0 : 0 ≤ x) (h1 : x < 4294967296) (w : World) (ho : OwnB w base v l) (hb : base ≤ w.heap.size) (hl : l.length ≤ 1000000) :
    Calls Try.prog 51 #[v, .int .u64 x, .int .i64 4] w fun e w' => ∃ v', e = .returned v' ∧ OwnB w' base v' (l ++ [x / 16777216, x / 65536 % 256, x / 256 % 256, x % 256]) ∧ Below base w w' ∧ Grew w w' v v' := by
  obtain ⟨A, c, rfl, _⟩ := own_shape ho.own
  go_enter Try.func51, Try.ntmps51
  go_wp2
  refine wp_loop_rounds 5 ?_
  have hG0 := Grew.refl w (.slice A l.length c)
  rw [rounds_succ]
  go_wp2_with (at_builtin; refine wpList_appB _ rfl _ _ _ rfl Try.underlying24 info8 base (.slice A l.length c) _ rfl (ho.alloc _) _ _ 1 1 [x / 16777216] rfl (By.blk (t := 5) (fz := (0, 0)) (Has.newAt rfl) (Nat.le_refl _) (by intro y hy; simp at hy; omega) (by simp) rfl rfl) (by simp; omega) (by simp; omega) ?_; intro v1 w1 ho1 hg1 ha1)
  have hB1 : Below base w w1 := (Below.refl base w).trans (((Below.refl _ _).alloc (by omega) _).trans (below_app (ho.alloc _) hg1 (by simp; omega)))
  have hG1 := hG0.app _ hg1 ha1 
  have hb1 : base ≤ w1.heap.size := Nat.le_trans hb hB1.size
  have hw1 : w.heap.size ≤ w1.heap.size := hG1.size
  clear hg1 ha1
  have hl1 : (l ++ [x / 16777216]).length ≤ 1000001 := by simp; omega
  rw [rounds_succ]
  go_wp2_with (at_builtin; refine wpList_appB _ rfl _ _ _ rfl Try.underlying24 info8 base (v1) _ rfl (ho1.alloc _) _ _ 1 1 [x / 65536 % 256] rfl (By.blk (t := 5) (fz := (0, 0)) (Has.newAt rfl) (Nat.le_refl _) (by intro y hy; simp at hy; omega) (by simp) rfl rfl) (by simp; omega) (by simp; omega) ?_; intro v2 w2 ho2 hg2 ha2)
  have hB2 : Below base w w2 := hB1.trans (((Below.refl _ _).alloc (by omega) _).trans (below_app (ho1.alloc _) hg2 (by simp; omega)))
  have hG2 := hG1.app _ hg2 ha2 
  have hb2 : base ≤ w2.heap.size := Nat.le_trans hb hB2.size
  have hw2 : w.heap.size ≤ w2.heap.size := hG2.size
  clear hg2 ha2
  have hl2 : (l ++ [x / 16777216] ++ [x / 65536 % 256]).length ≤ 1000002 := by simp; omega
  rw [rounds_succ]
  go_wp2_with (at_builtin; refine wpList_appB _ rfl _ _ _ rfl Try.underlying24 info8 base (v2) _ rfl (ho2.alloc _) _ _ 1 1 [x / 256 % 256] rfl (By.blk (t := 5) (fz := (0, 0)) (Has.newAt rfl) (Nat.le_refl _) (by intro y hy; simp at hy; omega) (by simp) rfl rfl) (by simp; omega) (by simp; omega) ?_; intro v3 w3 ho3 hg3 ha3)
  have hB3 : Below base w w3 := hB2.trans (((Below.refl _ _).alloc (by omega) _).trans (below_app (ho2.alloc _) hg3 (by simp; omega)))
  have hG3 := hG2.app _ hg3 ha3 
  have hb3 : base ≤ w3.heap.size := Nat.le_trans hb hB3.size
  have hw3 : w.heap.size ≤ w3.heap.size := hG3.size
  clear hg3 ha3
  have hl3 : (l ++ [x / 16777216] ++ [x / 65536 % 256] ++ [x / 256 % 256]).length ≤ 1000003 := by simp; omega
  rw [rounds_succ]
  go_wp2_with (at_builtin; refine wpList_appB _ rfl _ _ _ rfl Try.underlying24 info8 base (v3) _ rfl (ho3.alloc _) _ _ 1 1 [x % 256] rfl (By.blk (t := 5) (fz := (0, 0)) (Has.newAt rfl) (Nat.le_refl _) (by intro y hy; simp at hy; omega) (by simp) rfl rfl) (by simp; omega) (by simp; omega) ?_; intro v4 w4 ho4 hg4 ha4)
  have hB4 : Below base w w4 := hB3.trans (((Below.refl _ _).alloc (by omega) _).trans (below_app (ho3.alloc _) hg4 (by simp; omega)))
  have hG4 := hG3.app _ hg4 ha4 
  have hb4 : base ≤ w4.heap.size := Nat.le_trans hb hB4.size
  have hw4 : w.heap.size ≤ w4.heap.size := hG4.size
  clear hg4 ha4
  have hl4 : (l ++ [x / 16777216] ++ [x / 65536 % 256] ++ [x / 256 % 256] ++ [x % 256]).length ≤ 1000004 := by simp; omega
  obtain ⟨A', c', rfl, _⟩ := own_shape ho4.own
  rw [rounds_succ]
  go_wp2
  go_ret
  exact ⟨_, rfl, by simpa using ho4, hB4, hG4⟩
theorem put4_any (base : Nat) (v : Value) (l : List Int) (x : Int) (h0 : 0 ≤ x) (h1 : x < 4294967296) (w : World) (ho : OwnB w base v l) (hb : base ≤ w.heap.size) (hl : l.length ≤ 1000000) :
    Calls Try.prog 51 #[v, .int .u64 x, .int .i64 4] w fun e w' => ∃ v', e = .returned v' ∧ OwnB w' base v' (l ++ [x / 16777216, x / 65536 % 256, x / 256 % 256, x % 256]) ∧ Below base w w' :=
  (put4_gr base v l x h0 h1 w ho hb hl).mono fun _ _ ⟨v', h1, h2, h3, _⟩ => ⟨v', h1, h2, h3⟩
end Go.Proofs.Ytaobnbjkhgcmlaa
