/-
  More moves in a region that draws its order: an append of bytes, conversions of numbers.
-/
import Derived.Test.YtndmmkadceobjaaReg4
namespace Go.Proofs.Ytndmmkadceobjaa
open Go.RowKit

section
variable {P : Program}
variable {md : Region.Mode} {ops : Array Oper} {Q : Exit → Act → World → Prop} {S : World → Prop}
/-- of two that are ready, whichever comes up -/
theorem tk_two {i j : Nat} {fuel : Nat} {listed : Array Bool} {a : Act} {w : World} (hr : Region.ready md ops listed = [i, j])
    (h1 : wpOp P ops Q i (fun a' w' => S w' ∧ wpAnyH P md ops Q S fuel (listed.setIfInBounds i true) a' w') a w)
    (h2 : wpOp P ops Q j (fun a' w' => S w' ∧ wpAnyH P md ops Q S fuel (listed.setIfInBounds j true) a' w') a w) : wpAnyH P md ops Q S (fuel + 1) listed a w :=
  wpAnyH_all hr (by simp) fun k hk => by
    rcases List.mem_cons.1 hk with rfl | hk
    · exact h1
    · obtain rfl : k = j := by simpa using hk
      exact h2
theorem tk_one {i : Nat} {fuel : Nat} {listed : Array Bool} {a : Act} {w : World} (hr : Region.ready md ops listed = [i])
    (h1 : wpOp P ops Q i (fun a' w' => S w' ∧ wpAnyH P md ops Q S fuel (listed.setIfInBounds i true) a' w') a w) : wpAnyH P md ops Q S (fuel + 1) listed a w :=
  wpAnyH_all hr (by simp) fun k hk => by
    obtain rfl : k = i := by simpa using hk
    exact h1
/-- a call of a Go function -/
theorem op_callx {i k : Nat} {o : Oper} {args : Array Value} (T : Value → World → Prop) {fuel : Nat} {listed : Array Bool} {a : Act} {w : World} (hi : ops.toList[i]? = some o) (hw : Region.wanted o (yielded ops a.tmps) = true)
    (hrun : (execOp a.eval o).run P w = .ok (.enter k args) w) (hc : Calls P k args w fun e w' => ∃ v, e = .returned v ∧ T v w' ∧ S w')
    (h : ∀ v w', T v w' → S w' → wpAnyH P md ops Q S fuel (listed.setIfInBounds i true) (a.put o.dst v) w') : wpOp P ops Q i (fun a' w' => S w' ∧ wpAnyH P md ops Q S fuel (listed.setIfInBounds i true) a' w') a w := by
  have hi : ops[i]? = some o := by simpa using hi
  unfold wpOp
  rw [hi]
  simp only [hw, if_true]
  left
  unfold Oper.wp
  rw [hrun, Oper.upon_enter]
  refine hc.mono fun e w' ⟨v, he, hT, hS'⟩ => ?_
  subst he
  exact ⟨hS', h v w' hT hS'⟩
/-- a slice literal -/
theorem op_build {i : Nat} {o : Oper} {t e : TypeId} {len : Nat} {parts : Array (Nat × Operand)} {fuel : Nat} {listed : Array Bool} {a : Act} {w : World} (vs : List Value) (hi : ops.toList[i]? = some o) (hw : Region.wanted o (yielded ops a.tmps) = true)
    (ho : o.op = .buildSlice t len parts) (hu : P.underlying t = some (.slice e)) (hsz : (P.info? e).map (·.size) = some 1) (hz : ((P.info? e).bind (·.zero)).isSome = true) (hlen : len = vs.length) (hpos : 0 < len) (hsmall : len ≤ 2 ^ 24)
    (hp : (parts.map fun (i, x) => (i, a.eval x)).toList = (vs.zipIdx 0).map fun x => (x.2, x.1)) (h1 : ∀ v ∈ vs, v.cells = #[v])
    (hS : ∀ w', Below w.heap.size w w' → S w') (h : ∀ g w', Has w' g (.cells vs.toArray e (0, 0)) → w.heap.size ≤ g → w'.heap.size = g + 1 → Below w.heap.size w w' → S w' → wpAnyH P md ops Q S fuel (listed.setIfInBounds i true) (a.put o.dst (.slice (some ⟨g, 0, none⟩) len len)) w') : wpOp P ops Q i (fun a' w' => S w' ∧ wpAnyH P md ops Q S fuel (listed.setIfInBounds i true) a' w') a w := by
  have hi : ops[i]? = some o := by simpa using hi
  unfold wpOp
  rw [hi]
  simp only [hw, if_true]
  left
  cases hie : P.info? e with
  | none => simp [hie] at hsz
  | some ie =>
    simp only [hie, Option.map_some, Option.some.injEq, Option.bind_some] at hsz hz
    obtain ⟨z, hzz⟩ := Option.isSome_iff_exists.1 hz
    have hb : Below w.heap.size w (w.alloc (.cells vs.toArray e)) := (Below.refl _ _).alloc (Nat.le_refl _) _
    refine wp_buildSlice t e len parts ho _ ie z hu hie hzz (by rw [hsz]; omega) (by rw [hsz]; omega) ?_ ⟨hS _ hb, h _ _ (Has.newAt rfl) (Nat.le_refl _) (by simp) hb (hS _ hb)⟩
    rw [hp, hsz]
    exact Great.fill_flat _ _ h1 (by simp [hlen])
/-- an append of bytes onto an own row -/
theorem op_app {i : Nat} {o : Oper} {fuel : Nat} {listed : Array Bool} {a : Act} {w : World} (s x : Operand) (t : TypeId) (hi : ops.toList[i]? = some o) (hw : Region.wanted o (yielded ops a.tmps) = true)
    (ho : o.op = .call { callee := .builtin .append, args := #[s, x], argTypes := #[t, t] })
    (ht : P.underlying t = some (.slice 5)) (hinfo : (P.info? 5).map (fun i => (i.zero, i.size, i.bytes)) = some (some (.int .u8 0), 1, 1))
    (base : Nat) (v : Value) (l : List Int) (hs : a.eval s = v) (hown : OwnB w base v l)
    (B : Nat) (A : Option Addr) (m c : Nat) (l' : List Int) (hx : a.eval x = .slice A m c) (hy : By B w A m c l')
    (hbytes : l.length + m ≤ 140737488355328) (hbase : base ≤ w.heap.size)
    (hS : ∀ w', Below base w w' → S w')
    (h : ∀ v' w', OwnB w' base v' (l ++ l') → Below base w w' → S w' → wpAnyH P md ops Q S fuel (listed.setIfInBounds i true) (a.put o.dst v') w') : wpOp P ops Q i (fun a' w' => S w' ∧ wpAnyH P md ops Q S fuel (listed.setIfInBounds i true) a' w') a w := by
  have hi : ops[i]? = some o := by simpa using hi
  unfold wpOp
  rw [hi]
  simp only [hw, if_true]
  left
  exact wp_append_row w s x t ho base _ _ 1 ht hinfo rfl v l.length (u8s l) hs hown.own B A m c (u8s l') hx hy.row (fun u hu => by
      obtain ⟨y, _, rfl⟩ := List.mem_map.1 hu; rfl) (by simp only [maxLen]; omega) (by omega) hbase
      fun v' w' h2 h3 _ => by
        have ho' : OwnB w' base v' (l ++ l') := ⟨by rw [List.length_append, hy.len, u8s_append]; exact h2, hown.rng.app hy.rng⟩
        have hb := below_app hown h3 hbase
        exact ⟨hS w' hb, h v' w' ho' hb (hS w' hb)⟩
theorem conv_u64 (src dst : TypeId) (k : IntKind) (n : Int) (hs : (P.underlying src).isSome = true) (hd : P.underlying dst = some (.int .u64)) (h0 : 0 ≤ n) (h1 : n ≤ 18446744073709551615) (w : World) : (convert src dst (.int k n)).run P w = .ok (.int .u64 n) w := by
  have hk : P.intKind dst = .u64 := by simp [Program.intKind, hd]
  have := run_convert_int (P := P) w src dst k n hs (by rw [hk]; exact hd)
  rw [hk, IntWalk.u64_in n ⟨h0, h1⟩] at this
  exact this
theorem conv_u8 (src dst : TypeId) (k : IntKind) (n : Int) (hs : (P.underlying src).isSome = true) (hd : P.underlying dst = some (.int .u8)) (w : World) : (convert src dst (.int k n)).run P w = .ok (.int .u8 (n % 256)) w := by
  have hk : P.intKind dst = .u8 := by simp [Program.intKind, hd]
  have := run_convert_int (P := P) w src dst k n hs (by rw [hk]; exact hd)
  rw [hk, IntKind.wrap_u8] at this
  exact this
end
end Go.Proofs.Ytndmmkadceobjaa
