/-
  The walks of sum: add, words.
-/
import Derived.Test.YtfkcejfjmfliaaaProg
import Derived.Test.YtfkcejfjmfliaaaMem
import Derived.Test.YtfkcejfjmfliaaaBits
import Derived.Test.YtfkcejfjmfliaaaPlainSum
namespace Go.Proofs.Ytfkcejfjmfliaaa
open Go.RowKit Go.Shelf

theorem add_any (a b : Int) (w : World) (ha : 0 ≤ a) (ha' : a < 65536) (hb : 0 ≤ b) (hb' : b < 65536) :
    Calls Try.prog 50 #[.int .u16 a, .int .u16 b] w fun e w' => e = .returned (.int .u16 (addw a b)) ∧ w = w' := by
  go_enter Try.func50, Try.ntmps50
  go_wp2
  go_ret
  refine ⟨ret_int ?_, rfl⟩
  rw [and_u32 16 65535 rfl (by omega) (by omega) (by omega), IntKind.wrap_u16]
  unfold addw
  omega

attribute [local go_sem] Oper.semAt_some

theorem flat_le {xs : List Sl} {k j : Nat} (hlt : k < xs.length) (hj : j < xs[k].2.2.length) : (flat (xs.take k) ++ xs[k].2.2.take j).length ≤ (flat xs).length := by
  have h : xs = xs.take k ++ xs[k] :: xs.drop (k + 1) := by rw [← List.drop_eq_getElem_cons hlt, List.take_append_drop]
  have h2 := congrArg (fun l => (flat l).length) h
  simp only [flat, List.map_append, List.map_cons, List.flatten_append, List.flatten_cons, List.length_append] at h2 ⊢
  rw [List.length_take]
  omega

def Pend (o : Option Int) (hi od : Value) : Prop :=
  (o = none ∧ od = .bool false ∧ ∃ x, hi = .int .u16 x) ∨ ∃ h, o = some h ∧ od = .bool true ∧ hi = .int .u16 (h * 256) ∧ 0 ≤ h ∧ h ≤ 255

set_option maxRecDepth 100000 in
set_option maxHeartbeats 4000000 in
theorem words1_in (F : Fence) (n : Nat) (h7 : F.fn 57) (hro : F.round = none) (hn : 1 ≤ n) (l Bs n₀ : Nat) (A : Option Addr) (c : Nat) (xs : List Sl) (Kp : World → World → Prop) (J Jx : List Int → World → Prop)
    (hY : ∀ pre x W, J pre W → (0 ≤ x ∧ x < 65536) ∧ pre.length ≤ (flat xs).length → YieldAt F (n - 1) Try.prog l #[.int .u16 x] W fun e W' =>
      (e = .returned (.bool true) ∧ J (pre ++ [x]) W' ∧ Kp W W') ∨ (e = .returned (.bool false) ∧ Jx (pre ++ [x]) W'))
    (W : World) (hKr : Kp W W) (hKt : ∀ {A B C : World}, Kp A B → Kp B C → Kp A C) (hBs : W.cell? ⟨Bs, 0, none⟩ = some (.slice A xs.length c)) (hc0 : Parts n₀ W A xs.length c xs) (hcK : ∀ W', Kp W W' → Parts n₀ W' A xs.length c xs) (h0 : J [] W) :
    CallsIn F n Try.prog 57 #[.func (.yield l) #[] #[], .pointer (some ⟨Bs, 0, none⟩)] W fun e W' => (∃ v, e = .returned v) ∧
      ((J (wds (flat xs)) W') ∨ (∃ pre, Jx pre W')) := by
  refine callsIn_of_wp Try.func57 rfl h7 ?_ hro
  simp only [Try.ntmps57, List.size_toArray, List.length_cons, List.length_nil, Nat.reduceAdd, Nat.reduceSub, Array.replicate_succ, Array.replicate_zero, List.push_toArray, List.append_toArray, List.nil_append, List.cons_append]
  gi_wp2
  gi_loopw [3, 4, 11] (fun hi od i wr => ∃ k : Nat, k ≤ xs.length ∧ i = .int .i64 k ∧ Pend (runw (flat (xs.take k))).2 hi od ∧ J (runw (flat (xs.take k))).1 wr ∧ Kp W wr)
    (fun _ _ i _ => xs.length - (intOf i).toNat)
  case atStart => exact ⟨0, Nat.zero_le _, rfl, .inl ⟨rfl, rfl, 0, rfl⟩, h0, hKr⟩
  case round =>
    obtain ⟨k, hk, rfl, hp, hJs, hnx⟩ := hrel
    by_cases hlt : k < xs.length
    · obtain ⟨b, off, hA, hb, hcell, _⟩ := (hcK wr hnx).at_ k xs[k] (List.getElem?_eq_getElem hlt)
      subst hA
      have hk63 : k < 9223372036854775807 := by have := hc0.big; have := hc0.cap; omega
      have hsum := flat_take_succ hlt
      obtain ⟨A', c', l', hxk⟩ : ∃ A' c' l', xs[k] = (A', c', l') := ⟨_, _, _, rfl⟩
      have hfl := fun j => @flat_le xs k j hlt
      rw [hxk] at hsum hcell hfl
      have hyk : ∀ W', Kp W W' → By n₀ W' A' l'.length c' l' := fun W' h => by
        obtain ⟨_, _, _, _, _, hy⟩ := (hcK W' h).at_ k xs[k] (List.getElem?_eq_getElem hlt)
        rwa [hxk] at hy
      clear hxk
      dsimp only at hsum hcell hfl
      have hsumH := Lib.hid hsum
      clear hsum
      gi_wp2
      gi_loopw [3, 4, 17] (fun hi od i wr' => ∃ j : Nat, j ≤ l'.length ∧ i = .int .i64 j ∧ Pend (runw (flat (xs.take k) ++ l'.take j)).2 hi od ∧ J (runw (flat (xs.take k) ++ l'.take j)).1 wr' ∧ Kp W wr')
        (fun _ _ i _ => l'.length - (intOf i).toNat)
      case atStart => exact ⟨0, Nat.zero_le _, rfl, by simpa using hp, by simpa using hJs, hnx⟩
      case round =>
        clear hp hJs
        obtain ⟨j, hj, rfl, hp, hJs, hnx2⟩ := hrel
        by_cases hjt : j < l'.length
        · obtain ⟨b2, off2, x, rfl, hb2, hx, hxc, hx0, hx1⟩ := (hyk _ hnx2).get hjt
          have hj63 : j < 9223372036854775807 := by have := (hyk _ hnx2).big; have := (hyk _ hnx2).cap; omega
          have hst : runw (flat (xs.take k) ++ l'.take (j + 1)) = stp (runw (flat (xs.take k) ++ l'.take j)) x := by
            rw [List.take_succ_eq_append_getElem hjt, ← List.append_assoc, runw_snoc]
            rw [List.getElem?_eq_getElem hjt] at hx
            injection hx with hx
            rw [hx]
          have hstH := Lib.hid hst
          clear hst
          rcases hp with ⟨h1, rfl, y, rfl⟩ | ⟨h, h1, rfl, rfl, h2, h3⟩
          · have h1H := Lib.hid h1
            have hxH := Lib.hid hx
            clear h1 hx
            gi_wp2
            go_roundw
            case rel => exact ⟨j + 1, by omega, by go_num, .inr ⟨x, by rw [hstH.out, stp, h1H.out], rfl, by simp, hx0, hx1⟩, by rw [hstH.out, stp, h1H.out]; exact hJs, hnx2⟩
            case measure => simp [intOf]; omega
          · have h1H := Lib.hid h1
            have hxH := Lib.hid hx
            clear h1 hx
            have hor : bits .or .u16 (h * 256) x = h * 256 + x := or_u16 8 (by omega) (by omega) (by omega) hx0 (by omega) (by omega)
            obtain ⟨fn, tmps, assign, body, hyl, hR⟩ := hY _ (bits .or .u16 (h * 256) x) wr hJs ⟨by rw [hor]; omega, Nat.le_trans (runw_le _) (hfl j hjt)⟩
            have horH := Lib.hid hor
            clear hor
            gi_wp2
            refine hR.mono ?_
            rintro e W3 (⟨rfl, hJ3, hk3⟩ | ⟨rfl, hJx3⟩)
            · gi_wp2
              go_roundw
              case rel => exact ⟨j + 1, by omega, by go_num, .inl ⟨by rw [hstH.out, stp, h1H.out], rfl, _, rfl⟩, by rw [hstH.out, stp, h1H.out]; rw [horH.out] at hJ3; exact hJ3, hKt hnx2 hk3⟩
              case measure => simp [intOf]; omega
            · gi_wp2
              refine bodyPost_ret (results_none rfl _ _ _) rfl ?_
              exact ⟨⟨_, rfl⟩, .inr ⟨_, hJx3⟩⟩
        · obtain rfl : j = l'.length := by omega
          gi_wp2
          go_roundw
          case rel => exact ⟨k + 1, by omega, by go_num, by rw [hsumH.out]; simpa using hp, by rw [hsumH.out]; simpa using hJs, hnx2⟩
          case measure => simp [intOf]; omega
    · obtain rfl : k = xs.length := by omega
      rcases hp with ⟨h1, rfl, x, rfl⟩ | ⟨h, h1, rfl, rfl, h2, h3⟩
      · gi_wp2
        go_end0
        rw [List.take_length] at hJs h1
        exact ⟨⟨_, rfl⟩, .inl (by rw [wds, h1]; simpa [rest] using hJs)⟩
      · rw [List.take_length] at hJs h1
        have h1H := Lib.hid h1
        clear h1
        obtain ⟨fn, tmps, assign, body, hyl, hR⟩ := hY _ (h * 256) wr hJs ⟨by omega, runw_le _⟩
        gi_wp2
        refine hR.mono ?_
        rintro e W3 (⟨rfl, hJ3, hk3⟩ | ⟨rfl, hJx3⟩)
        · gi_wp2
          go_end0
          exact ⟨⟨_, rfl⟩, .inl (by rw [wds, h1H.out]; exact hJ3)⟩
        · gi_wp2
          go_end0
          exact ⟨⟨_, rfl⟩, .inr ⟨_, hJx3⟩⟩

/-- whole numbers of two bytes -/
abbrev W16 := { x : Int // 0 ≤ x ∧ x < 65536 }
def ints (l : List W16) : List Int := l.map (·.1)
theorem ints_snoc (l : List W16) (x : W16) : ints (l ++ [x]) = ints l ++ [x.1] := by simp [ints]

theorem words_in (F : Fence) (n : Nat) (h6 : F.fn 49) (hro : F.round = none) (A : Option Addr) (m c : Nat) (w : World) :
    CallsIn F n Try.prog 49 #[.slice A m c] w fun e w' => e = .returned (.func (.func 57) #[] #[.pointer (some ⟨w.heap.size, 0, none⟩)]) ∧ w' = w.alloc (.cells #[.slice A m c] 59) := by
  refine callsIn_of_wp Try.func49 rfl h6 ?_ hro
  simp only [Try.ntmps49, List.size_toArray, List.length_cons, List.length_nil, Nat.reduceAdd, Nat.reduceSub, Array.replicate_succ, Array.replicate_zero, List.push_toArray, List.append_toArray, List.nil_append, List.cons_append]
  gi_wp2
  go_ret
  exact ⟨rfl, rfl⟩

theorem words_stops (F : Fence) (n : Nat) (h8 : F.fn 57) (hro : F.round = none) (hn : 1 ≤ n) (Bs n₀ : Nat) (A : Option Addr) (c : Nat) (xs : List Sl) (Kp : World → World → Prop) (w : World) (hBs : Bs < w.heap.size) (hn₀ : n₀ ≤ w.heap.size)
    (hcell : w.cell? ⟨Bs, 0, none⟩ = some (.slice A xs.length c)) (hc : Parts n₀ w A xs.length c xs)
    (hKr : ∀ W, Kp W W) (hKt : ∀ {A B C : World}, Kp A B → Kp B C → Kp A C) (hcK : ∀ W W', Below w.heap.size w W → Kp W W' → Parts n₀ W' A xs.length c xs) :
    SeqStopsK F n Try.prog 57 #[.pointer (some ⟨Bs, 0, none⟩)] (fun x : W16 => #[Value.int .u16 x.1]) Kp (fun ys => ints ys = wds (flat xs)) (fun _ => True) ((flat xs).length + 1) w := fun l J Jx W hW _ _ hY h0 => by
  refine (words1_in F n h8 hro hn l Bs n₀ A c xs Kp (fun pre W => ∃ p, ints p = pre ∧ J p W) (fun pre W => ∃ p, ints p = pre ∧ Jx p W) ?_ W (hKr W) hKt ((hW.cell (p := ⟨Bs, 0, none⟩) hBs).trans hcell) (hc.below hW hn₀) (fun W' h => hcK W W' hW h) ⟨[], rfl, h0⟩).mono ?_
  · rintro pre x W1 ⟨p, rfl, hJ⟩ ⟨hx, hl⟩
    refine (hY p ⟨x, hx⟩ W1 hJ (by simp only [ints, List.length_map] at hl; omega)).mono ?_
    rintro e W' (⟨he, hj, hb⟩ | ⟨he, hj⟩)
    · exact .inl ⟨he, ⟨_, ints_snoc _ _, hj⟩, hb⟩
    · exact .inr ⟨he, _, ints_snoc _ _, hj⟩
  · rintro e W' ⟨he, ⟨p, hp, hj⟩ | ⟨pre, p, hp, hj⟩⟩
    · exact ⟨he, .inl ⟨p, hp, hj⟩⟩
    · exact ⟨he, .inr ⟨p, trivial, hj⟩⟩
end Go.Proofs.Ytfkcejfjmfliaaa
