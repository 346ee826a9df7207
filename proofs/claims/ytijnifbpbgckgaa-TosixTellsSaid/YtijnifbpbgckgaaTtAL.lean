/-
  Lemmas and walks for the row of TosixTells (part 12 of 39).
-/
import Derived.Test.YtijnifbpbgckgaaTtAA
import Derived.Test.YtijnifbpbgckgaaTtAB
import Derived.Test.YtijnifbpbgckgaaTtAD
import Derived.Test.YtijnifbpbgckgaaTtAG
import Derived.Test.YtijnifbpbgckgaaProg
set_option linter.unusedVariables false
set_option linter.unusedSimpArgs false
namespace Go.Proofs.Ytijnifbpbgckgaa
open Go.RowKit Go.Shelf

theorem add_any (a b : Int) (w : World) (ha : 0 ≤ a) (ha' : a < 65536) (hb : 0 ≤ b) (hb' : b < 65536) :
    Calls Try.prog 111 #[.int .u16 a, .int .u16 b] w fun e w' => e = .returned (.int .u16 (addw a b)) ∧ w = w' := by
  go_enter Try.func111, Try.ntmps111
  go_wp2
  go_ret
  refine ⟨ret_int ?_, rfl⟩
  rw [and_u32 16 65535 rfl (by omega) (by omega) (by omega), IntKind.wrap_u16]
  unfold addw
  omega

attribute [local go_sem] Oper.semAt_some

theorem flat_le {xs : List Sl} {k j : Nat} (hlt : k < xs.length) (hj : j < xs[k].2.2.length) : (flat (xs.take k) ++ xs[k].2.2.take j).length ≤ (flat xs).length := by
  have h : xs = xs.take k ++ xs[k] :: xs.drop (k + 1) := by rw [← List.drop_eq_getElem_cons hlt, List.take_append_drop]
  have h2 := congrArg (fun l => (flat l).length) h
  simp only [flat, List.map_append, List.map_cons, List.flatten_append, List.flatten_cons, List.length_append] at h2 ⊢
  rw [List.length_take]
  omega

def Pend (o : Option Int) (hi od : Value) : Prop :=
  (o = none ∧ od = .bool false ∧ ∃ x, hi = .int .u16 x) ∨ ∃ h, o = some h ∧ od = .bool true ∧ hi = .int .u16 (h * 256) ∧ 0 ≤ h ∧ h ≤ 255

set_option maxRecDepth 100000 in
set_option maxHeartbeats 4000000 in
theorem words1_in (F : Fence) (n : Nat) (h7 : F.fn 115) (hro : F.round = none) (hn : 1 ≤ n) (l Bs n₀ : Nat) (A : Option Addr) (c : Nat) (xs : List Sl) (Kp : World → World → Prop) (J Jx : List Int → World → Prop)
    (hY : ∀ pre x W, J pre W → (0 ≤ x ∧ x < 65536) ∧ pre.length ≤ (flat xs).length → YieldAt F (n - 1) Try.prog l #[.int .u16 x] W fun e W' =>
      (e = .returned (.bool true) ∧ J (pre ++ [x]) W' ∧ Kp W W') ∨ (e = .returned (.bool false) ∧ Jx (pre ++ [x]) W'))
    (W : World) (hKr : Kp W W) (hKt : ∀ {A B C : World}, Kp A B → Kp B C → Kp A C) (hBs : W.cell? ⟨Bs, 0, none⟩ = some (.slice A xs.length c)) (hc0 : Parts n₀ W A xs.length c xs) (hcK : ∀ W', Kp W W' → Parts n₀ W' A xs.length c xs) (h0 : J [] W) :
    CallsIn F n Try.prog 115 #[.func (.yield l) #[] #[], .pointer (some ⟨Bs, 0, none⟩)] W fun e W' => (∃ v, e = .returned v) ∧
      ((J (wds (flat xs)) W') ∨ (∃ pre, Jx pre W')) := by
  refine callsIn_of_wp Try.func115 rfl h7 ?_ hro
  simp only [Try.ntmps115, List.size_toArray, List.length_cons, List.length_nil, Nat.reduceAdd, Nat.reduceSub, Array.replicate_succ, Array.replicate_zero, List.push_toArray, List.append_toArray, List.nil_append, List.cons_append]
  gi_wp2
  gi_loopw [3, 4, 11] (fun hi od i wr => ∃ k : Nat, k ≤ xs.length ∧ i = .int .i64 k ∧ Pend (runw (flat (xs.take k))).2 hi od ∧ J (runw (flat (xs.take k))).1 wr ∧ Kp W wr)
    (fun _ _ i _ => xs.length - (intOf i).toNat)
  case atStart => exact ⟨0, Nat.zero_le _, rfl, .inl ⟨rfl, rfl, 0, rfl⟩, h0, hKr⟩
  case round =>
    obtain ⟨k, hk, rfl, hp, hJs, hnx⟩ := hrel
    by_cases hlt : k < xs.length
    · obtain ⟨b, off, hA, hb, hcell, _⟩ := (hcK wr hnx).at_ k xs[k] (List.getElem?_eq_getElem hlt)
      subst hA
      have hk63 : k < 9223372036854775807 := by have := hc0.big; have := hc0.cap; omega
      have hsum := flat_take_succ hlt
      obtain ⟨A', c', l', hxk⟩ : ∃ A' c' l', xs[k] = (A', c', l') := ⟨_, _, _, rfl⟩
      have hfl := fun j => @flat_le xs k j hlt
      rw [hxk] at hsum hcell hfl
      have hyk : ∀ W', Kp W W' → By n₀ W' A' l'.length c' l' := fun W' h => by
        obtain ⟨_, _, _, _, _, hy⟩ := (hcK W' h).at_ k xs[k] (List.getElem?_eq_getElem hlt)
        rwa [hxk] at hy
      clear hxk
      dsimp only at hsum hcell hfl
      have hsumH := Lib.hid hsum
      clear hsum
      gi_wp2
      gi_loopw [3, 4, 17] (fun hi od i wr' => ∃ j : Nat, j ≤ l'.length ∧ i = .int .i64 j ∧ Pend (runw (flat (xs.take k) ++ l'.take j)).2 hi od ∧ J (runw (flat (xs.take k) ++ l'.take j)).1 wr' ∧ Kp W wr')
        (fun _ _ i _ => l'.length - (intOf i).toNat)
      case atStart => exact ⟨0, Nat.zero_le _, rfl, by simpa using hp, by simpa using hJs, hnx⟩
      case round =>
        clear hp hJs
        obtain ⟨j, hj, rfl, hp, hJs, hnx2⟩ := hrel
        by_cases hjt : j < l'.length
        · obtain ⟨b2, off2, x, rfl, hb2, hx, hxc, hx0, hx1⟩ := (hyk _ hnx2).get hjt
          have hj63 : j < 9223372036854775807 := by have := (hyk _ hnx2).big; have := (hyk _ hnx2).cap; omega
          have hst : runw (flat (xs.take k) ++ l'.take (j + 1)) = stp (runw (flat (xs.take k) ++ l'.take j)) x := by
            rw [List.take_succ_eq_append_getElem hjt, ← List.append_assoc, runw_snoc]
            rw [List.getElem?_eq_getElem hjt] at hx
            injection hx with hx
            rw [hx]
          have hstH := Lib.hid hst
          clear hst
          rcases hp with ⟨h1, rfl, y, rfl⟩ | ⟨h, h1, rfl, rfl, h2, h3⟩
          · have h1H := Lib.hid h1
            have hxH := Lib.hid hx
            clear h1 hx
            gi_wp2
            go_roundw
            case rel => exact ⟨j + 1, by omega, by go_num, .inr ⟨x, by rw [hstH.out, stp, h1H.out], rfl, by simp, hx0, hx1⟩, by rw [hstH.out, stp, h1H.out]; exact hJs, hnx2⟩
            case measure => simp [intOf]; omega
          · have h1H := Lib.hid h1
            have hxH := Lib.hid hx
            clear h1 hx
            have hor : bits .or .u16 (h * 256) x = h * 256 + x := or_u16 8 (by omega) (by omega) (by omega) hx0 (by omega) (by omega)
            obtain ⟨fn, tmps, assign, body, hyl, hR⟩ := hY _ (bits .or .u16 (h * 256) x) wr hJs ⟨by rw [hor]; omega, Nat.le_trans (runw_le _) (hfl j hjt)⟩
            have horH := Lib.hid hor
            clear hor
            gi_wp2
            refine hR.mono ?_
            rintro e W3 (⟨rfl, hJ3, hk3⟩ | ⟨rfl, hJx3⟩)
            · gi_wp2
              go_roundw
              case rel => exact ⟨j + 1, by omega, by go_num, .inl ⟨by rw [hstH.out, stp, h1H.out], rfl, _, rfl⟩, by rw [hstH.out, stp, h1H.out]; rw [horH.out] at hJ3; exact hJ3, hKt hnx2 hk3⟩
              case measure => simp [intOf]; omega
            · gi_wp2
              refine bodyPost_ret (results_none rfl _ _ _) rfl ?_
              exact ⟨⟨_, rfl⟩, .inr ⟨_, hJx3⟩⟩
        · obtain rfl : j = l'.length := by omega
          gi_wp2
          go_roundw
          case rel => exact ⟨k + 1, by omega, by go_num, by rw [hsumH.out]; simpa using hp, by rw [hsumH.out]; simpa using hJs, hnx2⟩
          case measure => simp [intOf]; omega
    · obtain rfl : k = xs.length := by omega
      rcases hp with ⟨h1, rfl, x, rfl⟩ | ⟨h, h1, rfl, rfl, h2, h3⟩
      · gi_wp2
        go_end0
        rw [List.take_length] at hJs h1
        exact ⟨⟨_, rfl⟩, .inl (by rw [wds, h1]; simpa [rest] using hJs)⟩
      · rw [List.take_length] at hJs h1
        have h1H := Lib.hid h1
        clear h1
        obtain ⟨fn, tmps, assign, body, hyl, hR⟩ := hY _ (h * 256) wr hJs ⟨by omega, runw_le _⟩
        gi_wp2
        refine hR.mono ?_
        rintro e W3 (⟨rfl, hJ3, hk3⟩ | ⟨rfl, hJx3⟩)
        · gi_wp2
          go_end0
          exact ⟨⟨_, rfl⟩, .inl (by rw [wds, h1H.out]; exact hJ3)⟩
        · gi_wp2
          go_end0
          exact ⟨⟨_, rfl⟩, .inr ⟨_, hJx3⟩⟩

/-- whole numbers of two bytes -/
abbrev W16 := { x : Int // 0 ≤ x ∧ x < 65536 }
def ints (l : List W16) : List Int := l.map (·.1)
theorem ints_snoc (l : List W16) (x : W16) : ints (l ++ [x]) = ints l ++ [x.1] := by simp [ints]

theorem words_in (F : Fence) (n : Nat) (h6 : F.fn 110) (hro : F.round = none) (A : Option Addr) (m c : Nat) (w : World) :
    CallsIn F n Try.prog 110 #[.slice A m c] w fun e w' => e = .returned (.func (.func 115) #[] #[.pointer (some ⟨w.heap.size, 0, none⟩)]) ∧ w' = w.alloc (.cells #[.slice A m c] 106) := by
  refine callsIn_of_wp Try.func110 rfl h6 ?_ hro
  simp only [Try.ntmps110, List.size_toArray, List.length_cons, List.length_nil, Nat.reduceAdd, Nat.reduceSub, Array.replicate_succ, Array.replicate_zero, List.push_toArray, List.append_toArray, List.nil_append, List.cons_append]
  gi_wp2
  go_ret
  exact ⟨rfl, rfl⟩

theorem words_stops (F : Fence) (n : Nat) (h8 : F.fn 115) (hro : F.round = none) (hn : 1 ≤ n) (Bs n₀ : Nat) (A : Option Addr) (c : Nat) (xs : List Sl) (Kp : World → World → Prop) (w : World) (hBs : Bs < w.heap.size) (hn₀ : n₀ ≤ w.heap.size)
    (hcell : w.cell? ⟨Bs, 0, none⟩ = some (.slice A xs.length c)) (hc : Parts n₀ w A xs.length c xs)
    (hKr : ∀ W, Kp W W) (hKt : ∀ {A B C : World}, Kp A B → Kp B C → Kp A C) (hcK : ∀ W W', Below w.heap.size w W → Kp W W' → Parts n₀ W' A xs.length c xs) :
    SeqStopsK F n Try.prog 115 #[.pointer (some ⟨Bs, 0, none⟩)] (fun x : W16 => #[Value.int .u16 x.1]) Kp (fun ys => ints ys = wds (flat xs)) (fun _ => True) ((flat xs).length + 1) w := fun l J Jx W hW _ _ hY h0 => by
  refine (words1_in F n h8 hro hn l Bs n₀ A c xs Kp (fun pre W => ∃ p, ints p = pre ∧ J p W) (fun pre W => ∃ p, ints p = pre ∧ Jx p W) ?_ W (hKr W) hKt ((hW.cell (p := ⟨Bs, 0, none⟩) hBs).trans hcell) (hc.below hW hn₀) (fun W' h => hcK W W' hW h) ⟨[], rfl, h0⟩).mono ?_
  · rintro pre x W1 ⟨p, rfl, hJ⟩ ⟨hx, hl⟩
    refine (hY p ⟨x, hx⟩ W1 hJ (by simp only [ints, List.length_map] at hl; omega)).mono ?_
    rintro e W' (⟨he, hj, hb⟩ | ⟨he, hj⟩)
    · exact .inl ⟨he, ⟨_, ints_snoc _ _, hj⟩, hb⟩
    · exact .inr ⟨he, _, ints_snoc _ _, hj⟩
  · rintro e W' ⟨he, ⟨p, hp, hj⟩ | ⟨pre, p, hp, hj⟩⟩
    · exact ⟨he, .inl ⟨p, hp, hj⟩⟩
    · exact ⟨he, .inr ⟨p, trivial, hj⟩⟩
end Go.Proofs.Ytijnifbpbgckgaa
namespace Go.Proofs.Ytijnifbpbgckgaa
open Go.RowKit Go.Shelf
attribute [local go_sem] Oper.semAt_some

theorem fold_w16 (n : Int) (hn : 0 ≤ n ∧ n < 65536) (l : List W16) : 0 ≤ fold n (ints l) ∧ fold n (ints l) < 65536 := fold_rng n hn _ (fun x hx => by
  obtain ⟨y, _, rfl⟩ := List.mem_map.1 hx
  exact y.2)

set_option maxRecDepth 100000 in
set_option maxHeartbeats 2000000 in
/-- sum.Fold: the sum of the words of parts -/
theorem fold_any (A : Option Addr) (c : Nat) (xs : List Sl) (w : World) (hI : Parts w.heap.size w A xs.length c xs) :
    Calls Try.prog 98 #[.slice A xs.length c] w fun e W' => e = .returned (.int .u16 (sumw (flat xs))) ∧ Below w.heap.size w W' := by
  refine (callsIn_wide (n := 5)).1 ?_
  refine callsIn_of_wp_marks Try.func98 rfl trivial ?_ rfl
  simp only [Try.ntmps98, List.size_toArray, List.length_cons, List.length_nil, Nat.reduceAdd, Nat.reduceSub, Array.replicate_succ, Array.replicate_zero, List.push_toArray, List.append_toArray, List.nil_append, List.cons_append]
  gi_wp2_with (refine ⟨trivial, ?_⟩; gi_at_call 110; refine (words_in Fence.wide _ trivial rfl _ _ _ _).mono ?_; rintro e w' ⟨rfl, rfl⟩)
  have bS := Boxed.new w 22 (.int .u16 0)
  have bN := Boxed.new (w.alloc (.cells #[.int .u16 0] 22)) 106 (.slice A xs.length c)
  rw [World.size_alloc] at bN
  have hB0 : Below w.heap.size w ((w.alloc (.cells #[.int .u16 0] 22)).alloc (.cells #[.slice A xs.length c] 106)) := ((Below.refl _ w).alloc (Nat.le_refl _) _).alloc (by simp) _
  refine wpIn_rangeFunc_ownG (F := Fence.wide) (n := 5) rfl (by decide) (gf := 115) (lb := #[.pointer (some ⟨w.heap.size + 1, 0, none⟩)]) rfl trivial (enters_of Try.func115 (by kernel_rfl) rfl)
    (words_stops Fence.wide 4 trivial rfl (by decide) (w.heap.size + 1) w.heap.size A c xs (Below w.heap.size) _ (by simp) (by simp; omega) bN.cell (hI.below hB0 (Nat.le_refl _)) (fun W => Below.refl _ W) belowK_t (fun W W' h hb => ((hI.below hB0 (Nat.le_refl _)).below h (by simp; omega)).below hb (Nat.le_refl _))) belowK_t (belowK_b (by simp; omega)) (Below.refl _ _) (fun _ => rfl)
    (fun pre W => (W.cell? ⟨w.heap.size, 0, none⟩ = some (.int .u16 (fold 0 (ints pre))) ∧ W.frozen? ⟨w.heap.size, 0, none⟩ = false) ∧ Below w.heap.size w W)
    (fun _ _ _ => False)
    (OwnFrom.and (Own.from (fun s A B row hs hg hr => ⟨cell_kept hs.1 hg hr, (frozen_kept hs.1 hg hr).trans hs.2⟩) _) (ownFrom_below (Nat.le_refl _) (by simp; omega)))
    (fun _ _ _ _ _ hs _ _ => hs)
    ⟨⟨(bS.alloc _).cell, (bS.alloc _).frozen⟩, hB0⟩
    (fun x => { tmps := #[.slice A xs.length c, undef, .int .u16 0, .pointer (some ⟨w.heap.size, 0, none⟩), .int .u16 x.1, .slice A xs.length c, .func (.func 115) #[] #[.pointer (some ⟨w.heap.size + 1, 0, none⟩)], .int .u16 x.1, undef, undef, undef, undef], defers := [] }) ?assign ?body ?done ?stop
  case assign =>
    intro l x W K hK
    gi_wp2
    exact hK
  case body =>
    rintro l pre x W ⟨⟨hc, hf⟩, hB⟩ _
    have hr := fold_w16 0 (by omega) pre
    gi_wp2_with (refine ⟨trivial, ?_⟩; gi_at_call 111; refine (CallsIn.inRound l (callsIn_wide.2 (add_any _ _ _ hr.1 hr.2 x.2.1 x.2.2))).mono ?_; rintro e w' ⟨rfl, rfl⟩)
    exact ⟨(KeepsOthers.setCell _ _ _).from _, (Below.refl w.heap.size W).setCell (p := ⟨w.heap.size, 0, none⟩) (Nat.le_refl _) _, ⟨by rw [ints_snoc, fold_snoc]; exact World.cell?_setCell_same' _ _ _ (by rw [hc]; rfl), by rw [World.frozen?_setCell]; exact hf⟩, hB.setCell (p := ⟨w.heap.size, 0, none⟩) (Nat.le_refl _) _⟩
  case done =>
    rintro D ys W hD hys ⟨⟨hc, _⟩, hB⟩ hK
    have hysH := Lib.hid hys
    clear hys
    gi_wp2
    refine ⟨by simp, .inl ⟨_, _, rfl, run_takeDeferred hK, ?_⟩⟩
    refine ⟨_, results_tmp rfl _ _ _, ?_, hB.trans (belowK_b (w := w) (Nat.le_refl _) W D _ _ (by simp at hD; omega) hK rfl rfl)⟩
    rw [hysH.out]; rfl
  case stop =>
    rintro D c pre W _ _ h _
    exact h.elim
end Go.Proofs.Ytijnifbpbgckgaa
namespace Go.Proofs.Ytijnifbpbgckgaa
open Go.RowKit Go.Shelf
attribute [local go_sem] Oper.semAt_some

theorem of_any (A : Option Addr) (c : Nat) (xs : List Sl) (w : World) (hI : Parts w.heap.size w A xs.length c xs) :
    Calls Try.prog 75 #[.slice A xs.length c] w fun e W' => e = .returned (.int .u16 (65535 - sumw (flat xs))) ∧ Below w.heap.size w W' := by
  go_enter Try.func75, Try.ntmps75
  go_wp2_with (go_at_call 98; refine (fold_any _ _ _ _ hI).mono ?_; rintro e w' ⟨rfl, hb⟩)
  go_ret
  have h := sumw_rng _ hI.rng
  exact ⟨ret_int (not_u16 _ h.1 h.2), hb⟩
theorem good_any (A : Option Addr) (c : Nat) (xs : List Sl) (w : World) (hI : Parts w.heap.size w A xs.length c xs) :
    Calls Try.prog 96 #[.slice A xs.length c] w fun e W' => e = .returned (.bool (decide (sumw (flat xs) = 65535))) ∧ Below w.heap.size w W' := by
  go_enter Try.func96, Try.ntmps96
  go_wp2_with (go_at_call 98; refine (fold_any _ _ _ _ hI).mono ?_; rintro e w' ⟨rfl, hb⟩)
  go_ret
  exact ⟨rfl, hb⟩

/-- sum.Of, its parts in a new row -/
theorem of_new {w : World} {g : Nat} (xs : List Sl) (n : Nat) (h : Has w g (.cells (xs.map fun x => Value.slice x.1 x.2.2.length x.2.1).toArray 25 (0, 0))) (hn : n = xs.length) (hy : ∀ x ∈ xs, By w.heap.size w x.1 x.2.2.length x.2.1 x.2.2) (hb : xs.length ≤ 9223372036854775807) :
    Calls Try.prog 75 #[.slice (some ⟨g, 0, none⟩) n n] w fun e W' => ∃ q : Int, e = .returned (.int .u16 q) ∧ Hid (q = 65535 - sumw (flat xs)) ∧ (0 ≤ q ∧ q < 65536) ∧ Below w.heap.size w W' := by
  subst hn
  have hP := Parts.blk h (Nat.le_refl _) rfl hy hb
  have hr := sumw_rng _ hP.rng
  exact (of_any _ _ xs _ hP).mono fun e w' ⟨he, hb⟩ => ⟨_, he, Lib.hid rfl, by omega, hb⟩
theorem good_new {w : World} {g : Nat} (xs : List Sl) (n : Nat) (h : Has w g (.cells (xs.map fun x => Value.slice x.1 x.2.2.length x.2.1).toArray 25 (0, 0))) (hn : n = xs.length) (hy : ∀ x ∈ xs, By w.heap.size w x.1 x.2.2.length x.2.1 x.2.2) (hb : xs.length ≤ 9223372036854775807) :
    Calls Try.prog 96 #[.slice (some ⟨g, 0, none⟩) n n] w fun e W' => ∃ q : Bool, e = .returned (.bool q) ∧ Hid (q = decide (sumw (flat xs) = 65535)) ∧ Below w.heap.size w W' := by
  subst hn
  exact (good_any _ _ xs _ (Parts.blk h (Nat.le_refl _) rfl hy hb)).mono fun e w' ⟨he, hb⟩ => ⟨_, he, Lib.hid rfl, hb⟩
end Go.Proofs.Ytijnifbpbgckgaa
namespace Go.Proofs.Ytijnifbpbgckgaa
open Go.RowKit Go.Shelf
attribute [local go_sem] Oper.semAt_some
theorem fold_neg_w16 (n : Int) (hn : 0 ≤ n ∧ n < 65536) (l : List W16) : 0 ≤ fold n (neg (ints l)) ∧ fold n (neg (ints l)) < 65536 := fold_rng n hn _ (neg_rng _ (fun x hx => by
  obtain ⟨y, _, rfl⟩ := List.mem_map.1 hx
  exact y.2))
theorem changed_err (n : Int) (A1 A2 : Option Addr) (c1 c2 : Nat) (l1 l2 : List Int) (w : World) (hd : ¬ (l1.length = l2.length ∧ l2.length % 2 = 0)) :
    Calls Try.prog 108 #[.int .u16 n, .slice A1 l1.length c1, .slice A2 l2.length c2] w fun e W' => e = .returned (.tuple #[.int .u16 0, .int .i64 10]) ∧ Below w.heap.size w W' := by
  by_cases he : l1.length = l2.length
  · have ho : ¬ (l2.length % 2 = 0) := fun h => hd ⟨he, h⟩
    go_enter Try.func108, Try.ntmps108
    go_wp2
    go_ret2
    exact ⟨rfl, (Below.refl _ _).alloc (Nat.le_refl _) _⟩
  · go_enter Try.func108, Try.ntmps108
    go_wp2
    go_ret2
    exact ⟨rfl, (Below.refl _ _).alloc (Nat.le_refl _) _⟩

set_option maxRecDepth 100000 in
set_option maxHeartbeats 4000000 in
theorem changed_ok (n : Int) (hn : 0 ≤ n ∧ n < 65536) (A1 A2 : Option Addr) (c1 c2 : Nat) (l1 l2 : List Int) (w : World) (h1 : By w.heap.size w A1 l1.length c1 l1) (h2 : By w.heap.size w A2 l2.length c2 l2)
    (hd : l1.length = l2.length) (hd2 : l2.length % 2 = 0) :
    Calls Try.prog 108 #[.int .u16 n, .slice A1 l1.length c1, .slice A2 l2.length c2] w fun e W' => e = .returned (.tuple #[.int .u16 (fold (fold n (neg (wds l1))) (wds l2)), .int .i64 0]) ∧ Below w.heap.size w W' := by
  have hb2 : l2.length ≤ 9223372036854775807 := by have := h2.big; have := h2.cap; omega
  have hdH := Lib.hid hd
  rw [hd] at h1
  have hm : ((l2.length : Int) % 2 != 0) = false := by simp; omega
  refine (callsIn_wide (n := 7)).1 ?_
  refine callsIn_of_wp_marks Try.func108 rfl trivial ?_ rfl
  simp only [Try.ntmps108, List.size_toArray, List.length_cons, List.length_nil, Nat.reduceAdd, Nat.reduceSub, Array.replicate_succ, Array.replicate_zero, List.push_toArray, List.append_toArray, List.nil_append, List.cons_append]
  rw [hd]
  clear hd
  gi_wp2_with (refine ⟨trivial, ?_⟩; gi_at_call 110; refine (words_in Fence.wide _ trivial rfl _ _ _ _).mono ?_; rintro e w' ⟨rfl, rfl⟩)
  obtain ⟨W0, hW0⟩ : ∃ W0, (((w.alloc (.cells #[.int .u16 n] 22)).alloc (.cells #[.slice A1 l2.length c1] 25)).alloc (.cells #[Value.slice (some ⟨w.heap.size + 1, 0, none⟩) 1 1] 106)) = W0 := ⟨_, rfl⟩
  have hz0 : W0.heap.size = w.heap.size + 3 := by rw [← hW0]; simp
  have bS := ((Boxed.new w 22 (.int .u16 n)).alloc (.cells #[.slice A1 l2.length c1] 25)).alloc (.cells #[Value.slice (some ⟨w.heap.size + 1, 0, none⟩) 1 1] 106)
  have bN := Boxed.new ((w.alloc (.cells #[.int .u16 n] 22)).alloc (.cells #[.slice A1 l2.length c1] 25)) 106 (Value.slice (some ⟨w.heap.size + 1, 0, none⟩) 1 1)
  have bR := (Boxed.new (w.alloc (.cells #[.int .u16 n] 22)) 25 (.slice A1 l2.length c1)).alloc (.cells #[Value.slice (some ⟨w.heap.size + 1, 0, none⟩) 1 1] 106)
  have hB0 : Below w.heap.size w (((w.alloc (.cells #[.int .u16 n] 22)).alloc (.cells #[.slice A1 l2.length c1] 25)).alloc (.cells #[Value.slice (some ⟨w.heap.size + 1, 0, none⟩) 1 1] 106)) := (((Below.refl _ w).alloc (Nat.le_refl _) _).alloc (by simp) _).alloc (by simp; omega) _
  simp only [World.size_alloc] at bN bR
  rw [hW0] at bS bN bR hB0 ⊢
  clear hW0
  have hy1 : By w.heap.size W0 A1 l1.length c1 l1 := by rw [hdH.out]; exact h1.below hB0 (Nat.le_refl _)
  have hRow : ∀ W, Below W0.heap.size W0 W → W.cell? ⟨w.heap.size + 1, 0, none⟩ = some (.slice A1 l1.length c1) := fun W h => by
    rw [hdH.out]; exact (h.cell (p := ⟨w.heap.size + 1, 0, none⟩) (by simp; omega)).trans bR.cell
  refine wpIn_rangeFunc_ownG (F := Fence.wide) (n := 7) rfl (by decide) (gf := 115) (lb := #[.pointer (some ⟨w.heap.size + 1 + 1, 0, none⟩)]) rfl trivial (enters_of Try.func115 (by kernel_rfl) rfl)
    (words_stops Fence.wide 6 trivial rfl (by decide) (w.heap.size + 1 + 1) (w.heap.size + 2) _ 1 [(A1, c1, l1)] (BelowX (w.heap.size + 2) w.heap.size) W0 (by omega) (by omega) bN.cell (Parts.of1 _ (by omega) (hRow _ (Below.refl _ _)) (hy1.more (by omega))) (fun W => BelowX.refl _ _ W) BelowX.trans
      (fun W W' h hb => Parts.of1 _ (by omega) ((hb.cell (p := ⟨w.heap.size + 1, 0, none⟩) (by simp) (by simp)).trans (hRow _ h)) ((hy1.below h (by omega)).belowX hb (by omega) (by omega))))
    BelowX.trans (belowX_b (by omega)) (Below.refl _ _) (fun _ => rfl)
    (fun pre W => (W.cell? ⟨w.heap.size, 0, none⟩ = some (.int .u16 (fold n (neg (ints pre)))) ∧ W.frozen? ⟨w.heap.size, 0, none⟩ = false) ∧ Below w.heap.size w W)
    (fun _ _ _ => False)
    (OwnFrom.and (Own.from (fun s A B row hs hg hr => ⟨cell_kept hs.1 hg hr, (frozen_kept hs.1 hg hr).trans hs.2⟩) _) (ownFrom_below (Nat.le_refl _) (by omega)))
    (fun _ _ _ _ _ hs _ _ => hs)
    ⟨⟨bS.cell, bS.frozen⟩, hB0⟩
    ?a1 ?assign ?body ?done ?stop
  case assign =>
    intro l x W K hK
    gi_wp2
    exact hK
  case body =>
    rintro l pre x W ⟨⟨hc, hf⟩, hB⟩ _
    have hr := fold_neg_w16 n hn pre
    have hx := x.2
    have hnot := not_u16 x.1 x.2.1 x.2.2
    gi_wp2_with (refine ⟨trivial, ?_⟩; gi_at_call 111; refine (CallsIn.inRound l (callsIn_wide.2 (add_any _ _ _ hr.1 hr.2 (by omega) (by omega)))).mono ?_; rintro e w' ⟨rfl, rfl⟩)
    exact ⟨(KeepsOthers.setCell _ _ _).from _, (BelowX.refl _ _ W).setCell (p := ⟨w.heap.size, 0, none⟩) rfl _, ⟨by rw [ints_snoc, neg_snoc, fold_snoc]; exact World.cell?_setCell_same' _ _ _ (by rw [hc]; rfl), by rw [World.frozen?_setCell]; exact hf⟩, hB.setCell (p := ⟨w.heap.size, 0, none⟩) (Nat.le_refl _) _⟩
  case stop =>
    rintro D c pre W _ _ h _
    exact h.elim
  case done =>
    rintro D ys W hD hys ⟨⟨hc, hf⟩, hB⟩ hK
    have hsD : D < W.heap.size := (Array.getElem?_eq_some_iff.1 hK).1
    have hr := fold_neg_w16 n hn ys
    have hv : flat [(A1, c1, l1)] = l1 := by simp [flat]
    rw [hv] at hys
    rw [hys] at hc hr
    clear hys hv bS bN bR hRow hy1
    gi_wp2_with (refine ⟨trivial, ?_⟩; gi_at_call 110; refine (words_in Fence.wide _ trivial rfl _ _ _ _).mono ?_; rintro e w' ⟨rfl, rfl⟩)
    obtain ⟨W2, hW2⟩ : ∃ W2, ((W.alloc (.cells #[.slice A2 l2.length c2] 25)).alloc (.cells #[Value.slice (some ⟨W.heap.size, 0, none⟩) 1 1] 106)) = W2 := ⟨_, rfl⟩
    have hz2 : W2.heap.size = W.heap.size + 2 := by rw [← hW2]; simp
    have bN := Boxed.new (W.alloc (.cells #[.slice A2 l2.length c2] 25)) 106 (Value.slice (some ⟨W.heap.size, 0, none⟩) 1 1)
    have bR := (Boxed.new W 25 (.slice A2 l2.length c2)).alloc (.cells #[Value.slice (some ⟨W.heap.size, 0, none⟩) 1 1] 106)
    have hBW : Below W.heap.size W ((W.alloc (.cells #[.slice A2 l2.length c2] 25)).alloc (.cells #[Value.slice (some ⟨W.heap.size, 0, none⟩) 1 1] 106)) := ((Below.refl _ W).alloc (Nat.le_refl _) _).alloc (by simp) _
    simp only [World.size_alloc] at bN
    rw [hW2] at bN bR hBW ⊢
    clear hW2
    have hwW : w.heap.size + 3 ≤ W.heap.size := by omega
    have hB2 : Below w.heap.size w W2 := hB.trans (hBW.mono hB.size)
    have hcX : W2.cell? ⟨w.heap.size, 0, none⟩ = some (.int .u16 (fold n (neg (wds l1)))) := (hBW.cell (p := ⟨w.heap.size, 0, none⟩) (by simp; omega)).trans hc
    have hfX : W2.frozen? ⟨w.heap.size, 0, none⟩ = false := (hBW.frozen (p := ⟨w.heap.size, 0, none⟩) (by simp; omega)).trans hf
    have hK2 : W2.heap[D]? = some (.deferred (some [])) := (hBW.block D hsD).trans hK
    have hy2 : By w.heap.size W2 A2 l2.length c2 l2 := h2.below hB2 (Nat.le_refl _)
    have hRow : ∀ X, Below W2.heap.size W2 X → X.cell? ⟨W.heap.size, 0, none⟩ = some (.slice A2 l2.length c2) := fun X h => (h.cell (p := ⟨W.heap.size, 0, none⟩) (by simp; omega)).trans bR.cell
    clear hc hf hK
    refine wpIn_rangeFunc_ownG (F := Fence.wide) (n := 7) rfl (by decide) (gf := 115) (lb := #[.pointer (some ⟨W.heap.size + 1, 0, none⟩)]) rfl trivial (enters_of Try.func115 (by kernel_rfl) rfl)
      (words_stops Fence.wide 6 trivial rfl (by decide) (W.heap.size + 1) (W.heap.size + 1) _ 1 [(A2, c2, l2)] (BelowX (W.heap.size + 1) w.heap.size) W2 (by omega) (by omega) bN.cell (Parts.of1 _ (by omega) (hRow _ (Below.refl _ _)) (hy2.more (by omega))) (fun W => BelowX.refl _ _ W) BelowX.trans
        (fun X X' h hb => Parts.of1 _ (by omega) ((hb.cell (p := ⟨W.heap.size, 0, none⟩) (by simp) (by simp; omega)).trans (hRow _ h)) ((hy2.below h (by omega)).belowX hb (by omega) (by omega))))
      BelowX.trans (belowX_b (by omega)) (Below.refl _ _) (fun _ => rfl)
      (fun pre W => ((W.cell? ⟨w.heap.size, 0, none⟩ = some (.int .u16 (fold (fold n (neg (wds l1))) (ints pre))) ∧ W.frozen? ⟨w.heap.size, 0, none⟩ = false) ∧ Below w.heap.size w W) ∧ W.heap[D]? = some (.deferred (some [])))
      (fun _ _ _ => False)
      (OwnFrom.and (OwnFrom.and (Own.from (fun s A B row hs hg hr => ⟨cell_kept hs.1 hg hr, (frozen_kept hs.1 hg hr).trans hs.2⟩) _) (ownFrom_below (Nat.le_refl _) (by omega))) (ownFrom_heap (by omega)))
      (fun _ _ _ _ _ hs _ _ => hs)
      ⟨⟨⟨hcX, hfX⟩, hB2⟩, hK2⟩
      ?a2 ?assign2 ?body2 ?done2 ?stop2
    case assign2 =>
      intro l x W K hK
      gi_wp2
      exact hK
    case body2 =>
      rintro l pre x X ⟨⟨⟨hc, hf⟩, hB⟩, hKX⟩ _
      have hr2 := fold_w16 (fold n (neg (wds l1))) hr pre
      have hx := x.2
      gi_wp2_with (refine ⟨trivial, ?_⟩; gi_at_call 111; refine (CallsIn.inRound l (callsIn_wide.2 (add_any _ _ _ hr2.1 hr2.2 hx.1 hx.2))).mono ?_; rintro e w' ⟨rfl, rfl⟩)
      exact ⟨(KeepsOthers.setCell _ _ _).from _, (BelowX.refl _ _ X).setCell (p := ⟨w.heap.size, 0, none⟩) rfl _, ⟨⟨by rw [ints_snoc, fold_snoc]; exact World.cell?_setCell_same' _ _ _ (by rw [hc]; rfl), by rw [World.frozen?_setCell]; exact hf⟩, hB.setCell (p := ⟨w.heap.size, 0, none⟩) (Nat.le_refl _) _⟩, (KeepsOthers.setCell _ _ _).same D _ hKX rfl⟩
    case stop2 =>
      rintro D c pre W _ _ h _
      exact h.elim
    case done2 =>
      rintro D2 ys2 X hD2 hys ⟨⟨⟨hc, hf⟩, hB⟩, hKX⟩ hK
      have hv : flat [(A2, c2, l2)] = l2 := by simp [flat]
      rw [hv] at hys
      rw [hys] at hc
      clear hys hv hcX hfX hK2 bN bR
      gi_wp2
      have hK1 : (X.putObj D2 (.deferred none)).heap[D]? = some (.deferred (some [])) := (World.putObj_heap_other (by omega)).trans hKX
      refine ⟨by simp, .inl ⟨_, _, rfl, run_takeDeferred hK, ⟨by simp, .inl ⟨_, _, rfl, run_takeDeferred hK1, ?_⟩⟩⟩⟩
      refine ⟨_, results_tmp2 rfl _ _ _, rfl, ?_⟩
      exact (hB.trans (belowK_b (w := w) (Nat.le_refl _) X D2 _ _ (by omega) hK rfl rfl)).trans (belowK_b (w := w) (Nat.le_refl _) _ D _ _ (by omega) hK1 rfl rfl)

/-- a result word and an error's number that read as said -/
def Two (p : Int × Int) (e : Ending) : Prop := ∃ q er : Int, e = .returned (.tuple #[.int .u16 q, .int .i64 er]) ∧ Hid (q = p.1 ∧ er = p.2)
theorem Two.mk {p : Int × Int} {q er : Int} (h1 : q = p.1) (h2 : er = p.2) : Two p (.returned (.tuple #[.int .u16 q, .int .i64 er])) := ⟨q, er, rfl, Lib.hid ⟨h1, h2⟩⟩

theorem changed_one (n : Int) (hn : 0 ≤ n ∧ n < 65536) (A1 A2 : Option Addr) (c1 c2 : Nat) (l1 l2 : List Int) (w : World) (h1 : By w.heap.size w A1 l1.length c1 l1) (h2 : By w.heap.size w A2 l2.length c2 l2) (hd : l1.length = l2.length ∧ l2.length % 2 = 0) :
    Calls Try.prog 108 #[.int .u16 n, .slice A1 l1.length c1, .slice A2 l2.length c2] w fun e W' => ∃ q : Int, e = .returned (.tuple #[.int .u16 q, .int .i64 0]) ∧ Hid (q = (changedS n l1 l2).1) ∧ (0 ≤ q ∧ q < 65536) ∧ Below w.heap.size w W' := by
  refine (changed_ok n hn A1 A2 c1 c2 l1 l2 w h1 h2 hd.1 hd.2).mono fun e w' ⟨he, hb⟩ => ⟨_, he, Lib.hid ?_, ?_, hb⟩
  · unfold changedS; rw [if_pos hd]
  · exact fold_rng _ (fold_rng _ hn _ (neg_rng _ (wds_rng _ h1.rng))) _ (wds_rng _ h2.rng)

/-- sum.Update -/
def updateS (was : Int) (f t : List Int) : Int × Int := if f.length = t.length ∧ t.length % 2 = 0 then (65535 - (changedS (65535 - was) f t).1, 0) else (0, 10)

theorem update_any (was : Int) (hn : 0 ≤ was ∧ was < 65536) (A1 A2 : Option Addr) (c1 c2 : Nat) (l1 l2 : List Int) (w : World) (h1 : By w.heap.size w A1 l1.length c1 l1) (h2 : By w.heap.size w A2 l2.length c2 l2) :
    Calls Try.prog 88 #[.int .u16 was, .slice A1 l1.length c1, .slice A2 l2.length c2] w fun e W' => Two (updateS was l1 l2) e ∧ Below w.heap.size w W' := by
  have hnot := not_u16 was hn.1 hn.2
  have hsg : IntKind.u16.signed = false := rfl
  by_cases hd : l1.length = l2.length ∧ l2.length % 2 = 0
  · have hdH := Lib.hid hd
    clear hd
    go_enter Try.func88, Try.ntmps88
    go_wp2_with (go_at_call 108; refine (changed_one (65535 - was) (by omega) _ _ _ _ _ _ _ h1 h2 hdH.out).mono ?_; rintro e w' ⟨q, rfl, hq, hr, hb⟩)
    have hnot2 := not_u16 q hr.1 hr.2
    go_ret2
    refine ⟨Two.mk ?_ ?_, hb⟩
    · unfold updateS; rw [if_pos hdH.out, ← hq.out]; exact hnot2
    · unfold updateS; rw [if_pos hdH.out]
  · go_enter Try.func88, Try.ntmps88
    go_wp2_with (go_at_call 108; refine (changed_err (65535 - was) _ _ _ _ _ _ _ hd).mono ?_; rintro e w' ⟨rfl, hb⟩)
    go_ret2
    refine ⟨Two.mk ?_ ?_, hb⟩
    · unfold updateS; rw [if_neg hd]
    · unfold updateS; rw [if_neg hd]

theorem updateS_rng (n : Int) (hn : 0 ≤ n ∧ n < 65536) (l1 l2 : List Int) (h1 : InB l1) (h2 : InB l2) : 0 ≤ (updateS n l1 l2).1 ∧ (updateS n l1 l2).1 < 65536 := by
  unfold updateS changedS
  split
  · have := fold_rng _ (fold_rng _ (show 0 ≤ 65535 - n ∧ 65535 - n < 65536 by omega) _ (neg_rng _ (wds_rng _ h1))) _ (wds_rng _ h2)
    simp only
    omega
  · simp
end Go.Proofs.Ytijnifbpbgckgaa
