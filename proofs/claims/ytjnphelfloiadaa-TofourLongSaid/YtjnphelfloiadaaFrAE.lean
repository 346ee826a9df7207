/-
  Lemmas and walks for the row of TofourRight,TofourLong (part 5 of 33).
-/
import Derived.Test.YtjnphelfloiadaaFrAB
import Derived.Test.YtjnphelfloiadaaFrAD
import Derived.Test.YtjnphelfloiadaaProg
import Derived.Great.BuildSlice
set_option linter.unusedVariables false
set_option linter.unusedSimpArgs false
namespace Go.Proofs.Ytjnphelfloiadaa
open Go.RowKit Go.Shelf

theorem v6_info : (Try.prog.info? 28).map (·.size) = some 42 := by kernel_rfl
theorem head_info : (Try.prog.info? 108).map (·.size) = some 2 := by kernel_rfl

/-- a truth that reads as said -/
def Tru (x : Bool) (e : Ending) : Prop := ∃ q : Bool, e = .returned (.bool q) ∧ Hid (q = x)
theorem Tru.mk {x q : Bool} (h : q = x) : Tru x (.returned (.bool q)) := ⟨q, rfl, Lib.hid h⟩
theorem extra_any (k : Int) (w : World) : Calls Try.prog 93 #[.int .u8 k] w fun e w' => Tru (extra6 k) e ∧ w' = w := by
 obtain ⟨V, hV⟩ : ∃ V, extra6 k = V := ⟨_, rfl⟩
 rw [hV]
 by_cases h0 : k = 0
 ·obtain rfl : V = true := by rw [← hV]; simp [extra6, h0]
  subst h0
  clear hV
  go_enter Try.func93, Try.ntmps93
  go_wp2
  go_ret
  exact ⟨Tru.mk rfl, rfl⟩
 by_cases h1 : k = 43
 ·obtain rfl : V = true := by rw [← hV]; simp [extra6, h1]
  subst h1
  clear hV h0
  go_enter Try.func93, Try.ntmps93
  go_wp2
  go_ret
  exact ⟨Tru.mk rfl, rfl⟩
 by_cases h2 : k = 60
 ·obtain rfl : V = true := by rw [← hV]; simp [extra6, h2]
  subst h2
  clear hV h0 h1
  go_enter Try.func93, Try.ntmps93
  go_wp2
  go_ret
  exact ⟨Tru.mk rfl, rfl⟩
 ·obtain rfl : V = false := by rw [← hV]; simp [extra6, h0, h1, h2]
  clear hV
  have b0 : (k == 0) = false := by simpa using h0
  have b1 : (k == 43) = false := by simpa using h1
  have b2 : (k == 60) = false := by simpa using h2
  clear h0 h1 h2
  go_enter Try.func93, Try.ntmps93
  go_wp2
  go_ret
  exact ⟨Tru.mk rfl, rfl⟩
/-- one of a row of heads, whole -/
theorem Kds.loadHead {B : Nat} {w : World} {A : Option Addr} {n c k : Nat} {ps : List Kd} {q : Kd} (h : Kds B w A n c ps) (hq : ps[k]? = some q) :
  ∃ b off, A = some ⟨b, off, none⟩ ∧ b < B ∧ 0 ≤ q.1 ∧ q.1 ≤ 255 ∧ By B w q.2.1 q.2.2.2.length q.2.2.1 q.2.2.2 ∧ w.cell? ⟨b, off + k * 2, none⟩ = some (.int .u8 q.1) ∧ w.cell? ⟨b, off + k * 2 + 1, none⟩ = some (.slice q.2.1 q.2.2.2.length q.2.2.1) ∧
   ∀ w', Below B w w' → (loadVar 108 ⟨b, off + k * 2, none⟩).run Try.prog w' = .ok (.agg #[.int .u8 q.1, .slice q.2.1 q.2.2.2.length q.2.2.1]) w' := by
 obtain ⟨b, off, e, hb, e0, e1, r1, r2, hy⟩ := h.at_ k q hq
 exact ⟨b, off, e, hb, r1, r2, hy, e0, e1, fun w' hw => run_loadVar_mid (P := Try.prog) w' b (off + k * 2) 108 [.int .u8 q.1, .slice q.2.1 q.2.2.2.length q.2.2.1] _ (fun j v hj => by
  match j, hj with
  | 0, hj => injection hj with hj; subst hj; exact (hw.cell (p := ⟨b, off + k * 2, none⟩) hb).trans e0
  | 1, hj => injection hj with hj; subst hj; exact (hw.cell (p := ⟨b, off + k * 2 + 1, none⟩) hb).trans e1) Try.underlying108 rfl (by kernel_rfl)⟩
/-- a head in a new variable -/
theorem head_var (wr : World) (pk : Int) (pA : Option Addr) (m pc : Nat) :
  ∃ W, (wr.alloc (.cells #[.int .u8 0, .slice none 0 0] 108)).setRow wr.heap.size #[.int .u8 pk, .slice pA m pc] = W ∧ Has W wr.heap.size (.cells #[.int .u8 pk, .slice pA m pc] 108 (0, 0)) ∧ Below wr.heap.size wr W :=
 ⟨_, rfl, (Has.newAt (o := .cells #[.int .u8 0, .slice none 0 0] 108) rfl).setRow_same, ((Below.refl wr.heap.size wr).alloc (Nat.le_refl _) (.cells #[.int .u8 0, .slice none 0 0] 108)).trans below_setRow'⟩

theorem drop_kd {ps : List Kd} {hs : List (Int × List Int)} {k : Nat} {q : Kd} (hl : kdL ps = hs) (hq : ps[k]? = some q) : hs.drop k = (q.1, q.2.2.2) :: hs.drop (k + 1) := by
 subst hl
 obtain ⟨hk, rfl⟩ := List.getElem?_eq_some_iff.1 hq
 have hk' : k < (kdL ps).length := by rw [kdL_len]; exact hk
 rw [List.drop_eq_getElem_cons hk']
 simp [kdL]
theorem okH_cons (i : Nat) (h : Int × List Int) (t : List (Int × List Int)) : okH i (h :: t) = (!badH i h && okH (i + 1) t) := rfl

set_option maxRecDepth 100000 in
set_option maxHeartbeats 4000000 in
theorem right_any (d : D6) (p : W6) (w : World) (hR : Rd6 w.heap.size w d p) :
  Calls Try.prog 64 #[.agg (d.cells p)] w fun e w' => Tru d.right e ∧ Below w.heap.size w w' := by
 obtain ⟨hA, hc, ps, bA, bc⟩ := p
 have hB : Below w.heap.size w (w.alloc (.cells (d.cells ⟨hA, hc, ps, bA, bc⟩) 28)) := (Below.refl _ _).alloc (Nat.le_refl _) _
 have hH : Has (w.alloc (.cells (d.cells ⟨hA, hc, ps, bA, bc⟩) 28)) w.heap.size (.cells (d.cells ⟨hA, hc, ps, bA, bc⟩) 28 (0, 0)) := Has.newAt rfl
 obtain ⟨W1, hW1⟩ : ∃ W, w.alloc (.cells (d.cells ⟨hA, hc, ps, bA, bc⟩) 28) = W := ⟨_, rfl⟩
 obtain ⟨V, hV⟩ : ∃ V, d.right = V := ⟨_, rfl⟩
 rw [hV]
 have hlab := hR.ok.lab
 obtain ⟨M, hM⟩ : ∃ M, d.hs.length = M := ⟨_, rfl⟩
 have K := hR.hd.below hB (Nat.le_refl _)
 have hkl : kdL ps = d.hs := hR.hl
 dsimp only at K
 rw [hW1] at hB hH K
 have c1 := hH.cell 1 (v := .int .u32 d.lab) rfl
 have c35 := hH.cell 35 (v := .slice hA d.hs.length hc) rfl
 rw [hM] at K c35
 have hMc := Nat.le_trans K.cap K.big
 have hMn := K.len
 by_cases hl : d.lab < 1048576
 case neg =>
  obtain rfl : V = false := by rw [← hV, D6.right, decide_eq_false hl]; rfl
  have hl2 : (d.lab / 1048576 != 0) = true := by simp; omega
  clear hV hR hl
  go_enter Try.func64, Try.ntmps64
  go_wp2
  go_ret
  exact ⟨Tru.mk rfl, hB⟩
 case pos =>
 have hl2 : (d.lab / 1048576 != 0) = false := by simp; omega
 by_cases hM8 : M ≤ 8
 case neg =>
  obtain rfl : V = false := by rw [← hV, D6.right, hM, decide_eq_true hl, decide_eq_false hM8]; rfl
  have hl3 : (8 : Int) < (M : Int) := by omega
  clear hV hR hl hM8
  go_enter Try.func64, Try.ntmps64
  go_wp2
  go_ret
  exact ⟨Tru.mk rfl, hB⟩
 case pos =>
 have hV0 : Hid ((okH 0 (d.hs.drop 0) && d.tail) = V) := Lib.hid (by rw [List.drop_zero, ← hV, D6.right, hM, decide_eq_true hl, decide_eq_true hM8]; rfl)
 have hl3 : ¬ ((8 : Int) < (M : Int)) := by omega
 have hMH := Lib.hid hM
 have hMnH := Lib.hid hMn
 clear hV hl hM hMn
 go_enter Try.func64, Try.ntmps64
 go_wp2
 go_loopw [18] (fun i wr => ∃ k : Nat, k ≤ M ∧ i = .int .i64 k ∧ Hid ((okH k (d.hs.drop k) && d.tail) = V) ∧ Below W1.heap.size W1 wr) (fun i _ => M - (intOf i).toNat)
 case atStart => exact ⟨0, Nat.zero_le _, rfl, hV0, Below.refl _ _⟩
 case round =>
  obtain ⟨k, hk, rfl, hV, hBr⟩ := hrel
  rename_i wr _
  have hBw := hB.trans (hBr.mono hB.size)
  have hH1 := hH.below hBr hH.lt
  have c35 := hH1.cell 35 (v := .slice hA d.hs.length hc) rfl
  rw [hMH.out] at c35
  by_cases hkM : k < M
  case neg =>
   have hge : ¬ ((k : Int) < (M : Int)) := by omega
   have hVt : d.tail = V := by rw [← hV.out, List.drop_of_length_le (by rw [hMH.out]; omega)]; rfl
   have c36 := hH1.cell 36 (v := .bool d.frag) rfl
   have c37 := hH1.cell 37 (v := .int .u32 d.id) rfl
   have c38 := hH1.cell 38 (v := .int .i64 d.off) rfl
   have c39 := hH1.cell 39 (v := .bool d.more) rfl
   have c40 := hH1.cell 40 (v := .int .u8 d.pro) rfl
   have hoff := hR.ok.off
   clear K hV hV0 hR hH hkM hlab hkl
   unfold D6.tail at hVt
   cases hf : d.frag with
   | true =>
    rw [hf] at c36
    rw [hf, if_pos rfl] at hVt
    clear c37 c39 c40 hf
    by_cases h1 : 0 ≤ d.off
    ·by_cases h2 : d.off ≤ 8191
     ·obtain rfl : V = true := by rw [← hVt]; exact decide_eq_true ⟨h1, h2⟩
      clear hVt
      go_wp2
      go_ret
      exact ⟨Tru.mk rfl, hBw⟩
     ·obtain rfl : V = false := by rw [← hVt]; exact decide_eq_false (by omega)
      clear hVt
      go_wp2
      go_ret
      exact ⟨Tru.mk rfl, hBw⟩
    ·obtain rfl : V = false := by rw [← hVt]; exact decide_eq_false (by omega)
     clear hVt
     go_wp2
     go_ret
     exact ⟨Tru.mk rfl, hBw⟩
   | false =>
    rw [hf] at c36
    rw [hf, if_neg (by simp)] at hVt
    clear hf hoff
    by_cases h1 : d.id = 0
    case neg =>
     obtain rfl : V = false := by rw [← hVt]; exact decide_eq_false (fun h => h1 h.1)
     have h1 : (d.id == 0) = false := by simpa using h1
     clear hVt
     go_wp2
     go_ret
     exact ⟨Tru.mk rfl, hBw⟩
    case pos =>
    by_cases h2 : d.off = 0
    case neg =>
     obtain rfl : V = false := by rw [← hVt]; exact decide_eq_false (fun h => h2 h.2.1)
     have h2 : (d.off == 0) = false := by simpa using h2
     rw [h1] at c37
     clear hVt h1
     go_wp2
     go_ret
     exact ⟨Tru.mk rfl, hBw⟩
    case pos =>
    rw [h1] at c37
    rw [h2] at c38
    cases hm : d.more with
    | true =>
     obtain rfl : V = false := by rw [← hVt]; exact decide_eq_false (fun h => by rw [hm] at h; cases h.2.2.1)
     rw [hm] at c39
     clear hVt h1 h2 hm
     go_wp2
     go_ret
     exact ⟨Tru.mk rfl, hBw⟩
    | false =>
     rw [hm] at c39
     cases hx : extra6 d.pro with
     | true =>
      obtain rfl : V = false := by rw [← hVt]; exact decide_eq_false (fun h => by rw [hx] at h; cases h.2.2.2.1)
      clear hVt h1 h2 hm
      go_wp2_with fail
      refine (extra_any d.pro _).mono ?_
      rintro e w1 ⟨⟨q, rfl, hq⟩, rfl⟩
      obtain rfl : q = true := hq.out.trans hx
      clear hq hx
      go_wp2
      go_ret
      exact ⟨Tru.mk rfl, hBw⟩
     | false =>
      by_cases h44 : d.pro = 44
      ·obtain rfl : V = false := by rw [← hVt]; exact decide_eq_false (fun h => h.2.2.2.2 h44)
       clear hVt h1 h2 hm
       rw [h44] at c40 hx
       clear h44
       go_wp2_with fail
       refine (extra_any 44 _).mono ?_
       rintro e w1 ⟨⟨q, rfl, hq⟩, rfl⟩
       obtain rfl : q = false := hq.out.trans hx
       clear hq hx
       go_wp2
       go_ret
       exact ⟨Tru.mk rfl, hBw⟩
      ·obtain rfl : V = true := by rw [← hVt]; exact decide_eq_true ⟨h1, h2, hm, hx, h44⟩
       have h44 : (d.pro != 44) = true := by simpa using h44
       clear hVt h1 h2 hm
       go_wp2_with fail
       refine (extra_any d.pro _).mono ?_
       rintro e w1 ⟨⟨q, rfl, hq⟩, rfl⟩
       obtain rfl : q = false := hq.out.trans hx
       clear hq hx
       go_wp2
       go_ret
       exact ⟨Tru.mk rfl, hBw⟩
  case pos =>
  have hkz : (k : Int) < (M : Int) := by omega
  obtain ⟨⟨pk, pA, pc, pl⟩, hp⟩ : ∃ p', ps[k]? = some p' := ⟨ps[k]'(by rw [hMnH.out]; exact hkM), List.getElem?_eq_getElem _⟩
  have hdk := drop_kd hkl hp
  obtain ⟨b1, o1, hA1, hb1, hr1, hr2, yP, e0, e1, hld⟩ := K.loadHead hp
  have hld := hld wr (hBr.mono hB.size)
  subst hA1
  have hV2 := hV.out
  rw [hdk, okH_cons] at hV2
  dsimp only at hr1 hr2 yP hld hV2
  have hml := Nat.le_trans yP.cap yP.big
  obtain ⟨m, hm⟩ : ∃ m, pl.length = m := ⟨_, rfl⟩
  rw [hm] at hld yP hml
  have hbad : badH k (pk, pl) = (!extra6 pk || (decide (pk = 0) && decide (0 < k)) || decide (m % 8 ≠ 6) || decide (2046 < m)) := by rw [← hm]; rfl
  rw [hbad] at hV2
  obtain ⟨W4, hW4, hH4, hX⟩ := head_var wr pk pA m pc
  have c0 := hH4.cell 0 (v := .int .u8 pk) rfl
  have c1 := hH4.cell 1 (v := .slice pA m pc) rfl
  have hB4 := hBr.trans (hX.mono hBr.size)
  have hB5 := hBw.trans (hX.mono hBw.size)
  have hN : Has (wr.alloc (.cells #[.int .u8 0, .slice none 0 0] 108)) wr.heap.size (.cells #[.int .u8 0, .slice none 0 0] 108 (0, 0)) := Has.newAt rfl
  clear hp hdk hV hV0 hbad hm K yP e0 e1 hR hlab hkl
  have hV2H := Lib.hid hV2
  clear hV2
  cases hx : extra6 pk with
  | false =>
   obtain rfl : V = false := by rw [← hV2H.out, hx]; rfl
   clear hV2H
   go_wp2_with (first | (refine wl (.pointer (some ⟨b1, o1 + k * 2, none⟩)) (by kernel_rfl) (by exact ex_index2 (by exact rfl) Try.underlying25 (by kernel_rfl) (by exact rfl) (by exact rfl) hkM) ?_) | (refine wl (.agg #[.int .u8 pk, .slice pA m pc]) (by kernel_rfl) (by exact ex_loadAt (by exact rfl) (by exact rfl) hld) ?_) | (refine wpList_store_row rfl 108 (.tmp 4) (.tmp 22) rfl wr.heap.size _ rfl rfl 108 _ hN head_info rfl (by simp [Value.oneCell']) ?_))
   refine (extra_any pk _).mono ?_
   rintro e w1 ⟨⟨q, rfl, hq⟩, rfl⟩
   obtain rfl : q = false := hq.out.trans hx
   clear hq hx
   go_wp2
   go_ret
   exact ⟨Tru.mk rfl, hB5⟩
  | true =>
   have hV3 := hV2H.out
   rw [hx] at hV3
   clear hV2H
   by_cases h00 : pk = 0 ∧ 0 < k
   ·obtain ⟨rfl, h0⟩ := h00
    obtain rfl : V = false := by rw [← hV3, decide_eq_true h0]; rfl
    have h0 : (0 : Int) < (k : Int) := by omega
    clear hV3
    go_wp2_with (first | (refine wl (.pointer (some ⟨b1, o1 + k * 2, none⟩)) (by kernel_rfl) (by exact ex_index2 (by exact rfl) Try.underlying25 (by kernel_rfl) (by exact rfl) (by exact rfl) hkM) ?_) | (refine wl (.agg #[.int .u8 0, .slice pA m pc]) (by kernel_rfl) (by exact ex_loadAt (by exact rfl) (by exact rfl) hld) ?_) | (refine wpList_store_row rfl 108 (.tmp 4) (.tmp 22) rfl wr.heap.size _ rfl rfl 108 _ hN head_info rfl (by simp [Value.oneCell']) ?_))
    refine (extra_any 0 _).mono ?_
    rintro e w1 ⟨⟨q, rfl, hq⟩, rfl⟩
    obtain rfl : q = true := hq.out.trans hx
    clear hq hx
    go_wp2
    go_ret
    exact ⟨Tru.mk rfl, hB5⟩
   have hnn : (decide (pk = 0) && decide (0 < k)) = false := by
    rw [Bool.and_eq_false_iff, decide_eq_false_iff_not, decide_eq_false_iff_not]
    omega
   rw [hnn] at hV3
   by_cases hm8 : m % 8 = 6
   case neg =>
    obtain rfl : V = false := by rw [← hV3, decide_eq_true hm8]; rfl
    have hm8 : ((m : Int) % 8 != 6) = true := by simp; omega
    clear hV3 hnn
    by_cases hp0 : pk = 0
    ·have hk0 : ¬ ((0 : Int) < (k : Int)) := by omega
     subst hp0
     clear h00
     go_wp2_with (first | (refine wl (.pointer (some ⟨b1, o1 + k * 2, none⟩)) (by kernel_rfl) (by exact ex_index2 (by exact rfl) Try.underlying25 (by kernel_rfl) (by exact rfl) (by exact rfl) hkM) ?_) | (refine wl (.agg #[.int .u8 0, .slice pA m pc]) (by kernel_rfl) (by exact ex_loadAt (by exact rfl) (by exact rfl) hld) ?_) | (refine wpList_store_row rfl 108 (.tmp 4) (.tmp 22) rfl wr.heap.size _ rfl rfl 108 _ hN head_info rfl (by simp [Value.oneCell']) ?_))
     refine (extra_any 0 _).mono ?_
     rintro e w1 ⟨⟨q, rfl, hq⟩, rfl⟩
     obtain rfl : q = true := hq.out.trans hx
     clear hq hx
     go_wp2
     go_ret
     exact ⟨Tru.mk rfl, hB5⟩
    ·have hp0 : (pk == 0) = false := by simpa using hp0
     clear h00
     go_wp2_with (first | (refine wl (.pointer (some ⟨b1, o1 + k * 2, none⟩)) (by kernel_rfl) (by exact ex_index2 (by exact rfl) Try.underlying25 (by kernel_rfl) (by exact rfl) (by exact rfl) hkM) ?_) | (refine wl (.agg #[.int .u8 pk, .slice pA m pc]) (by kernel_rfl) (by exact ex_loadAt (by exact rfl) (by exact rfl) hld) ?_) | (refine wpList_store_row rfl 108 (.tmp 4) (.tmp 22) rfl wr.heap.size _ rfl rfl 108 _ hN head_info rfl (by simp [Value.oneCell']) ?_))
     refine (extra_any pk _).mono ?_
     rintro e w1 ⟨⟨q, rfl, hq⟩, rfl⟩
     obtain rfl : q = true := hq.out.trans hx
     clear hq hx
     go_wp2
     go_ret
     exact ⟨Tru.mk rfl, hB5⟩
   case pos =>
   by_cases hm2 : 2046 < m
   case pos =>
    obtain rfl : V = false := by rw [← hV3, decide_eq_true hm2, hm8]; rfl
    have hm8 : ((m : Int) % 8 != 6) = false := by simp; omega
    have hm2 : (2046 : Int) < (m : Int) := by omega
    clear hV3 hnn
    by_cases hp0 : pk = 0
    ·have hk0 : ¬ ((0 : Int) < (k : Int)) := by omega
     subst hp0
     clear h00
     go_wp2_with (first | (refine wl (.pointer (some ⟨b1, o1 + k * 2, none⟩)) (by kernel_rfl) (by exact ex_index2 (by exact rfl) Try.underlying25 (by kernel_rfl) (by exact rfl) (by exact rfl) hkM) ?_) | (refine wl (.agg #[.int .u8 0, .slice pA m pc]) (by kernel_rfl) (by exact ex_loadAt (by exact rfl) (by exact rfl) hld) ?_) | (refine wpList_store_row rfl 108 (.tmp 4) (.tmp 22) rfl wr.heap.size _ rfl rfl 108 _ hN head_info rfl (by simp [Value.oneCell']) ?_))
     refine (extra_any 0 _).mono ?_
     rintro e w1 ⟨⟨q, rfl, hq⟩, rfl⟩
     obtain rfl : q = true := hq.out.trans hx
     clear hq hx
     go_wp2
     go_ret
     exact ⟨Tru.mk rfl, hB5⟩
    ·have hp0 : (pk == 0) = false := by simpa using hp0
     clear h00
     go_wp2_with (first | (refine wl (.pointer (some ⟨b1, o1 + k * 2, none⟩)) (by kernel_rfl) (by exact ex_index2 (by exact rfl) Try.underlying25 (by kernel_rfl) (by exact rfl) (by exact rfl) hkM) ?_) | (refine wl (.agg #[.int .u8 pk, .slice pA m pc]) (by kernel_rfl) (by exact ex_loadAt (by exact rfl) (by exact rfl) hld) ?_) | (refine wpList_store_row rfl 108 (.tmp 4) (.tmp 22) rfl wr.heap.size _ rfl rfl 108 _ hN head_info rfl (by simp [Value.oneCell']) ?_))
     refine (extra_any pk _).mono ?_
     rintro e w1 ⟨⟨q, rfl, hq⟩, rfl⟩
     obtain rfl : q = true := hq.out.trans hx
     clear hq hx
     go_wp2
     go_ret
     exact ⟨Tru.mk rfl, hB5⟩
   have hVn : Hid ((okH (k + 1) (d.hs.drop (k + 1)) && d.tail) = V) := Lib.hid (by rw [← hV3, decide_eq_false hm2, hm8]; simp)
   have hm8 : ((m : Int) % 8 != 6) = false := by simp; omega
   have hm2 : ¬ ((2046 : Int) < (m : Int)) := by omega
   clear hV3 hnn
   by_cases hp0 : pk = 0
   ·have hk0 : ¬ ((0 : Int) < (k : Int)) := by omega
    subst hp0
    clear h00
    go_wp2_with (first | (refine wl (.pointer (some ⟨b1, o1 + k * 2, none⟩)) (by kernel_rfl) (by exact ex_index2 (by exact rfl) Try.underlying25 (by kernel_rfl) (by exact rfl) (by exact rfl) hkM) ?_) | (refine wl (.agg #[.int .u8 0, .slice pA m pc]) (by kernel_rfl) (by exact ex_loadAt (by exact rfl) (by exact rfl) hld) ?_) | (refine wpList_store_row rfl 108 (.tmp 4) (.tmp 22) rfl wr.heap.size _ rfl rfl 108 _ hN head_info rfl (by simp [Value.oneCell']) ?_))
    refine (extra_any 0 _).mono ?_
    rintro e w1 ⟨⟨q, rfl, hq⟩, rfl⟩
    obtain rfl : q = true := hq.out.trans hx
    clear hq hx
    go_wp2
    go_roundw
    case rel => exact ⟨k + 1, by omega, by go_num, hVn, hB4⟩
    case measure => simp [intOf]; omega
   ·have hp0 : (pk == 0) = false := by simpa using hp0
    clear h00
    go_wp2_with (first | (refine wl (.pointer (some ⟨b1, o1 + k * 2, none⟩)) (by kernel_rfl) (by exact ex_index2 (by exact rfl) Try.underlying25 (by kernel_rfl) (by exact rfl) (by exact rfl) hkM) ?_) | (refine wl (.agg #[.int .u8 pk, .slice pA m pc]) (by kernel_rfl) (by exact ex_loadAt (by exact rfl) (by exact rfl) hld) ?_) | (refine wpList_store_row rfl 108 (.tmp 4) (.tmp 22) rfl wr.heap.size _ rfl rfl 108 _ hN head_info rfl (by simp [Value.oneCell']) ?_))
    refine (extra_any pk _).mono ?_
    rintro e w1 ⟨⟨q, rfl, hq⟩, rfl⟩
    obtain rfl : q = true := hq.out.trans hx
    clear hq hx
    go_wp2
    go_roundw
    case rel => exact ⟨k + 1, by omega, by go_num, hVn, hB4⟩
    case measure => simp [intOf]; omega
end Go.Proofs.Ytjnphelfloiadaa
namespace Go.Proofs.Ytjnphelfloiadaa
open Go.RowKit Go.Shelf

/-- a number that reads as said -/
def Num1 (x : Int) (e : Ending) : Prop := ∃ q : Int, e = .returned (.int .i64 q) ∧ Hid (q = x)
theorem Num1.mk {x q : Int} (h : q = x) : Num1 x (.returned (.int .i64 q)) := ⟨q, rfl, Lib.hid h⟩
theorem hsz_take {hs : List (Int × List Int)} {k : Nat} {q : Int × List Int} (hq : hs[k]? = some q) : hsz (hs.take (k + 1)) = hsz (hs.take k) + 2 + q.2.length := by
 obtain ⟨hk, rfl⟩ := List.getElem?_eq_some_iff.1 hq
 rw [List.take_succ_eq_append_getElem hk, hsz_append]
 simp only [hsz]
 omega
theorem hsz_take_le (hs : List (Int × List Int)) (k : Nat) : hsz (hs.take k) ≤ hsz hs := by
 have h := hsz_append (hs.take k) (hs.drop k)
 rw [List.take_append_drop] at h
 omega
theorem kd_get {ps : List Kd} {hs : List (Int × List Int)} {k : Nat} {q : Kd} (hl : kdL ps = hs) (hq : ps[k]? = some q) : hs[k]? = some (q.1, q.2.2.2) := by
 subst hl
 simp [kdL, hq]
theorem int_nat {q : Int} {n : Nat} (h : q = (n : Int)) : Value.int .i64 q = .int .i64 (n : Int) := by rw [h]

set_option maxRecDepth 100000 in
set_option maxHeartbeats 4000000 in
theorem ahead_any (d : D6) (p : W6) (w : World) (hR : Rd6 w.heap.size w d p) (hsm : hsz d.hs ≤ 16384) :
  Calls Try.prog 65 #[.agg (d.cells p)] w fun e w' => Num1 d.ahead e ∧ Below w.heap.size w w' := by
 obtain ⟨hA, hc, ps, bA, bc⟩ := p
 have hB : Below w.heap.size w (w.alloc (.cells (d.cells ⟨hA, hc, ps, bA, bc⟩) 28)) := (Below.refl _ _).alloc (Nat.le_refl _) _
 have hH : Has (w.alloc (.cells (d.cells ⟨hA, hc, ps, bA, bc⟩) 28)) w.heap.size (.cells (d.cells ⟨hA, hc, ps, bA, bc⟩) 28 (0, 0)) := Has.newAt rfl
 obtain ⟨W1, hW1⟩ : ∃ W, w.alloc (.cells (d.cells ⟨hA, hc, ps, bA, bc⟩) 28) = W := ⟨_, rfl⟩
 obtain ⟨M, hM⟩ : ∃ M, d.hs.length = M := ⟨_, rfl⟩
 have K := hR.hd.below hB (Nat.le_refl _)
 have hkl : kdL ps = d.hs := hR.hl
 dsimp only at K
 rw [hW1] at hB hH K
 have c35 := hH.cell 35 (v := .slice hA d.hs.length hc) rfl
 rw [hM] at K c35
 have hMc := Nat.le_trans K.cap K.big
 have hMnH := Lib.hid K.len
 have hMH := Lib.hid hM
 have hsmH := Lib.hid hsm
 have hAh : Hid (d.ahead = 40 + hsz d.hs + (if d.frag then 8 else 0)) := Lib.hid rfl
 obtain ⟨X, hX⟩ : ∃ X, d.ahead = X := ⟨_, rfl⟩
 rw [hX] at hAh ⊢
 clear hM hR hsm hX
 go_enter Try.func65, Try.ntmps65
 go_wp2
 go_loopw [3, 9] (fun n i wr => ∃ k T : Nat, k ≤ M ∧ i = .int .i64 k ∧ Hid (hsz (d.hs.take k) = T) ∧ T ≤ 16384 ∧ n = .int .i64 ((40 + T : Nat) : Int) ∧ Below W1.heap.size W1 wr) (fun _ i _ => M - (intOf i).toNat)
 case atStart => exact ⟨0, 0, Nat.zero_le _, rfl, Lib.hid (by rw [List.take_zero]; rfl), Nat.zero_le _, rfl, Below.refl _ _⟩
 case round =>
  obtain ⟨k, T, hk, rfl, hT, hT2, rfl, hBr⟩ := hrel
  rename_i wr _
  have hBw := hB.trans (hBr.mono hB.size)
  have hH1 := hH.below hBr hH.lt
  have c35 := hH1.cell 35 (v := .slice hA d.hs.length hc) rfl
  rw [hMH.out] at c35
  by_cases hkM : k < M
  case neg =>
   have hge : ¬ ((k : Int) < (M : Int)) := by omega
   have c36 := hH1.cell 36 (v := .bool d.frag) rfl
   have hTa : Hid (hsz d.hs = T) := Lib.hid (by rw [← hT.out, List.take_of_length_le (by rw [hMH.out]; omega)])
   have hq : Hid ((X : Int) = 40 + T + (if d.frag then 8 else 0)) := Lib.hid (by rw [hAh.out, hTa.out]; split <;> omega)
   clear K hH hkM hkl hAh hTa hT
   cases hf : d.frag with
   | true =>
    rw [hf] at c36
    have hq2 : Hid ((X : Int) = 40 + T + 8) := Lib.hid (by rw [hq.out, hf]; rfl)
    clear hq hf
    go_wp2
    go_ret
    exact ⟨Num1.mk hq2.out.symm, hBw⟩
   | false =>
    rw [hf] at c36
    have hq2 : Hid ((X : Int) = 40 + T) := Lib.hid (by rw [hq.out, hf]; simp)
    clear hq hf
    go_wp2
    go_ret
    exact ⟨Num1.mk hq2.out.symm, hBw⟩
  case pos =>
  have hkz : (k : Int) < (M : Int) := by omega
  obtain ⟨⟨pk, pA, pc, pl⟩, hp⟩ : ∃ p', ps[k]? = some p' := ⟨ps[k]'(by rw [hMnH.out]; exact hkM), List.getElem?_eq_getElem _⟩
  have htk := hsz_take (kd_get hkl hp)
  obtain ⟨b1, o1, hA1, hb1, hr1, hr2, yP, e0, e1, hld⟩ := K.loadHead hp
  have hld := hld wr (hBr.mono hB.size)
  subst hA1
  dsimp only at hld htk e1
  obtain ⟨m, hm⟩ : ∃ m, pl.length = m := ⟨_, rfl⟩
  rw [hm] at hld htk e1
  obtain ⟨T2, hT3⟩ : ∃ T2, hsz (d.hs.take (k + 1)) = T2 := ⟨_, rfl⟩
  rw [hT3, hT.out] at htk
  have hle : T2 ≤ 16384 := by rw [← hT3]; exact Nat.le_trans (hsz_take_le _ _) hsmH.out
  have htkH := Lib.hid htk
  have hmb : m ≤ 16384 := by omega
  have hT3H := Lib.hid hT3
  obtain ⟨W4, hW4, hH4, hX⟩ := head_var wr pk pA m pc
  have c1 := hH4.cell 1 (v := .slice pA m pc) rfl
  have hB4 := hBr.trans (hX.mono hBr.size)
  have hN : Has (wr.alloc (.cells #[.int .u8 0, .slice none 0 0] 108)) wr.heap.size (.cells #[.int .u8 0, .slice none 0 0] 108 (0, 0)) := Has.newAt rfl
  clear hp K hm yP e0 hkl hr1 hr2 hT htk hT3
  go_wp2_with (first | (refine wl (.pointer (some ⟨b1, o1 + k * 2, none⟩)) (by kernel_rfl) (by exact ex_index2 (by exact rfl) Try.underlying25 (by kernel_rfl) (by exact rfl) (by exact rfl) hkM) ?_) | (refine wl (.agg #[.int .u8 pk, .slice pA m pc]) (by kernel_rfl) (by exact ex_loadAt (by exact rfl) (by exact rfl) hld) ?_) | (refine wpList_store_row rfl 108 (.tmp 5) (.tmp 12) rfl wr.heap.size _ rfl rfl 108 _ hN head_info rfl (by simp [Value.oneCell']) ?_))
  go_roundw
  case rel => exact ⟨k + 1, T2, by omega, by go_num, hT3H, hle, int_nat (by rw [htkH.out]; omega), hB4⟩
  case measure => simp [intOf]; omega

end Go.Proofs.Ytjnphelfloiadaa
namespace Go.Proofs.Ytjnphelfloiadaa
open Go.RowKit

section
variable {P : Program}
theorem ex_arr {ρ : Operand → Value} {o : Oper} {t e : TypeId} {x : Operand} {g k n : Nat} {w : World} (ho : o.op = .slice t x none none none) (ht : P.underlying t = some (.array n e)) (hs : (P.info? e).map (·.size) = some 1) (hx : ρ x = .pointer (some ⟨g, k, none⟩)) :
  (execOp ρ o).run P w = .ok (.value (.slice (some ⟨g, k, none⟩) n n)) w := by
 have he : P.elem t = e := by simp [Program.elem, ht]
 have hn : P.arrayLen t = n := by simp [Program.arrayLen, ht]
 have hsz : (sizeOf e).run P w = .ok 1 w := by
  cases hq : P.info? e with
  | none => simp [hq] at hs
  | some i => simp [hq] at hs; simp [sizeOf, typeInfo, hq, hs]
 refine ex_slice ho hx ?_
 have := run_sliceAt_array_all (P := P) w t ⟨g, k, none⟩ (by rw [hn, he]; exact ht)
 simp only [Option.map_none]
 rw [this, he, hsz, hn]
 simp [slicedAt, Result.andThen, Addr.add]
theorem ex_neq_int {ρ : Operand → Value} {o : Oper} {t z : TypeId} {k : IntKind} {x y : Operand} {m n : Int} {w : World} (ho : o.op = .binOp .neq t x y z) (hx : ρ x = .int k m) (hy : ρ y = .int k n) : (execOp ρ o).run P w = .ok (.value (.bool (m != n))) w := by
 unfold execOp
 simp [ho, hx, hy, eqGuard, binOp, Op.intCmp]
theorem neq_int_eq {ρ : Operand → Value} {o : Oper} {t z : TypeId} {k : IntKind} {x y : Operand} {m n : Int} {w : World} (ho : o.op = .binOp .neq t x y z) (hx : ρ x = .int k m) (hy : ρ y = .int k n) (h : m = n) : (execOp ρ o).run P w = .ok (.value (.bool false)) w := by
 rw [ex_neq_int ho hx hy]; simp [h]
theorem neq_int_ne {ρ : Operand → Value} {o : Oper} {t z : TypeId} {k : IntKind} {x y : Operand} {m n : Int} {w : World} (ho : o.op = .binOp .neq t x y z) (hx : ρ x = .int k m) (hy : ρ y = .int k n) (h : m ≠ n) : (execOp ρ o).run P w = .ok (.value (.bool true)) w := by
 rw [ex_neq_int ho hx hy]; simp [h]
theorem add_i64 (t : TypeId) (x y : Int) (h : -9223372036854775808 ≤ x + y ∧ x + y < 9223372036854775808) (w : World) : (binOp .add t (.int .i64 x) (.int .i64 y)).run P w = .ok (.int .i64 (x + y)) w := by
 have h1 := h.1
 have h2 := h.2
 clear h
 go_simp
 exact IntWalk.i64_in _ (by omega)
end
end Go.Proofs.Ytjnphelfloiadaa
namespace Go.Proofs.Ytjnphelfloiadaa
open Go.RowKit

section
variable {P : Program}
variable {md : Region.Mode} {ops : Array Oper} {Q : Exit → Act → World → Prop} {S : World → Prop}
/-- of two that are ready, whichever comes up -/
theorem tk_two {i j : Nat} {fuel : Nat} {listed : Array Bool} {a : Act} {w : World} (hr : Region.ready md ops listed = [i, j])
  (h1 : wpOp P ops Q i (fun a' w' => S w' ∧ wpAnyH P md ops Q S fuel (listed.setIfInBounds i true) a' w') a w)
  (h2 : wpOp P ops Q j (fun a' w' => S w' ∧ wpAnyH P md ops Q S fuel (listed.setIfInBounds j true) a' w') a w) : wpAnyH P md ops Q S (fuel + 1) listed a w :=
 wpAnyH_all hr (by simp) fun k hk => by
  rcases List.mem_cons.1 hk with rfl | hk
  ·exact h1
  ·obtain rfl : k = j := by simpa using hk
   exact h2
theorem tk_one {i : Nat} {fuel : Nat} {listed : Array Bool} {a : Act} {w : World} (hr : Region.ready md ops listed = [i])
  (h1 : wpOp P ops Q i (fun a' w' => S w' ∧ wpAnyH P md ops Q S fuel (listed.setIfInBounds i true) a' w') a w) : wpAnyH P md ops Q S (fuel + 1) listed a w :=
 wpAnyH_all hr (by simp) fun k hk => by
  obtain rfl : k = i := by simpa using hk
  exact h1
/-- a call of a Go function -/
theorem op_callx {i k : Nat} {o : Oper} {args : Array Value} (T : Value → World → Prop) {fuel : Nat} {listed : Array Bool} {a : Act} {w : World} (hi : ops.toList[i]? = some o) (hw : Region.wanted o (yielded ops a.tmps) = true)
  (hrun : (execOp a.eval o).run P w = .ok (.enter k args) w) (hc : Calls P k args w fun e w' => ∃ v, e = .returned v ∧ T v w' ∧ S w')
  (h : ∀ v w', T v w' → S w' → wpAnyH P md ops Q S fuel (listed.setIfInBounds i true) (a.put o.dst v) w') : wpOp P ops Q i (fun a' w' => S w' ∧ wpAnyH P md ops Q S fuel (listed.setIfInBounds i true) a' w') a w := by
 have hi : ops[i]? = some o := by simpa using hi
 unfold wpOp
 rw [hi]
 simp only [hw, if_true]
 left
 unfold Oper.wp
 rw [hrun, Oper.upon_enter]
 refine hc.mono fun e w' ⟨v, he, hT, hS'⟩ => ?_
 subst he
 exact ⟨hS', h v w' hT hS'⟩
/-- a slice literal -/
theorem op_build {i : Nat} {o : Oper} {t e : TypeId} {len : Nat} {parts : Array (Nat × Operand)} {fuel : Nat} {listed : Array Bool} {a : Act} {w : World} (vs : List Value) (hi : ops.toList[i]? = some o) (hw : Region.wanted o (yielded ops a.tmps) = true)
  (ho : o.op = .buildSlice t len parts) (hu : P.underlying t = some (.slice e)) (hsz : (P.info? e).map (·.size) = some 1) (hz : ((P.info? e).bind (·.zero)).isSome = true) (hlen : len = vs.length) (hpos : 0 < len) (hsmall : len ≤ 2 ^ 24)
  (hp : (parts.map fun (i, x) => (i, a.eval x)).toList = (vs.zipIdx 0).map fun x => (x.2, x.1)) (h1 : ∀ v ∈ vs, v.cells = #[v])
  (hS : ∀ w', Below w.heap.size w w' → S w') (h : ∀ g w', Has w' g (.cells vs.toArray e (0, 0)) → w.heap.size ≤ g → w'.heap.size = g + 1 → Below w.heap.size w w' → S w' → wpAnyH P md ops Q S fuel (listed.setIfInBounds i true) (a.put o.dst (.slice (some ⟨g, 0, none⟩) len len)) w') : wpOp P ops Q i (fun a' w' => S w' ∧ wpAnyH P md ops Q S fuel (listed.setIfInBounds i true) a' w') a w := by
 have hi : ops[i]? = some o := by simpa using hi
 unfold wpOp
 rw [hi]
 simp only [hw, if_true]
 left
 cases hie : P.info? e with
 | none => simp [hie] at hsz
 | some ie =>
  simp only [hie, Option.map_some, Option.some.injEq, Option.bind_some] at hsz hz
  obtain ⟨z, hzz⟩ := Option.isSome_iff_exists.1 hz
  have hb : Below w.heap.size w (w.alloc (.cells vs.toArray e)) := (Below.refl _ _).alloc (Nat.le_refl _) _
  refine wp_buildSlice t e len parts ho _ ie z hu hie hzz (by rw [hsz]; omega) (by rw [hsz]; omega) ?_ ⟨hS _ hb, h _ _ (Has.newAt rfl) (Nat.le_refl _) (by simp) hb (hS _ hb)⟩
  rw [hp, hsz]
  exact Great.fill_flat _ _ h1 (by simp [hlen])
/-- an append of bytes onto an own row -/
theorem op_app {i : Nat} {o : Oper} {fuel : Nat} {listed : Array Bool} {a : Act} {w : World} (s x : Operand) (t : TypeId) (hi : ops.toList[i]? = some o) (hw : Region.wanted o (yielded ops a.tmps) = true)
  (ho : o.op = .call { callee := .builtin .append, args := #[s, x], argTypes := #[t, t] })
  (ht : P.underlying t = some (.slice 5)) (hinfo : (P.info? 5).map (fun i => (i.zero, i.size, i.bytes)) = some (some (.int .u8 0), 1, 1))
  (base : Nat) (v : Value) (l : List Int) (hs : a.eval s = v) (hown : OwnB w base v l)
  (B : Nat) (A : Option Addr) (m c : Nat) (l' : List Int) (hx : a.eval x = .slice A m c) (hy : By B w A m c l')
  (hbytes : l.length + m ≤ 140737488355328) (hbase : base ≤ w.heap.size)
  (hS : ∀ w', Below base w w' → S w')
  (h : ∀ v' w', OwnB w' base v' (l ++ l') → Below base w w' → S w' → wpAnyH P md ops Q S fuel (listed.setIfInBounds i true) (a.put o.dst v') w') : wpOp P ops Q i (fun a' w' => S w' ∧ wpAnyH P md ops Q S fuel (listed.setIfInBounds i true) a' w') a w := by
 have hi : ops[i]? = some o := by simpa using hi
 unfold wpOp
 rw [hi]
 simp only [hw, if_true]
 left
 exact wp_append_row w s x t ho base _ _ 1 ht hinfo rfl v l.length (u8s l) hs hown.own B A m c (u8s l') hx hy.row (fun u hu => by
   obtain ⟨y, _, rfl⟩ := List.mem_map.1 hu; rfl) (by simp only [maxLen]; omega) (by omega) hbase
   fun v' w' h2 h3 _ => by
    have ho' : OwnB w' base v' (l ++ l') := ⟨by rw [List.length_append, hy.len, u8s_append]; exact h2, hown.rng.app hy.rng⟩
    have hb := below_app hown h3 hbase
    exact ⟨hS w' hb, h v' w' ho' hb (hS w' hb)⟩
theorem conv_u64 (src dst : TypeId) (k : IntKind) (n : Int) (hs : (P.underlying src).isSome = true) (hd : P.underlying dst = some (.int .u64)) (h0 : 0 ≤ n) (h1 : n ≤ 18446744073709551615) (w : World) : (convert src dst (.int k n)).run P w = .ok (.int .u64 n) w := by
 have hk : P.intKind dst = .u64 := by simp [Program.intKind, hd]
 have := run_convert_int (P := P) w src dst k n hs (by rw [hk]; exact hd)
 rw [hk, IntWalk.u64_in n ⟨h0, h1⟩] at this
 exact this
theorem conv_u8 (src dst : TypeId) (k : IntKind) (n : Int) (hs : (P.underlying src).isSome = true) (hd : P.underlying dst = some (.int .u8)) (w : World) : (convert src dst (.int k n)).run P w = .ok (.int .u8 (n % 256)) w := by
 have hk : P.intKind dst = .u8 := by simp [Program.intKind, hd]
 have := run_convert_int (P := P) w src dst k n hs (by rw [hk]; exact hd)
 rw [hk, IntKind.wrap_u8] at this
 exact this
end
end Go.Proofs.Ytjnphelfloiadaa
