/-
  Lemmas and walks for the row of TofourTells (part 7 of 37).
-/
import Derived.Test.YtjnphelfloiadaaFtAB
import Derived.Test.YtjnphelfloiadaaFtAD
import Derived.Test.YtjnphelfloiadaaFtAF
import Derived.Test.YtjnphelfloiadaaProg
set_option linter.unusedVariables false
set_option linter.unusedSimpArgs false
namespace Go.Proofs.Ytjnphelfloiadaa
open Go.RowKit Go.Shelf

theorem v6_info : (Try.prog.info? 28).map (·.size) = some 42 := by kernel_rfl
theorem head_info : (Try.prog.info? 108).map (·.size) = some 2 := by kernel_rfl

/-- a truth that reads as said -/
def Tru (x : Bool) (e : Ending) : Prop := ∃ q : Bool, e = .returned (.bool q) ∧ Hid (q = x)
theorem Tru.mk {x q : Bool} (h : q = x) : Tru x (.returned (.bool q)) := ⟨q, rfl, Lib.hid h⟩
theorem extra_any (k : Int) (w : World) : Calls Try.prog 93 #[.int .u8 k] w fun e w' => Tru (extra6 k) e ∧ w' = w := by
 obtain ⟨V, hV⟩ : ∃ V, extra6 k = V := ⟨_, rfl⟩
 rw [hV]
 by_cases h0 : k = 0
 ·obtain rfl : V = true := by rw [← hV]; simp [extra6, h0]
  subst h0
  clear hV
  go_enter Try.func93, Try.ntmps93
  go_wp2
  go_ret
  exact ⟨Tru.mk rfl, rfl⟩
 by_cases h1 : k = 43
 ·obtain rfl : V = true := by rw [← hV]; simp [extra6, h1]
  subst h1
  clear hV h0
  go_enter Try.func93, Try.ntmps93
  go_wp2
  go_ret
  exact ⟨Tru.mk rfl, rfl⟩
 by_cases h2 : k = 60
 ·obtain rfl : V = true := by rw [← hV]; simp [extra6, h2]
  subst h2
  clear hV h0 h1
  go_enter Try.func93, Try.ntmps93
  go_wp2
  go_ret
  exact ⟨Tru.mk rfl, rfl⟩
 ·obtain rfl : V = false := by rw [← hV]; simp [extra6, h0, h1, h2]
  clear hV
  have b0 : (k == 0) = false := by simpa using h0
  have b1 : (k == 43) = false := by simpa using h1
  have b2 : (k == 60) = false := by simpa using h2
  clear h0 h1 h2
  go_enter Try.func93, Try.ntmps93
  go_wp2
  go_ret
  exact ⟨Tru.mk rfl, rfl⟩
theorem rextra_any (k : Int) (w : World) : Calls Try.prog 96 #[.int .u8 k] w fun e w' => Tru (extra6 k) e ∧ w' = w := by
 obtain ⟨V, hV⟩ : ∃ V, extra6 k = V := ⟨_, rfl⟩
 rw [hV]
 by_cases h0 : k = 0
 ·obtain rfl : V = true := by rw [← hV]; simp [extra6, h0]
  subst h0
  clear hV
  go_enter Try.func96, Try.ntmps96
  go_wp2
  go_ret
  exact ⟨Tru.mk rfl, rfl⟩
 by_cases h1 : k = 43
 ·obtain rfl : V = true := by rw [← hV]; simp [extra6, h1]
  subst h1
  clear hV h0
  go_enter Try.func96, Try.ntmps96
  go_wp2
  go_ret
  exact ⟨Tru.mk rfl, rfl⟩
 by_cases h2 : k = 60
 ·obtain rfl : V = true := by rw [← hV]; simp [extra6, h2]
  subst h2
  clear hV h0 h1
  go_enter Try.func96, Try.ntmps96
  go_wp2
  go_ret
  exact ⟨Tru.mk rfl, rfl⟩
 ·obtain rfl : V = false := by rw [← hV]; simp [extra6, h0, h1, h2]
  clear hV
  have b0 : (k == 0) = false := by simpa using h0
  have b1 : (k == 43) = false := by simpa using h1
  have b2 : (k == 60) = false := by simpa using h2
  clear h0 h1 h2
  go_enter Try.func96, Try.ntmps96
  go_wp2
  go_ret
  exact ⟨Tru.mk rfl, rfl⟩

/-- one of a row of heads, whole -/
theorem Kds.loadHead {B : Nat} {w : World} {A : Option Addr} {n c k : Nat} {ps : List Kd} {q : Kd} (h : Kds B w A n c ps) (hq : ps[k]? = some q) :
  ∃ b off, A = some ⟨b, off, none⟩ ∧ b < B ∧ 0 ≤ q.1 ∧ q.1 ≤ 255 ∧ By B w q.2.1 q.2.2.2.length q.2.2.1 q.2.2.2 ∧ w.cell? ⟨b, off + k * 2, none⟩ = some (.int .u8 q.1) ∧ w.cell? ⟨b, off + k * 2 + 1, none⟩ = some (.slice q.2.1 q.2.2.2.length q.2.2.1) ∧
   ∀ w', Below B w w' → (loadVar 108 ⟨b, off + k * 2, none⟩).run Try.prog w' = .ok (.agg #[.int .u8 q.1, .slice q.2.1 q.2.2.2.length q.2.2.1]) w' := by
 obtain ⟨b, off, e, hb, e0, e1, r1, r2, hy⟩ := h.at_ k q hq
 exact ⟨b, off, e, hb, r1, r2, hy, e0, e1, fun w' hw => run_loadVar_mid (P := Try.prog) w' b (off + k * 2) 108 [.int .u8 q.1, .slice q.2.1 q.2.2.2.length q.2.2.1] _ (fun j v hj => by
  match j, hj with
  | 0, hj => injection hj with hj; subst hj; exact (hw.cell (p := ⟨b, off + k * 2, none⟩) hb).trans e0
  | 1, hj => injection hj with hj; subst hj; exact (hw.cell (p := ⟨b, off + k * 2 + 1, none⟩) hb).trans e1) Try.underlying108 rfl (by kernel_rfl)⟩
/-- a head in a new variable -/
theorem head_var (wr : World) (pk : Int) (pA : Option Addr) (m pc : Nat) :
  ∃ W, (wr.alloc (.cells #[.int .u8 0, .slice none 0 0] 108)).setRow wr.heap.size #[.int .u8 pk, .slice pA m pc] = W ∧ Has W wr.heap.size (.cells #[.int .u8 pk, .slice pA m pc] 108 (0, 0)) ∧ Below wr.heap.size wr W :=
 ⟨_, rfl, (Has.newAt (o := .cells #[.int .u8 0, .slice none 0 0] 108) rfl).setRow_same, ((Below.refl wr.heap.size wr).alloc (Nat.le_refl _) (.cells #[.int .u8 0, .slice none 0 0] 108)).trans below_setRow'⟩

theorem drop_kd {ps : List Kd} {hs : List (Int × List Int)} {k : Nat} {q : Kd} (hl : kdL ps = hs) (hq : ps[k]? = some q) : hs.drop k = (q.1, q.2.2.2) :: hs.drop (k + 1) := by
 subst hl
 obtain ⟨hk, rfl⟩ := List.getElem?_eq_some_iff.1 hq
 have hk' : k < (kdL ps).length := by rw [kdL_len]; exact hk
 rw [List.drop_eq_getElem_cons hk']
 simp [kdL]
theorem okH_cons (i : Nat) (h : Int × List Int) (t : List (Int × List Int)) : okH i (h :: t) = (!badH i h && okH (i + 1) t) := rfl

set_option maxRecDepth 100000 in
set_option maxHeartbeats 4000000 in
theorem right_any (d : D6) (p : W6) (w : World) (hR : Rd6 w.heap.size w d p) :
  Calls Try.prog 64 #[.agg (d.cells p)] w fun e w' => Tru d.right e ∧ Below w.heap.size w w' := by
 obtain ⟨hA, hc, ps, bA, bc⟩ := p
 have hB : Below w.heap.size w (w.alloc (.cells (d.cells ⟨hA, hc, ps, bA, bc⟩) 28)) := (Below.refl _ _).alloc (Nat.le_refl _) _
 have hH : Has (w.alloc (.cells (d.cells ⟨hA, hc, ps, bA, bc⟩) 28)) w.heap.size (.cells (d.cells ⟨hA, hc, ps, bA, bc⟩) 28 (0, 0)) := Has.newAt rfl
 obtain ⟨W1, hW1⟩ : ∃ W, w.alloc (.cells (d.cells ⟨hA, hc, ps, bA, bc⟩) 28) = W := ⟨_, rfl⟩
 obtain ⟨V, hV⟩ : ∃ V, d.right = V := ⟨_, rfl⟩
 rw [hV]
 have hlab := hR.ok.lab
 obtain ⟨M, hM⟩ : ∃ M, d.hs.length = M := ⟨_, rfl⟩
 have K := hR.hd.below hB (Nat.le_refl _)
 have hkl : kdL ps = d.hs := hR.hl
 dsimp only at K
 rw [hW1] at hB hH K
 have c1 := hH.cell 1 (v := .int .u32 d.lab) rfl
 have c35 := hH.cell 35 (v := .slice hA d.hs.length hc) rfl
 rw [hM] at K c35
 have hMc := Nat.le_trans K.cap K.big
 have hMn := K.len
 by_cases hl : d.lab < 1048576
 case neg =>
  obtain rfl : V = false := by rw [← hV, D6.right, decide_eq_false hl]; rfl
  have hl2 : (d.lab / 1048576 != 0) = true := by simp; omega
  clear hV hR hl
  go_enter Try.func64, Try.ntmps64
  go_wp2
  go_ret
  exact ⟨Tru.mk rfl, hB⟩
 case pos =>
 have hl2 : (d.lab / 1048576 != 0) = false := by simp; omega
 by_cases hM8 : M ≤ 8
 case neg =>
  obtain rfl : V = false := by rw [← hV, D6.right, hM, decide_eq_true hl, decide_eq_false hM8]; rfl
  have hl3 : (8 : Int) < (M : Int) := by omega
  clear hV hR hl hM8
  go_enter Try.func64, Try.ntmps64
  go_wp2
  go_ret
  exact ⟨Tru.mk rfl, hB⟩
 case pos =>
 have hV0 : Hid ((okH 0 (d.hs.drop 0) && d.tail) = V) := Lib.hid (by rw [List.drop_zero, ← hV, D6.right, hM, decide_eq_true hl, decide_eq_true hM8]; rfl)
 have hl3 : ¬ ((8 : Int) < (M : Int)) := by omega
 have hMH := Lib.hid hM
 have hMnH := Lib.hid hMn
 clear hV hl hM hMn
 go_enter Try.func64, Try.ntmps64
 go_wp2
 go_loopw [18] (fun i wr => ∃ k : Nat, k ≤ M ∧ i = .int .i64 k ∧ Hid ((okH k (d.hs.drop k) && d.tail) = V) ∧ Below W1.heap.size W1 wr) (fun i _ => M - (intOf i).toNat)
 case atStart => exact ⟨0, Nat.zero_le _, rfl, hV0, Below.refl _ _⟩
 case round =>
  obtain ⟨k, hk, rfl, hV, hBr⟩ := hrel
  rename_i wr _
  have hBw := hB.trans (hBr.mono hB.size)
  have hH1 := hH.below hBr hH.lt
  have c35 := hH1.cell 35 (v := .slice hA d.hs.length hc) rfl
  rw [hMH.out] at c35
  by_cases hkM : k < M
  case neg =>
   have hge : ¬ ((k : Int) < (M : Int)) := by omega
   have hVt : d.tail = V := by rw [← hV.out, List.drop_of_length_le (by rw [hMH.out]; omega)]; rfl
   have c36 := hH1.cell 36 (v := .bool d.frag) rfl
   have c37 := hH1.cell 37 (v := .int .u32 d.id) rfl
   have c38 := hH1.cell 38 (v := .int .i64 d.off) rfl
   have c39 := hH1.cell 39 (v := .bool d.more) rfl
   have c40 := hH1.cell 40 (v := .int .u8 d.pro) rfl
   have hoff := hR.ok.off
   clear K hV hV0 hR hH hkM hlab hkl
   unfold D6.tail at hVt
   cases hf : d.frag with
   | true =>
    rw [hf] at c36
    rw [hf, if_pos rfl] at hVt
    clear c37 c39 c40 hf
    by_cases h1 : 0 ≤ d.off
    ·by_cases h2 : d.off ≤ 8191
     ·obtain rfl : V = true := by rw [← hVt]; exact decide_eq_true ⟨h1, h2⟩
      clear hVt
      go_wp2
      go_ret
      exact ⟨Tru.mk rfl, hBw⟩
     ·obtain rfl : V = false := by rw [← hVt]; exact decide_eq_false (by omega)
      clear hVt
      go_wp2
      go_ret
      exact ⟨Tru.mk rfl, hBw⟩
    ·obtain rfl : V = false := by rw [← hVt]; exact decide_eq_false (by omega)
     clear hVt
     go_wp2
     go_ret
     exact ⟨Tru.mk rfl, hBw⟩
   | false =>
    rw [hf] at c36
    rw [hf, if_neg (by simp)] at hVt
    clear hf hoff
    by_cases h1 : d.id = 0
    case neg =>
     obtain rfl : V = false := by rw [← hVt]; exact decide_eq_false (fun h => h1 h.1)
     have h1 : (d.id == 0) = false := by simpa using h1
     clear hVt
     go_wp2
     go_ret
     exact ⟨Tru.mk rfl, hBw⟩
    case pos =>
    by_cases h2 : d.off = 0
    case neg =>
     obtain rfl : V = false := by rw [← hVt]; exact decide_eq_false (fun h => h2 h.2.1)
     have h2 : (d.off == 0) = false := by simpa using h2
     rw [h1] at c37
     clear hVt h1
     go_wp2
     go_ret
     exact ⟨Tru.mk rfl, hBw⟩
    case pos =>
    rw [h1] at c37
    rw [h2] at c38
    cases hm : d.more with
    | true =>
     obtain rfl : V = false := by rw [← hVt]; exact decide_eq_false (fun h => by rw [hm] at h; cases h.2.2.1)
     rw [hm] at c39
     clear hVt h1 h2 hm
     go_wp2
     go_ret
     exact ⟨Tru.mk rfl, hBw⟩
    | false =>
     rw [hm] at c39
     cases hx : extra6 d.pro with
     | true =>
      obtain rfl : V = false := by rw [← hVt]; exact decide_eq_false (fun h => by rw [hx] at h; cases h.2.2.2.1)
      clear hVt h1 h2 hm
      go_wp2_with fail
      refine (extra_any d.pro _).mono ?_
      rintro e w1 ⟨⟨q, rfl, hq⟩, rfl⟩
      obtain rfl : q = true := hq.out.trans hx
      clear hq hx
      go_wp2
      go_ret
      exact ⟨Tru.mk rfl, hBw⟩
     | false =>
      by_cases h44 : d.pro = 44
      ·obtain rfl : V = false := by rw [← hVt]; exact decide_eq_false (fun h => h.2.2.2.2 h44)
       clear hVt h1 h2 hm
       rw [h44] at c40 hx
       clear h44
       go_wp2_with fail
       refine (extra_any 44 _).mono ?_
       rintro e w1 ⟨⟨q, rfl, hq⟩, rfl⟩
       obtain rfl : q = false := hq.out.trans hx
       clear hq hx
       go_wp2
       go_ret
       exact ⟨Tru.mk rfl, hBw⟩
      ·obtain rfl : V = true := by rw [← hVt]; exact decide_eq_true ⟨h1, h2, hm, hx, h44⟩
       have h44 : (d.pro != 44) = true := by simpa using h44
       clear hVt h1 h2 hm
       go_wp2_with fail
       refine (extra_any d.pro _).mono ?_
       rintro e w1 ⟨⟨q, rfl, hq⟩, rfl⟩
       obtain rfl : q = false := hq.out.trans hx
       clear hq hx
       go_wp2
       go_ret
       exact ⟨Tru.mk rfl, hBw⟩
  case pos =>
  have hkz : (k : Int) < (M : Int) := by omega
  obtain ⟨⟨pk, pA, pc, pl⟩, hp⟩ : ∃ p', ps[k]? = some p' := ⟨ps[k]'(by rw [hMnH.out]; exact hkM), List.getElem?_eq_getElem _⟩
  have hdk := drop_kd hkl hp
  obtain ⟨b1, o1, hA1, hb1, hr1, hr2, yP, e0, e1, hld⟩ := K.loadHead hp
  have hld := hld wr (hBr.mono hB.size)
  subst hA1
  have hV2 := hV.out
  rw [hdk, okH_cons] at hV2
  dsimp only at hr1 hr2 yP hld hV2
  have hml := Nat.le_trans yP.cap yP.big
  obtain ⟨m, hm⟩ : ∃ m, pl.length = m := ⟨_, rfl⟩
  rw [hm] at hld yP hml
  have hbad : badH k (pk, pl) = (!extra6 pk || (decide (pk = 0) && decide (0 < k)) || decide (m % 8 ≠ 6) || decide (2046 < m)) := by rw [← hm]; rfl
  rw [hbad] at hV2
  obtain ⟨W4, hW4, hH4, hX⟩ := head_var wr pk pA m pc
  have c0 := hH4.cell 0 (v := .int .u8 pk) rfl
  have c1 := hH4.cell 1 (v := .slice pA m pc) rfl
  have hB4 := hBr.trans (hX.mono hBr.size)
  have hB5 := hBw.trans (hX.mono hBw.size)
  have hN : Has (wr.alloc (.cells #[.int .u8 0, .slice none 0 0] 108)) wr.heap.size (.cells #[.int .u8 0, .slice none 0 0] 108 (0, 0)) := Has.newAt rfl
  clear hp hdk hV hV0 hbad hm K yP e0 e1 hR hlab hkl
  have hV2H := Lib.hid hV2
  clear hV2
  cases hx : extra6 pk with
  | false =>
   obtain rfl : V = false := by rw [← hV2H.out, hx]; rfl
   clear hV2H
   go_wp2_with (first | (refine wl (.pointer (some ⟨b1, o1 + k * 2, none⟩)) (by kernel_rfl) (by exact ex_index2 (by exact rfl) Try.underlying25 (by kernel_rfl) (by exact rfl) (by exact rfl) hkM) ?_) | (refine wl (.agg #[.int .u8 pk, .slice pA m pc]) (by kernel_rfl) (by exact ex_loadAt (by exact rfl) (by exact rfl) hld) ?_) | (refine wpList_store_row rfl 108 (.tmp 4) (.tmp 22) rfl wr.heap.size _ rfl rfl 108 _ hN head_info rfl (by simp [Value.oneCell']) ?_))
   refine (extra_any pk _).mono ?_
   rintro e w1 ⟨⟨q, rfl, hq⟩, rfl⟩
   obtain rfl : q = false := hq.out.trans hx
   clear hq hx
   go_wp2
   go_ret
   exact ⟨Tru.mk rfl, hB5⟩
  | true =>
   have hV3 := hV2H.out
   rw [hx] at hV3
   clear hV2H
   by_cases h00 : pk = 0 ∧ 0 < k
   ·obtain ⟨rfl, h0⟩ := h00
    obtain rfl : V = false := by rw [← hV3, decide_eq_true h0]; rfl
    have h0 : (0 : Int) < (k : Int) := by omega
    clear hV3
    go_wp2_with (first | (refine wl (.pointer (some ⟨b1, o1 + k * 2, none⟩)) (by kernel_rfl) (by exact ex_index2 (by exact rfl) Try.underlying25 (by kernel_rfl) (by exact rfl) (by exact rfl) hkM) ?_) | (refine wl (.agg #[.int .u8 0, .slice pA m pc]) (by kernel_rfl) (by exact ex_loadAt (by exact rfl) (by exact rfl) hld) ?_) | (refine wpList_store_row rfl 108 (.tmp 4) (.tmp 22) rfl wr.heap.size _ rfl rfl 108 _ hN head_info rfl (by simp [Value.oneCell']) ?_))
    refine (extra_any 0 _).mono ?_
    rintro e w1 ⟨⟨q, rfl, hq⟩, rfl⟩
    obtain rfl : q = true := hq.out.trans hx
    clear hq hx
    go_wp2
    go_ret
    exact ⟨Tru.mk rfl, hB5⟩
   have hnn : (decide (pk = 0) && decide (0 < k)) = false := by
    rw [Bool.and_eq_false_iff, decide_eq_false_iff_not, decide_eq_false_iff_not]
    omega
   rw [hnn] at hV3
   by_cases hm8 : m % 8 = 6
   case neg =>
    obtain rfl : V = false := by rw [← hV3, decide_eq_true hm8]; rfl
    have hm8 : ((m : Int) % 8 != 6) = true := by simp; omega
    clear hV3 hnn
    by_cases hp0 : pk = 0
    ·have hk0 : ¬ ((0 : Int) < (k : Int)) := by omega
     subst hp0
     clear h00
     go_wp2_with (first | (refine wl (.pointer (some ⟨b1, o1 + k * 2, none⟩)) (by kernel_rfl) (by exact ex_index2 (by exact rfl) Try.underlying25 (by kernel_rfl) (by exact rfl) (by exact rfl) hkM) ?_) | (refine wl (.agg #[.int .u8 0, .slice pA m pc]) (by kernel_rfl) (by exact ex_loadAt (by exact rfl) (by exact rfl) hld) ?_) | (refine wpList_store_row rfl 108 (.tmp 4) (.tmp 22) rfl wr.heap.size _ rfl rfl 108 _ hN head_info rfl (by simp [Value.oneCell']) ?_))
     refine (extra_any 0 _).mono ?_
     rintro e w1 ⟨⟨q, rfl, hq⟩, rfl⟩
     obtain rfl : q = true := hq.out.trans hx
     clear hq hx
     go_wp2
     go_ret
     exact ⟨Tru.mk rfl, hB5⟩
    ·have hp0 : (pk == 0) = false := by simpa using hp0
     clear h00
     go_wp2_with (first | (refine wl (.pointer (some ⟨b1, o1 + k * 2, none⟩)) (by kernel_rfl) (by exact ex_index2 (by exact rfl) Try.underlying25 (by kernel_rfl) (by exact rfl) (by exact rfl) hkM) ?_) | (refine wl (.agg #[.int .u8 pk, .slice pA m pc]) (by kernel_rfl) (by exact ex_loadAt (by exact rfl) (by exact rfl) hld) ?_) | (refine wpList_store_row rfl 108 (.tmp 4) (.tmp 22) rfl wr.heap.size _ rfl rfl 108 _ hN head_info rfl (by simp [Value.oneCell']) ?_))
     refine (extra_any pk _).mono ?_
     rintro e w1 ⟨⟨q, rfl, hq⟩, rfl⟩
     obtain rfl : q = true := hq.out.trans hx
     clear hq hx
     go_wp2
     go_ret
     exact ⟨Tru.mk rfl, hB5⟩
   case pos =>
   by_cases hm2 : 2046 < m
   case pos =>
    obtain rfl : V = false := by rw [← hV3, decide_eq_true hm2, hm8]; rfl
    have hm8 : ((m : Int) % 8 != 6) = false := by simp; omega
    have hm2 : (2046 : Int) < (m : Int) := by omega
    clear hV3 hnn
    by_cases hp0 : pk = 0
    ·have hk0 : ¬ ((0 : Int) < (k : Int)) := by omega
     subst hp0
     clear h00
     go_wp2_with (first | (refine wl (.pointer (some ⟨b1, o1 + k * 2, none⟩)) (by kernel_rfl) (by exact ex_index2 (by exact rfl) Try.underlying25 (by kernel_rfl) (by exact rfl) (by exact rfl) hkM) ?_) | (refine wl (.agg #[.int .u8 0, .slice pA m pc]) (by kernel_rfl) (by exact ex_loadAt (by exact rfl) (by exact rfl) hld) ?_) | (refine wpList_store_row rfl 108 (.tmp 4) (.tmp 22) rfl wr.heap.size _ rfl rfl 108 _ hN head_info rfl (by simp [Value.oneCell']) ?_))
     refine (extra_any 0 _).mono ?_
     rintro e w1 ⟨⟨q, rfl, hq⟩, rfl⟩
     obtain rfl : q = true := hq.out.trans hx
     clear hq hx
     go_wp2
     go_ret
     exact ⟨Tru.mk rfl, hB5⟩
    ·have hp0 : (pk == 0) = false := by simpa using hp0
     clear h00
     go_wp2_with (first | (refine wl (.pointer (some ⟨b1, o1 + k * 2, none⟩)) (by kernel_rfl) (by exact ex_index2 (by exact rfl) Try.underlying25 (by kernel_rfl) (by exact rfl) (by exact rfl) hkM) ?_) | (refine wl (.agg #[.int .u8 pk, .slice pA m pc]) (by kernel_rfl) (by exact ex_loadAt (by exact rfl) (by exact rfl) hld) ?_) | (refine wpList_store_row rfl 108 (.tmp 4) (.tmp 22) rfl wr.heap.size _ rfl rfl 108 _ hN head_info rfl (by simp [Value.oneCell']) ?_))
     refine (extra_any pk _).mono ?_
     rintro e w1 ⟨⟨q, rfl, hq⟩, rfl⟩
     obtain rfl : q = true := hq.out.trans hx
     clear hq hx
     go_wp2
     go_ret
     exact ⟨Tru.mk rfl, hB5⟩
   have hVn : Hid ((okH (k + 1) (d.hs.drop (k + 1)) && d.tail) = V) := Lib.hid (by rw [← hV3, decide_eq_false hm2, hm8]; simp)
   have hm8 : ((m : Int) % 8 != 6) = false := by simp; omega
   have hm2 : ¬ ((2046 : Int) < (m : Int)) := by omega
   clear hV3 hnn
   by_cases hp0 : pk = 0
   ·have hk0 : ¬ ((0 : Int) < (k : Int)) := by omega
    subst hp0
    clear h00
    go_wp2_with (first | (refine wl (.pointer (some ⟨b1, o1 + k * 2, none⟩)) (by kernel_rfl) (by exact ex_index2 (by exact rfl) Try.underlying25 (by kernel_rfl) (by exact rfl) (by exact rfl) hkM) ?_) | (refine wl (.agg #[.int .u8 0, .slice pA m pc]) (by kernel_rfl) (by exact ex_loadAt (by exact rfl) (by exact rfl) hld) ?_) | (refine wpList_store_row rfl 108 (.tmp 4) (.tmp 22) rfl wr.heap.size _ rfl rfl 108 _ hN head_info rfl (by simp [Value.oneCell']) ?_))
    refine (extra_any 0 _).mono ?_
    rintro e w1 ⟨⟨q, rfl, hq⟩, rfl⟩
    obtain rfl : q = true := hq.out.trans hx
    clear hq hx
    go_wp2
    go_roundw
    case rel => exact ⟨k + 1, by omega, by go_num, hVn, hB4⟩
    case measure => simp [intOf]; omega
   ·have hp0 : (pk == 0) = false := by simpa using hp0
    clear h00
    go_wp2_with (first | (refine wl (.pointer (some ⟨b1, o1 + k * 2, none⟩)) (by kernel_rfl) (by exact ex_index2 (by exact rfl) Try.underlying25 (by kernel_rfl) (by exact rfl) (by exact rfl) hkM) ?_) | (refine wl (.agg #[.int .u8 pk, .slice pA m pc]) (by kernel_rfl) (by exact ex_loadAt (by exact rfl) (by exact rfl) hld) ?_) | (refine wpList_store_row rfl 108 (.tmp 4) (.tmp 22) rfl wr.heap.size _ rfl rfl 108 _ hN head_info rfl (by simp [Value.oneCell']) ?_))
    refine (extra_any pk _).mono ?_
    rintro e w1 ⟨⟨q, rfl, hq⟩, rfl⟩
    obtain rfl : q = true := hq.out.trans hx
    clear hq hx
    go_wp2
    go_roundw
    case rel => exact ⟨k + 1, by omega, by go_num, hVn, hB4⟩
    case measure => simp [intOf]; omega
end Go.Proofs.Ytjnphelfloiadaa
namespace Go.Proofs.Ytjnphelfloiadaa
open Go.RowKit Go.Shelf

set_option maxRecDepth 100000 in
set_option maxHeartbeats 4000000 in
theorem rright_any (d : D6) (p : W6) (w : World) (hR : Rd6 w.heap.size w d p) :
  Calls Try.prog 72 #[.agg (d.cells p)] w fun e w' => Tru d.right e ∧ Below w.heap.size w w' := by
 obtain ⟨hA, hc, ps, bA, bc⟩ := p
 have hB : Below w.heap.size w (w.alloc (.cells (d.cells ⟨hA, hc, ps, bA, bc⟩) 28)) := (Below.refl _ _).alloc (Nat.le_refl _) _
 have hH : Has (w.alloc (.cells (d.cells ⟨hA, hc, ps, bA, bc⟩) 28)) w.heap.size (.cells (d.cells ⟨hA, hc, ps, bA, bc⟩) 28 (0, 0)) := Has.newAt rfl
 obtain ⟨W1, hW1⟩ : ∃ W, w.alloc (.cells (d.cells ⟨hA, hc, ps, bA, bc⟩) 28) = W := ⟨_, rfl⟩
 obtain ⟨V, hV⟩ : ∃ V, d.right = V := ⟨_, rfl⟩
 rw [hV]
 have hlab := hR.ok.lab
 obtain ⟨M, hM⟩ : ∃ M, d.hs.length = M := ⟨_, rfl⟩
 have K := hR.hd.below hB (Nat.le_refl _)
 have hkl : kdL ps = d.hs := hR.hl
 dsimp only at K
 rw [hW1] at hB hH K
 have c1 := hH.cell 1 (v := .int .u32 d.lab) rfl
 have c35 := hH.cell 35 (v := .slice hA d.hs.length hc) rfl
 rw [hM] at K c35
 have hMc := Nat.le_trans K.cap K.big
 have hMn := K.len
 by_cases hl : d.lab < 1048576
 case neg =>
  obtain rfl : V = false := by rw [← hV, D6.right, decide_eq_false hl]; rfl
  have hl2 : (1048576 : Int) ≤ d.lab := by omega
  clear hV hR hl
  go_enter Try.func72, Try.ntmps72
  go_wp2
  go_ret
  exact ⟨Tru.mk rfl, hB⟩
 case pos =>
 have hl2 : ¬ ((1048576 : Int) ≤ d.lab) := by omega
 by_cases hM8 : M ≤ 8
 case neg =>
  obtain rfl : V = false := by rw [← hV, D6.right, hM, decide_eq_true hl, decide_eq_false hM8]; rfl
  have hl3 : (8 : Int) < (M : Int) := by omega
  clear hV hR hl hM8
  go_enter Try.func72, Try.ntmps72
  go_wp2
  go_ret
  exact ⟨Tru.mk rfl, hB⟩
 case pos =>
 have hV0 : Hid ((okH 0 (d.hs.drop 0) && d.tail) = V) := Lib.hid (by rw [List.drop_zero, ← hV, D6.right, hM, decide_eq_true hl, decide_eq_true hM8]; rfl)
 have hl3 : ¬ ((8 : Int) < (M : Int)) := by omega
 have hMH := Lib.hid hM
 have hMnH := Lib.hid hMn
 clear hV hl hM hMn
 go_enter Try.func72, Try.ntmps72
 go_wp2
 go_loopw [3] (fun i wr => ∃ k : Nat, k ≤ M ∧ i = .int .i64 k ∧ Hid ((okH k (d.hs.drop k) && d.tail) = V) ∧ Below W1.heap.size W1 wr) (fun i _ => M - (intOf i).toNat)
 case atStart => exact ⟨0, Nat.zero_le _, rfl, hV0, Below.refl _ _⟩
 case round =>
  obtain ⟨k, hk, rfl, hV, hBr⟩ := hrel
  rename_i wr _
  have hBw := hB.trans (hBr.mono hB.size)
  have hH1 := hH.below hBr hH.lt
  have c35 := hH1.cell 35 (v := .slice hA d.hs.length hc) rfl
  rw [hMH.out] at c35
  by_cases hkM : k < M
  case neg =>
   have hge : ¬ ((k : Int) < (M : Int)) := by omega
   have hVt : d.tail = V := by rw [← hV.out, List.drop_of_length_le (by rw [hMH.out]; omega)]; rfl
   have c36 := hH1.cell 36 (v := .bool d.frag) rfl
   have c37 := hH1.cell 37 (v := .int .u32 d.id) rfl
   have c38 := hH1.cell 38 (v := .int .i64 d.off) rfl
   have c39 := hH1.cell 39 (v := .bool d.more) rfl
   have c40 := hH1.cell 40 (v := .int .u8 d.pro) rfl
   have hoff := hR.ok.off
   clear K hV hV0 hR hH hkM hlab hkl
   unfold D6.tail at hVt
   cases hf : d.frag with
   | true =>
    rw [hf] at c36
    rw [hf, if_pos rfl] at hVt
    clear c37 c39 c40 hf
    by_cases h1 : 0 ≤ d.off
    ·by_cases h2 : d.off ≤ 8191
     ·obtain rfl : V = true := by rw [← hVt]; exact decide_eq_true ⟨h1, h2⟩
      clear hVt
      go_wp2
      go_ret
      exact ⟨Tru.mk rfl, hBw⟩
     ·obtain rfl : V = false := by rw [← hVt]; exact decide_eq_false (by omega)
      clear hVt
      go_wp2
      go_ret
      exact ⟨Tru.mk rfl, hBw⟩
    ·obtain rfl : V = false := by rw [← hVt]; exact decide_eq_false (by omega)
     clear hVt
     go_wp2
     go_ret
     exact ⟨Tru.mk rfl, hBw⟩
   | false =>
    rw [hf] at c36
    rw [hf, if_neg (by simp)] at hVt
    clear hf hoff
    by_cases h1 : d.id = 0
    case neg =>
     obtain rfl : V = false := by rw [← hVt]; exact decide_eq_false (fun h => h1 h.1)
     have h1 : (d.id == 0) = false := by simpa using h1
     clear hVt
     go_wp2
     go_ret
     exact ⟨Tru.mk rfl, hBw⟩
    case pos =>
    by_cases h2 : d.off = 0
    case neg =>
     obtain rfl : V = false := by rw [← hVt]; exact decide_eq_false (fun h => h2 h.2.1)
     have h2 : (d.off == 0) = false := by simpa using h2
     rw [h1] at c37
     clear hVt h1
     go_wp2
     go_ret
     exact ⟨Tru.mk rfl, hBw⟩
    case pos =>
    rw [h1] at c37
    rw [h2] at c38
    cases hm : d.more with
    | true =>
     obtain rfl : V = false := by rw [← hVt]; exact decide_eq_false (fun h => by rw [hm] at h; cases h.2.2.1)
     rw [hm] at c39
     clear hVt h1 h2 hm
     go_wp2
     go_ret
     exact ⟨Tru.mk rfl, hBw⟩
    | false =>
     rw [hm] at c39
     cases hx : extra6 d.pro with
     | true =>
      obtain rfl : V = false := by rw [← hVt]; exact decide_eq_false (fun h => by rw [hx] at h; cases h.2.2.2.1)
      clear hVt h1 h2 hm
      go_wp2_with fail
      refine (rextra_any d.pro _).mono ?_
      rintro e w1 ⟨⟨q, rfl, hq⟩, rfl⟩
      obtain rfl : q = true := hq.out.trans hx
      clear hq hx
      go_wp2
      go_ret
      exact ⟨Tru.mk rfl, hBw⟩
     | false =>
      by_cases h44 : d.pro = 44
      ·obtain rfl : V = false := by rw [← hVt]; exact decide_eq_false (fun h => h.2.2.2.2 h44)
       clear hVt h1 h2 hm
       rw [h44] at c40 hx
       clear h44
       go_wp2_with fail
       refine (rextra_any 44 _).mono ?_
       rintro e w1 ⟨⟨q, rfl, hq⟩, rfl⟩
       obtain rfl : q = false := hq.out.trans hx
       clear hq hx
       go_wp2
       go_ret
       exact ⟨Tru.mk rfl, hBw⟩
      ·obtain rfl : V = true := by rw [← hVt]; exact decide_eq_true ⟨h1, h2, hm, hx, h44⟩
       have h44 : (d.pro != 44) = true := by simpa using h44
       clear hVt h1 h2 hm
       go_wp2_with fail
       refine (rextra_any d.pro _).mono ?_
       rintro e w1 ⟨⟨q, rfl, hq⟩, rfl⟩
       obtain rfl : q = false := hq.out.trans hx
       clear hq hx
       go_wp2
       go_ret
       exact ⟨Tru.mk rfl, hBw⟩
  case pos =>
  have hkz : (k : Int) < (M : Int) := by omega
  obtain ⟨⟨pk, pA, pc, pl⟩, hp⟩ : ∃ p', ps[k]? = some p' := ⟨ps[k]'(by rw [hMnH.out]; exact hkM), List.getElem?_eq_getElem _⟩
  have hdk := drop_kd hkl hp
  obtain ⟨b1, o1, hA1, hb1, hr1, hr2, yP, e0, e1, hld⟩ := K.loadHead hp
  have hld := hld wr (hBr.mono hB.size)
  subst hA1
  have hV2 := hV.out
  rw [hdk, okH_cons] at hV2
  dsimp only at hr1 hr2 yP hld hV2
  have hml := Nat.le_trans yP.cap yP.big
  obtain ⟨m, hm⟩ : ∃ m, pl.length = m := ⟨_, rfl⟩
  rw [hm] at hld yP hml
  have hbad : badH k (pk, pl) = (!extra6 pk || (decide (pk = 0) && decide (0 < k)) || decide (m % 8 ≠ 6) || decide (2046 < m)) := by rw [← hm]; rfl
  rw [hbad] at hV2
  obtain ⟨W4, hW4, hH4, hX⟩ := head_var wr pk pA m pc
  have c0 := hH4.cell 0 (v := .int .u8 pk) rfl
  have c1 := hH4.cell 1 (v := .slice pA m pc) rfl
  have hB4 := hBr.trans (hX.mono hBr.size)
  have hB5 := hBw.trans (hX.mono hBw.size)
  have hN : Has (wr.alloc (.cells #[.int .u8 0, .slice none 0 0] 108)) wr.heap.size (.cells #[.int .u8 0, .slice none 0 0] 108 (0, 0)) := Has.newAt rfl
  clear hp hdk hV hV0 hbad hm K yP e0 e1 hR hlab hkl
  have hV2H := Lib.hid hV2
  clear hV2
  cases hx : extra6 pk with
  | false =>
   obtain rfl : V = false := by rw [← hV2H.out, hx]; rfl
   clear hV2H
   go_wp2_with (first | (refine wl (.pointer (some ⟨b1, o1 + k * 2, none⟩)) (by kernel_rfl) (by exact ex_index2 (by exact rfl) Try.underlying25 (by kernel_rfl) (by exact rfl) (by exact rfl) hkM) ?_) | (refine wl (.agg #[.int .u8 pk, .slice pA m pc]) (by kernel_rfl) (by exact ex_loadAt (by exact rfl) (by exact rfl) hld) ?_) | (refine wpList_store_row rfl 108 (.tmp 4) (.tmp 25) rfl wr.heap.size _ rfl rfl 108 _ hN head_info rfl (by simp [Value.oneCell']) ?_))
   refine (rextra_any pk _).mono ?_
   rintro e w1 ⟨⟨q, rfl, hq⟩, rfl⟩
   obtain rfl : q = false := hq.out.trans hx
   clear hq hx
   go_wp2
   go_ret
   exact ⟨Tru.mk rfl, hB5⟩
  | true =>
   have hV3 := hV2H.out
   rw [hx] at hV3
   clear hV2H
   by_cases h00 : pk = 0 ∧ 0 < k
   ·obtain ⟨rfl, h0⟩ := h00
    obtain rfl : V = false := by rw [← hV3, decide_eq_true h0]; rfl
    have h0 : (0 : Int) < (k : Int) := by omega
    clear hV3
    go_wp2_with (first | (refine wl (.pointer (some ⟨b1, o1 + k * 2, none⟩)) (by kernel_rfl) (by exact ex_index2 (by exact rfl) Try.underlying25 (by kernel_rfl) (by exact rfl) (by exact rfl) hkM) ?_) | (refine wl (.agg #[.int .u8 0, .slice pA m pc]) (by kernel_rfl) (by exact ex_loadAt (by exact rfl) (by exact rfl) hld) ?_) | (refine wpList_store_row rfl 108 (.tmp 4) (.tmp 25) rfl wr.heap.size _ rfl rfl 108 _ hN head_info rfl (by simp [Value.oneCell']) ?_))
    refine (rextra_any 0 _).mono ?_
    rintro e w1 ⟨⟨q, rfl, hq⟩, rfl⟩
    obtain rfl : q = true := hq.out.trans hx
    clear hq hx
    go_wp2
    go_ret
    exact ⟨Tru.mk rfl, hB5⟩
   have hnn : (decide (pk = 0) && decide (0 < k)) = false := by
    rw [Bool.and_eq_false_iff, decide_eq_false_iff_not, decide_eq_false_iff_not]
    omega
   rw [hnn] at hV3
   by_cases hm8 : m % 8 = 6
   case neg =>
    obtain rfl : V = false := by rw [← hV3, decide_eq_true hm8]; rfl
    have hm8 : ((m : Int) % 8 != 6) = true := by simp; omega
    clear hV3 hnn
    by_cases hp0 : pk = 0
    ·have hk0 : ¬ ((0 : Int) < (k : Int)) := by omega
     subst hp0
     clear h00
     go_wp2_with (first | (refine wl (.pointer (some ⟨b1, o1 + k * 2, none⟩)) (by kernel_rfl) (by exact ex_index2 (by exact rfl) Try.underlying25 (by kernel_rfl) (by exact rfl) (by exact rfl) hkM) ?_) | (refine wl (.agg #[.int .u8 0, .slice pA m pc]) (by kernel_rfl) (by exact ex_loadAt (by exact rfl) (by exact rfl) hld) ?_) | (refine wpList_store_row rfl 108 (.tmp 4) (.tmp 25) rfl wr.heap.size _ rfl rfl 108 _ hN head_info rfl (by simp [Value.oneCell']) ?_))
     refine (rextra_any 0 _).mono ?_
     rintro e w1 ⟨⟨q, rfl, hq⟩, rfl⟩
     obtain rfl : q = true := hq.out.trans hx
     clear hq hx
     go_wp2
     go_ret
     exact ⟨Tru.mk rfl, hB5⟩
    ·have hp0 : (pk == 0) = false := by simpa using hp0
     clear h00
     go_wp2_with (first | (refine wl (.pointer (some ⟨b1, o1 + k * 2, none⟩)) (by kernel_rfl) (by exact ex_index2 (by exact rfl) Try.underlying25 (by kernel_rfl) (by exact rfl) (by exact rfl) hkM) ?_) | (refine wl (.agg #[.int .u8 pk, .slice pA m pc]) (by kernel_rfl) (by exact ex_loadAt (by exact rfl) (by exact rfl) hld) ?_) | (refine wpList_store_row rfl 108 (.tmp 4) (.tmp 25) rfl wr.heap.size _ rfl rfl 108 _ hN head_info rfl (by simp [Value.oneCell']) ?_))
     refine (rextra_any pk _).mono ?_
     rintro e w1 ⟨⟨q, rfl, hq⟩, rfl⟩
     obtain rfl : q = true := hq.out.trans hx
     clear hq hx
     go_wp2
     go_ret
     exact ⟨Tru.mk rfl, hB5⟩
   case pos =>
   by_cases hm2 : 2046 < m
   case pos =>
    obtain rfl : V = false := by rw [← hV3, decide_eq_true hm2, hm8]; rfl
    have hm8 : ((m : Int) % 8 != 6) = false := by simp; omega
    have hm2 : (2046 : Int) < (m : Int) := by omega
    clear hV3 hnn
    by_cases hp0 : pk = 0
    ·have hk0 : ¬ ((0 : Int) < (k : Int)) := by omega
     subst hp0
     clear h00
     go_wp2_with (first | (refine wl (.pointer (some ⟨b1, o1 + k * 2, none⟩)) (by kernel_rfl) (by exact ex_index2 (by exact rfl) Try.underlying25 (by kernel_rfl) (by exact rfl) (by exact rfl) hkM) ?_) | (refine wl (.agg #[.int .u8 0, .slice pA m pc]) (by kernel_rfl) (by exact ex_loadAt (by exact rfl) (by exact rfl) hld) ?_) | (refine wpList_store_row rfl 108 (.tmp 4) (.tmp 25) rfl wr.heap.size _ rfl rfl 108 _ hN head_info rfl (by simp [Value.oneCell']) ?_))
     refine (rextra_any 0 _).mono ?_
     rintro e w1 ⟨⟨q, rfl, hq⟩, rfl⟩
     obtain rfl : q = true := hq.out.trans hx
     clear hq hx
     go_wp2
     go_ret
     exact ⟨Tru.mk rfl, hB5⟩
    ·have hp0 : (pk == 0) = false := by simpa using hp0
     clear h00
     go_wp2_with (first | (refine wl (.pointer (some ⟨b1, o1 + k * 2, none⟩)) (by kernel_rfl) (by exact ex_index2 (by exact rfl) Try.underlying25 (by kernel_rfl) (by exact rfl) (by exact rfl) hkM) ?_) | (refine wl (.agg #[.int .u8 pk, .slice pA m pc]) (by kernel_rfl) (by exact ex_loadAt (by exact rfl) (by exact rfl) hld) ?_) | (refine wpList_store_row rfl 108 (.tmp 4) (.tmp 25) rfl wr.heap.size _ rfl rfl 108 _ hN head_info rfl (by simp [Value.oneCell']) ?_))
     refine (rextra_any pk _).mono ?_
     rintro e w1 ⟨⟨q, rfl, hq⟩, rfl⟩
     obtain rfl : q = true := hq.out.trans hx
     clear hq hx
     go_wp2
     go_ret
     exact ⟨Tru.mk rfl, hB5⟩
   have hVn : Hid ((okH (k + 1) (d.hs.drop (k + 1)) && d.tail) = V) := Lib.hid (by rw [← hV3, decide_eq_false hm2, hm8]; simp)
   have hm8 : ((m : Int) % 8 != 6) = false := by simp; omega
   have hm2 : ¬ ((2046 : Int) < (m : Int)) := by omega
   clear hV3 hnn
   by_cases hp0 : pk = 0
   ·have hk0 : ¬ ((0 : Int) < (k : Int)) := by omega
    subst hp0
    clear h00
    go_wp2_with (first | (refine wl (.pointer (some ⟨b1, o1 + k * 2, none⟩)) (by kernel_rfl) (by exact ex_index2 (by exact rfl) Try.underlying25 (by kernel_rfl) (by exact rfl) (by exact rfl) hkM) ?_) | (refine wl (.agg #[.int .u8 0, .slice pA m pc]) (by kernel_rfl) (by exact ex_loadAt (by exact rfl) (by exact rfl) hld) ?_) | (refine wpList_store_row rfl 108 (.tmp 4) (.tmp 25) rfl wr.heap.size _ rfl rfl 108 _ hN head_info rfl (by simp [Value.oneCell']) ?_))
    refine (rextra_any 0 _).mono ?_
    rintro e w1 ⟨⟨q, rfl, hq⟩, rfl⟩
    obtain rfl : q = true := hq.out.trans hx
    clear hq hx
    go_wp2
    go_roundw
    case rel => exact ⟨k + 1, by omega, by go_num, hVn, hB4⟩
    case measure => simp [intOf]; omega
   ·have hp0 : (pk == 0) = false := by simpa using hp0
    clear h00
    go_wp2_with (first | (refine wl (.pointer (some ⟨b1, o1 + k * 2, none⟩)) (by kernel_rfl) (by exact ex_index2 (by exact rfl) Try.underlying25 (by kernel_rfl) (by exact rfl) (by exact rfl) hkM) ?_) | (refine wl (.agg #[.int .u8 pk, .slice pA m pc]) (by kernel_rfl) (by exact ex_loadAt (by exact rfl) (by exact rfl) hld) ?_) | (refine wpList_store_row rfl 108 (.tmp 4) (.tmp 25) rfl wr.heap.size _ rfl rfl 108 _ hN head_info rfl (by simp [Value.oneCell']) ?_))
    refine (rextra_any pk _).mono ?_
    rintro e w1 ⟨⟨q, rfl, hq⟩, rfl⟩
    obtain rfl : q = true := hq.out.trans hx
    clear hq hx
    go_wp2
    go_roundw
    case rel => exact ⟨k + 1, by omega, by go_num, hVn, hB4⟩
    case measure => simp [intOf]; omega
end Go.Proofs.Ytjnphelfloiadaa
