/-
  The walks of icmp.Parse4, Parse6.
-/
import Derived.Test.YtgigdaemecokbaaRRRIcB
namespace Go.Proofs.YtgigdaemecokbaaRRR
open Go.RowKit Go.Shelf

theorem parse7_eq {l ps : List Int} (h8 : 8 ≤ l.length) (hm : l.length ≤ 65535) : parse7 l ps = if sumw (ps ++ l) ≠ 65535 then zero7 else of7 l := by
  unfold parse7
  by_cases h : sumw (ps ++ l) ≠ 65535
  · rw [if_pos (Or.inr (Or.inr h)), if_pos h]
  · rw [if_neg (by omega), if_neg h]
theorem perr7_eq {l ps : List Int} (h8 : 8 ≤ l.length) (hm : l.length ≤ 65535) : perr7 l ps = if sumw (ps ++ l) ≠ 65535 then 71 else 0 := by
  unfold perr7
  rw [if_neg (by omega), if_neg (by omega)]
theorem parse_any (A : Option Addr) (c : Nat) (l : List Int) (Ap : Option Addr) (cp : Nat) (ps : List Int) (w : World) (hl : By w.heap.size w A l.length c l) (hp : By w.heap.size w Ap ps.length cp ps) (h8 : 8 ≤ l.length) (hm : l.length ≤ 65535) :
    Calls Try.prog 28 #[.slice A l.length c, .slice Ap ps.length cp] w fun e w' => Told7 w.heap.size w' (parse7 l ps) (perr7 l ps) e ∧ Below w.heap.size w w' := by
  rw [parse7_eq h8 hm, perr7_eq h8 hm]
  by_cases h : sumw (ps ++ l) ≠ 65535
  · rw [if_pos h, if_pos h]
    exact parse_bad A c l Ap cp ps w hl hp h
  · rw [if_neg h, if_neg h]
    exact parse_ok A c l Ap cp ps w hl hp (by simpa using h) h8 hm

theorem parse4_any (A : Option Addr) (c : Nat) (l : List Int) (w : World) (hl : By w.heap.size w A l.length c l) :
    Calls Try.prog 20 #[.slice A l.length c] w fun e w' => Told7 w.heap.size w' (parse7 l []) (perr7 l []) e ∧ Below w.heap.size w w' := by
  have hbig := Nat.le_trans hl.cap hl.big
  by_cases h1 : l.length < 8 ∨ 65535 < l.length
  · have e1 : parse7 l [] = zero7 := if_pos (by omega)
    have e3 : perr7 l [] = szerr l.length := by unfold perr7 szerr; split <;> (try split) <;> first | rfl | (exfalso; omega)
    have hs : szerr l.length = 70 ∨ szerr l.length = 2 := by unfold szerr; split <;> (try split) <;> first | (simp; done) | (exfalso; omega)
    rw [e1, e3]
    have hsH := Lib.hid hs
    have hHn : Has (w.alloc (.cells #[.int .u8 0, .int .u8 0, .int .u32 0, .slice none 0 0] 25)) w.heap.size (.cells #[.int .u8 0, .int .u8 0, .int .u32 0, .slice none 0 0] 25 (0, 0)) := Has.newAt rfl
    clear e1 e3 hs h1
    go_enter Try.func20, Try.ntmps20
    go_wp2_with fail
    refine (sized_any A l.length c _ hbig).mono ?_
    rintro e w1 ⟨q, rfl, hq, rfl⟩
    have hq2 : q = 70 ∨ q = 2 := by rw [hq.out]; exact hsH.out
    rcases hq2 with rfl | rfl
    · go_wp2_with (refine wpList_store_row rfl 25 (.tmp 2) (.tmp 9) rfl w.heap.size _ rfl rfl 25 _ hHn icmp_info rfl (by simp [Value.oneCell']) ?_)
      exact bodyPost_ret (res_cell2 Try.results20 rfl (hHn.setRow_same.load (P := Try.prog) 25 Try.underlying25 rfl icmp_info) rfl) rfl ⟨⟨none, 0, 70, rfl, hq, zero7_ok, OwnB.nil _ _⟩, ((Below.refl _ _).alloc (Nat.le_refl _) _).trans below_setRow'⟩
    · go_wp2_with (refine wpList_store_row rfl 25 (.tmp 2) (.tmp 9) rfl w.heap.size _ rfl rfl 25 _ hHn icmp_info rfl (by simp [Value.oneCell']) ?_)
      exact bodyPost_ret (res_cell2 Try.results20 rfl (hHn.setRow_same.load (P := Try.prog) 25 Try.underlying25 rfl icmp_info) rfl) rfl ⟨⟨none, 0, 2, rfl, hq, zero7_ok, OwnB.nil _ _⟩, ((Below.refl _ _).alloc (Nat.le_refl _) _).trans below_setRow'⟩
  · have h8 : 8 ≤ l.length := by omega
    have hm : l.length ≤ 65535 := by omega
    have hs : szerr l.length = 0 := by unfold szerr; rw [if_neg (by omega), if_neg (by omega)]
    have hsH := Lib.hid hs
    obtain ⟨D, hD⟩ : ∃ D, parse7 l [] = D := ⟨_, rfl⟩
    obtain ⟨s, hse⟩ : ∃ s, perr7 l [] = s := ⟨_, rfl⟩
    have hpa := Lib.hid (parse_any A c l none 0 [] (w.alloc (.cells #[.int .u8 0, .int .u8 0, .int .u32 0, .slice none 0 0] 25)) ((hl.alloc (Nat.le_refl _) _).more (by simp)) (By.nil _ _ _ (by decide)) h8 hm)
    rw [hD, hse] at hpa
    rw [hD, hse]
    clear hs h1 hD hse
    go_enter Try.func20, Try.ntmps20
    go_wp2_with fail
    refine (sized_any A l.length c _ hbig).mono ?_
    rintro e w1 ⟨q, rfl, hq, rfl⟩
    obtain rfl : q = 0 := hq.out.trans hsH.out
    go_wp2_with fail
    refine hpa.out.mono ?_
    rintro e w2 ⟨⟨A', c', s', rfl, hs', hok, ho⟩, hb2⟩
    have hH2 : Has w2 w.heap.size (.cells #[.int .u8 0, .int .u8 0, .int .u32 0, .slice none 0 0] 25 (0, 0)) := (Has.newAt rfl).below hb2 (by simp)
    have hsz : w.heap.size < (w.alloc (.cells #[.int .u8 0, .int .u8 0, .int .u32 0, .slice none 0 0] 25)).heap.size := by simp
    have ho2 := (ho.setRow (g := w.heap.size) (cs := D.cells A' c') hsz).more (Nat.le_of_lt hsz)
    have hB2 := (((Below.refl _ _).alloc (Nat.le_refl _) _).trans (hb2.mono (Nat.le_of_lt hsz))).trans (below_setRow' (w := w2) (g := w.heap.size) (cs := D.cells A' c'))
    clear hpa ho hb2 hsz
    go_wp2_with (refine wpList_store_row rfl 25 (.tmp 2) (.tmp 13) rfl w.heap.size _ rfl rfl 25 _ hH2 icmp_info rfl (by simp [D7.cells, Value.oneCell']) ?_)
    exact bodyPost_ret (res_cell2 Try.results20 rfl (hH2.setRow_same.load (P := Try.prog) 25 Try.underlying25 rfl icmp_info) rfl) rfl ⟨⟨A', c', s', rfl, hs', hok, ho2⟩, hB2⟩

theorem parse6_any (a b : List Int) (ha : a.length = 16) (hb : b.length = 16) (ra : InB a) (rb : InB b) (A : Option Addr) (c : Nat) (l : List Int) (w : World) (hl : By w.heap.size w A l.length c l) :
    Calls Try.prog 21 #[.agg (u8s a).toArray, .agg (u8s b).toArray, .slice A l.length c] w fun e w' => Told7 w.heap.size w' (parse7 l (pse6 a b l.length 58)) (perr7 l (pse6 a b l.length 58)) e ∧ Below w.heap.size w w' := by
  have hbig := Nat.le_trans hl.cap hl.big
  have hB : Below w.heap.size w (((w.alloc (.cells (u8s a).toArray 49)).alloc (.cells (u8s b).toArray 49)).alloc (.cells #[.int .u8 0, .int .u8 0, .int .u32 0, .slice none 0 0] 25)) := (((Below.refl _ _).alloc (Nat.le_refl _) _).alloc (by simp) _).alloc (by simp; omega) _
  have hHa : Has (((w.alloc (.cells (u8s a).toArray 49)).alloc (.cells (u8s b).toArray 49)).alloc (.cells #[.int .u8 0, .int .u8 0, .int .u32 0, .slice none 0 0] 25)) w.heap.size (.cells (u8s a).toArray 49 (0, 0)) := ((Has.newAt rfl).alloc).alloc
  have hHb : Has (((w.alloc (.cells (u8s a).toArray 49)).alloc (.cells (u8s b).toArray 49)).alloc (.cells #[.int .u8 0, .int .u8 0, .int .u32 0, .slice none 0 0] 25)) (w.heap.size + 1) (.cells (u8s b).toArray 49 (0, 0)) := (Has.newAt (by simp)).alloc
  have hHn : Has (((w.alloc (.cells (u8s a).toArray 49)).alloc (.cells (u8s b).toArray 49)).alloc (.cells #[.int .u8 0, .int .u8 0, .int .u32 0, .slice none 0 0] 25)) (w.heap.size + 1 + 1) (.cells #[.int .u8 0, .int .u8 0, .int .u32 0, .slice none 0 0] 25 (0, 0)) := Has.newAt (by simp)
  have hia := addr6_info a ha
  have hib := addr6_info b hb
  by_cases h1 : l.length < 8 ∨ 65535 < l.length
  · have e1 : parse7 l (pse6 a b l.length 58) = zero7 := if_pos (by omega)
    have e3 : perr7 l (pse6 a b l.length 58) = szerr l.length := by unfold perr7 szerr; split <;> (try split) <;> first | rfl | (exfalso; omega)
    have hs : szerr l.length = 70 ∨ szerr l.length = 2 := by unfold szerr; split <;> (try split) <;> first | (simp; done) | (exfalso; omega)
    rw [e1, e3]
    have hsH := Lib.hid hs
    clear e1 e3 hs h1
    go_enter Try.func21, Try.ntmps21
    go_wp2_with fail
    refine (sized_any A l.length c _ hbig).mono ?_
    rintro e w1 ⟨q, rfl, hq, rfl⟩
    have hq2 : q = 70 ∨ q = 2 := by rw [hq.out]; exact hsH.out
    rcases hq2 with rfl | rfl
    · go_wp2_with (refine wpList_store_row rfl 25 (.tmp 6) (.tmp 15) rfl (w.heap.size + 1 + 1) _ rfl rfl 25 _ hHn icmp_info rfl (by simp [Value.oneCell']) ?_)
      exact bodyPost_ret (res_cell2 Try.results21 rfl (hHn.setRow_same.load (P := Try.prog) 25 Try.underlying25 rfl icmp_info) rfl) rfl ⟨⟨none, 0, 70, rfl, hq, zero7_ok, OwnB.nil _ _⟩, hB.trans (below_setRow'.mono (by omega))⟩
    · go_wp2_with (refine wpList_store_row rfl 25 (.tmp 6) (.tmp 15) rfl (w.heap.size + 1 + 1) _ rfl rfl 25 _ hHn icmp_info rfl (by simp [Value.oneCell']) ?_)
      exact bodyPost_ret (res_cell2 Try.results21 rfl (hHn.setRow_same.load (P := Try.prog) 25 Try.underlying25 rfl icmp_info) rfl) rfl ⟨⟨none, 0, 2, rfl, hq, zero7_ok, OwnB.nil _ _⟩, hB.trans (below_setRow'.mono (by omega))⟩
  · have h8 : 8 ≤ l.length := by omega
    have hm : l.length ≤ 65535 := by omega
    have hs : szerr l.length = 0 := by unfold szerr; rw [if_neg (by omega), if_neg (by omega)]
    have hsH := Lib.hid hs
    obtain ⟨ps, hps⟩ : ∃ ps, pse6 a b (l.length : Int) 58 = ps := ⟨_, rfl⟩
    rw [hps]
    obtain ⟨D, hD⟩ : ∃ D, parse7 l ps = D := ⟨_, rfl⟩
    obtain ⟨s, hse⟩ : ∃ s, perr7 l ps = s := ⟨_, rfl⟩
    rw [hD, hse]
    have hDH := Lib.hid hD
    have hseH := Lib.hid hse
    have hpsH := Lib.hid hps
    clear hs h1 hD hse hps
    go_enter Try.func21, Try.ntmps21
    go_wp2_with fail
    refine (sized_any A l.length c _ hbig).mono ?_
    rintro e w1 ⟨q, rfl, hq, rfl⟩
    obtain rfl : q = 0 := hq.out.trans hsH.out
    go_wp2_with (first | (refine wpList_load_row rfl 49 (.tmp 3) rfl w.heap.size rfl 49 (u8s a).toArray (0, 0) _ hHa Try.underlying49 rfl hia ?_) | (refine wpList_load_row rfl 49 (.tmp 4) rfl (w.heap.size + 1) rfl 49 (u8s b).toArray (0, 0) _ hHb Try.underlying49 rfl hib ?_))
    refine (pseudo6_ok a b ha hb ra rb 58 (l.length : Int) (by decide) (by decide) (by omega) (by omega) _).mono ?_
    rintro e w1 ⟨v1, rfl, ho1, hb1⟩
    have ho1 : OwnB w1 _ v1 (pse6 a b (l.length : Int) 58) := ho1
    rw [hpsH.out] at ho1
    obtain ⟨A1, k1, rfl, y1⟩ := ho1.by_
    have hHn := hHn.below hb1 hHn.lt
    have hB1 := hB.trans (hb1.mono hB.size)
    clear ho1 hb1 hB hHa hHb
    have hl1 := (hl.below hB1 (Nat.le_refl _)).more (B' := w1.heap.size) hB1.size
    go_wp2_with fail
    refine (parse_any A c l A1 k1 ps w1 hl1 y1 h8 hm).mono ?_
    rw [hDH.out, hseH.out]
    rintro e w2 ⟨⟨A', c', s', rfl, hs', hok, ho⟩, hb2⟩
    have hH2 := hHn.below hb2 hHn.lt
    have ho2 := (ho.setRow (g := w.heap.size + 1 + 1) (cs := D.cells A' c') hHn.lt).more hB1.size
    have hB2 := (hB1.trans (hb2.mono hB1.size)).trans ((below_setRow' (w := w2) (g := w.heap.size + 1 + 1) (cs := D.cells A' c')).mono (by omega))
    clear ho hb2 hHn
    go_wp2_with (refine wpList_store_row rfl 25 (.tmp 6) (.tmp 32) rfl (w.heap.size + 1 + 1) _ rfl rfl 25 _ hH2 icmp_info rfl (by simp [D7.cells, Value.oneCell']) ?_)
    exact bodyPost_ret (res_cell2 Try.results21 rfl (hH2.setRow_same.load (P := Try.prog) 25 Try.underlying25 rfl icmp_info) rfl) rfl ⟨⟨A', c', s', rfl, hs', hok, ho2⟩, hB2⟩
end Go.Proofs.YtgigdaemecokbaaRRR
