/-
  Lemmas and walks for the row of TosixRight (part 32 of 33).
-/
import Derived.Test.YtijnifbpbgckgaaTrAF
import Derived.Test.YtijnifbpbgckgaaTrAL
import Derived.Test.YtijnifbpbgckgaaTrBC
import Derived.Test.YtijnifbpbgckgaaTrBE
set_option linter.unusedVariables false
set_option linter.unusedSimpArgs false
namespace Go.Proofs.Ytijnifbpbgckgaa
open Go.RowKit

/-- the checksum behind a change, as a residue -/
theorem update_mod {s : Int} (hs : 0 ≤ s ∧ s < 65536) {f t : List Int} (hf : InB f) (ht : InB t) (hl : f.length = t.length) (he : t.length % 2 = 0) :
    (updateS s f t).1 % 65535 = (s + wt f - wt t) % 65535 := by
  have hc : (updateS s f t).1 = 65535 - fold (fold (65535 - s) (neg (wds f))) (wds t) := by
    unfold updateS changedS
    rw [if_pos ⟨hl, he⟩, if_pos ⟨hl, he⟩]
  have h1 := neg_rng _ (wds_rng f hf)
  have h2 := wds_rng t ht
  have n1 := tot_nonneg _ h1
  have n2 := tot_nonneg _ h2
  rw [hc, fold_tot (65535 - s) (by omega) _ h1, fold_cs _ h2 _ (by omega)]
  have hm := cs_mod (65535 - s + tot (neg (wds f)) + tot (wds t)) (by omega)
  have e : tot (neg (wds f)) = 65535 * ((wds f).length : Int) - wt f := tot_neg (wds f)
  rw [e] at hm
  rw [e]
  have ew : tot (wds t) = wt t := rfl
  rw [ew] at hm ⊢
  omega
theorem cs_full {T : Int} (h : 0 < T) (hm : T % 65535 = 0) : cs T = 65535 := by unfold cs; rw [if_neg (by omega)]; omega
/-- the pseudo header of IPv4 -/
def pse4r (a b : List Int) (n p : Int) : List Int := a ++ b ++ [0, p, n / 256, n % 256]
theorem pse4r_rng {a b : List Int} (ha : InB a) (hb : InB b) {n p : Int} (hn : 0 ≤ n ∧ n < 65536) (hp : 0 ≤ p ∧ p ≤ 255) : InB (pse4r a b n p) :=
  (ha.app hb).app fun x hx => by
    simp only [List.mem_cons, List.not_mem_nil, or_false] at hx
    omega
theorem wt_pse4r {a b : List Int} (ha : a.length = 4) (hb : b.length = 4) (n p : Int) : wt (pse4r a b n p) = wt a + wt b + p + (n / 256 * 256 + n % 256) := by
  unfold pse4r
  rw [wt_append _ _ (by simp [ha, hb]), wt_append _ _ (by simp [ha]), show [0, p, n / 256, n % 256] = [0, p] ++ [n / 256, n % 256] from rfl, wt_append _ _ (by simp), wt_two, wt_two]
  omega
theorem wt_pse6 {a b : List Int} (ha : a.length = 16) (hb : b.length = 16) (n p : Int) : wt (pse6 a b n p) = wt a + wt b + p + (n / 256 * 256 + n % 256) := by
  unfold pse6
  rw [wt_append _ _ (by simp [ha, hb]), wt_append _ _ (by simp [ha]), show [0, 0, n / 256, n % 256, 0, 0, 0, p] = [0, 0] ++ ([n / 256, n % 256] ++ ([0, 0] ++ [0, p])) from rfl, wt_append _ _ (by simp), wt_append _ _ (by simp), wt_append _ _ (by simp), wt_two, wt_two, wt_two]
  omega
theorem wt_from17 (d : D4) : wt (from17 d) = wt d.src + wt d.dst := by
  unfold from17
  rw [wt_append _ _ (by simp [D4.src, D4.dst]), wt_append _ _ (by simp [D4.src]), show wt (List.replicate 24 0) = 0 from by decide]
  omega
theorem from17_rng {d : D4} (h : d.ok) : InB (from17 d) := (h.src.app h.dst).app fun x hx => by
  rw [List.eq_of_mem_replicate hx]; decide

/-- bytes with two in their midst -/
theorem mid17 {b : List Int} {k : Nat} (h : k + 2 ≤ b.length) : ∃ a x y c, b = a ++ x :: y :: c ∧ a.length = k := by
  refine ⟨b.take k, b[k], b[k + 1], b.drop (k + 2), ?_, by rw [List.length_take]; omega⟩
  rw [List.getElem_cons_drop, List.getElem_cons_drop, List.take_append_drop]
theorem two17_mid (a c : List Int) (x y : Int) : two17 (a ++ x :: y :: c) a.length = x * 256 + y := by
  induction a with
  | nil => rfl
  | cons h t ih => exact ih
theorem put17_mid (a c : List Int) (x y n : Int) : put17 (a ++ x :: y :: c) a.length n = a ++ n / 256 :: n % 256 :: c := by
  induction a with
  | nil => rfl
  | cons h t ih => exact congrArg (h :: ·) ih
theorem wt_mid {ps a c : List Int} (x y : Int) (hp : ps.length % 2 = 0) (ha : a.length % 2 = 0) : wt (ps ++ (a ++ x :: y :: c)) = wt ps + wt a + (x * 256 + y) + wt c := by
  rw [wt_append _ _ hp, wt_append _ _ ha, show x :: y :: c = [x, y] ++ c from rfl, wt_append _ _ (by simp), wt_two]
  omega
theorem mid_rng {a c : List Int} {x y : Int} (h : InB (a ++ x :: y :: c)) : InB a ∧ InB c ∧ (0 ≤ x ∧ x ≤ 255) ∧ 0 ≤ y ∧ y ≤ 255 :=
  ⟨fun z hz => h z (List.mem_append_left _ hz), fun z hz => h z (List.mem_append_right _ (List.mem_cons_of_mem _ (List.mem_cons_of_mem _ hz))), h x (by simp), h y (by simp)⟩
theorem mid_sum {ps a c : List Int} {n : Int} (hp : InB ps) (ha : InB a) (hc : InB c) (hn : 0 ≤ n ∧ n < 65536) (ep : ps.length % 2 = 0) (ea : a.length % 2 = 0) (hpos : 0 < wt ps) (hm : (wt ps + wt a + n + wt c) % 65535 = 0) :
    sumw (ps ++ (a ++ n / 256 :: n % 256 :: c)) = 65535 := by
  have h2 : InB (n / 256 :: n % 256 :: c) := by
    intro x hx
    rcases List.mem_cons.1 hx with rfl | hx
    · omega
    rcases List.mem_cons.1 hx with rfl | hx
    · omega
    · exact hc x hx
  have na := wt_nonneg _ ha
  have nc := wt_nonneg _ hc
  rw [sumw_wt _ (hp.app (ha.app h2)), wt_mid _ _ ep ea, show n / 256 * 256 + n % 256 = n from by omega]
  exact cs_full (by omega) hm
theorem sum_mod {l : List Int} (h : InB l) (hs : sumw l = 65535) : wt l % 65535 = 0 := by
  rw [sumw_wt _ h] at hs
  have := cs_mod _ (wt_nonneg _ h)
  omega

/-- what is carried over stays right -/
theorem carry_right {udp : Bool} {f t ps ps' b : List Int} {k : Nat} (hk : k + 2 ≤ b.length) (ek : k % 2 = 0) (hb : InB b) (hp : InB ps) (hp' : InB ps') (hf : InB f) (ht : InB t) (ep : ps.length % 2 = 0) (ep' : ps'.length % 2 = 0)
    (hl : f.length = t.length) (he : t.length % 2 = 0) (hw : wt ps - wt f = wt ps' - wt t) (hpos : 0 < wt ps') (hs : sumw (ps ++ b) = 65535) : sumw (ps' ++ carry17 udp f t b k) = 65535 := by
  obtain ⟨a, x, y, c, rfl, rfl⟩ := mid17 hk
  obtain ⟨ra, rc, rx, ry⟩ := mid_rng hb
  have hm := sum_mod (hp.app hb) hs
  rw [wt_mid _ _ ep ek] at hm
  have hu := update_mod (s := x * 256 + y) (by omega) hf ht hl he
  have hr := updateS_rng (x * 256 + y) (by omega) f t hf ht
  have hq : (fix17 udp (updateS (x * 256 + y) f t).1) % 65535 = (updateS (x * 256 + y) f t).1 % 65535 := by unfold fix17; split <;> omega
  unfold carry17
  rw [two17_mid, put17_mid]
  exact mid_sum hp' ra rc (fix17_rng hr) ep' ek hpos (by omega)
/-- what is reckoned anew is right -/
theorem fresh_right {ps b : List Int} {k : Nat} (hk : k + 2 ≤ b.length) (ek : k % 2 = 0) (hb : InB b) (hp : InB ps) (ep : ps.length % 2 = 0) (hpos : 0 < wt ps) (h0 : b.getD k 0 = 0) (h1 : b.getD (k + 1) 0 = 0) :
    sumw (ps ++ put17 b k (fix17 true (65535 - sumw (ps ++ b)))) = 65535 := by
  obtain ⟨a, x, y, c, rfl, rfl⟩ := mid17 hk
  obtain ⟨ra, rc, rx, ry⟩ := mid_rng hb
  obtain rfl : x = 0 := by rw [← h0, List.getD_eq_getElem?_getD, List.getElem?_append_right (Nat.le_refl _), Nat.sub_self]; rfl
  obtain rfl : y = 0 := by rw [← h1, List.getD_eq_getElem?_getD, List.getElem?_append_right (by omega), Nat.add_sub_cancel_left]; rfl
  have hr := sumw_rng _ (hp.app hb)
  have hm := cs_mod _ (wt_nonneg _ (hp.app hb))
  rw [← sumw_wt _ (hp.app hb), wt_mid _ _ ep ek] at hm
  have hq : (fix17 true (65535 - sumw (ps ++ (a ++ 0 :: 0 :: c)))) % 65535 = (65535 - sumw (ps ++ (a ++ 0 :: 0 :: c))) % 65535 := by unfold fix17; split <;> omega
  rw [put17_mid]
  exact mid_sum hp ra rc (fix17_rng (by omega)) ep ek hpos (by omega)

/-- what Packet answers where there is an answer -/
theorem pack17_ok {d : D4} {s t s' t' : List Int} (h : (pack17 d s t s' t').2 = 0) :
    d.check = 0 ∧ (any17 d s t s' t').2 = 0 ∧ (pack17 d s t s' t').1 = head17 d s t (any17 d s t s' t').1 ∧ (head17 d s t (any17 d s t s' t').1).check = 0 := by
  unfold pack17 at h ⊢
  split at h
  · rename_i h0; exact absurd h h0
  split at h
  · exact absurd h (by decide)
  split at h
  · exact absurd h (by decide)
  split at h
  · rename_i h0; exact absurd h h0
  split at h
  · exact absurd h (by decide)
  · rename_i h0 h1 h2 h3 h4
    rw [if_neg h0, if_neg h1, if_neg h2, if_neg h3, if_neg h4]
    exact ⟨Decidable.not_not.1 h0, Decidable.not_not.1 h3, rfl, Decidable.not_not.1 h4⟩
theorem icmp17_ok {d : D4} {s t s' t' : List Int} (h : (icmp17 d s t s' t').2 = 0) :
    perr7 d.bl [] = 0 ∧ (msg17 (parse7 d.bl []) s' t').2 = 0 ∧ (icmp17 d s t s' t').1 = (msg17 (parse7 d.bl []) s' t').1.write (pse6 s t (8 + (msg17 (parse7 d.bl []) s' t').1.bl.length) 58) := by
  unfold icmp17 at h ⊢
  split at h
  · exact absurd h (by decide)
  split at h
  · rename_i h0; exact absurd h h0
  split at h
  · rename_i h0; exact absurd h h0
  · rename_i h0 h1 h2
    rw [if_neg h0, if_neg h1, if_neg h2]
    exact ⟨Decidable.not_not.1 h1, Decidable.not_not.1 h2, rfl⟩
theorem any17_seg {d : D4} {s t s' t' : List Int} (hp : d.proto = 6 ∨ d.proto = 17) : any17 d s t s' t' = body17 d s t := by unfold any17; rw [if_neg (by omega)]
/-- a segment's checksum stays right -/
theorem right17_seg {d : D4} {s t s' t' : List Int} (hd : d.ok) (hs : InB s) (ht : InB t) (sL : s.length = 16) (tL : t.length = 16) (hb : InB d.bl) (h : (pack17 d s t s' t').2 = 0) (ho : ¬ 0 < d.off) (hm : d.mf = false) (hp : d.proto = 6 ∨ d.proto = 17)
    (hz : (d.proto = 17 ∧ 8 ≤ d.bl.length ∧ d.bl.getD 6 0 = 0 ∧ d.bl.getD 7 0 = 0) ∨ sumw (pse4r d.src d.dst d.bl.length d.proto ++ d.bl) = 65535) :
    sumw (pse6 s t (pack17 d s t s' t').1.bl.length (pack17 d s t s' t').1.pro ++ (pack17 d s t s' t').1.bl) = 65535 := by
  obtain ⟨hc, he, hpk, -⟩ := pack17_ok h
  have hck := (d.ok_of_check hc).2.2.2
  rw [hpk]
  rw [any17_seg hp] at he ⊢
  have hpro : (head17 d s t (body17 d s t).1).pro = d.proto := by show pro17 d.proto = _; unfold pro17; rw [if_neg (by omega)]
  rw [hpro, show (head17 d s t (body17 d s t).1).bl = (body17 d s t).1 from rfl]
  obtain ⟨n, hn⟩ : ∃ n, (d.bl.length : Int) = n := ⟨_, rfl⟩
  have hw4 := wt_pse4r (a := d.src) (b := d.dst) rfl rfl n d.proto
  have hw6 := wt_pse6 sL tL n d.proto
  have hp8 : 0 ≤ d.proto ∧ d.proto ≤ 255 := by omega
  have r4 := pse4r_rng hd.src hd.dst (n := n) (by omega) hp8
  have r6 := pse6_rng hs ht (n := n) (by omega) hp8
  have l4 : (pse4r d.src d.dst n d.proto).length % 2 = 0 := by simp [pse4r, D4.src, D4.dst]
  have l6 : (pse6 s t n d.proto).length % 2 = 0 := by simp [pse6, sL, tL]
  have hst : (s ++ t).length = 32 := by simp [sL, tL]
  have wst : wt (s ++ t) = wt s + wt t := wt_append _ _ (by omega)
  have hf := wt_from17 d
  have ns := wt_nonneg _ hs
  have nt := wt_nonneg _ ht
  have hpos : 0 < wt (pse6 s t n d.proto) := by rw [hw6]; omega
  have hc2 : ∀ (udp : Bool) (k : Nat), k + 2 ≤ d.bl.length → k % 2 = 0 → sumw (pse4r d.src d.dst d.bl.length d.proto ++ d.bl) = 65535 → sumw (pse6 s t (carry17 udp (from17 d) (s ++ t) d.bl k).length d.proto ++ carry17 udp (from17 d) (s ++ t) d.bl k) = 65535 := fun udp k hk ek hr => by
    rw [carry17_len, hn]
    rw [hn] at hr
    exact carry_right hk ek hb r4 r6 (from17_rng hd) (hs.app ht) l4 l6 (by rw [from17_len, hst]) (by omega) (by rw [hw4, hw6, hf, wst]; omega) hpos hr
  rcases hp with hp | hp
  · have hr := hz.resolve_left (fun h => by omega)
    have e : body17 d s t = if d.bl.length < 20 then ([], 173) else (carry17 false (from17 d) (s ++ t) d.bl 16, 0) := by unfold body17; rw [if_neg ho, if_pos hp]
    rw [e] at he ⊢
    by_cases h20 : d.bl.length < 20
    · rw [if_pos h20] at he; exact absurd he (by decide)
    · rw [if_neg h20]; exact hc2 false 16 (by omega) rfl hr
  · have e : body17 d s t = if d.bl.length < 8 then ([], 173) else if d.bl.getD 6 0 = 0 ∧ d.bl.getD 7 0 = 0 then (if two17 d.bl 4 ≠ d.bl.length then ([], 173) else (put17 d.bl 6 (fix17 true (65535 - sumw (pse6 s t d.bl.length 17 ++ d.bl))), 0)) else (carry17 true (from17 d) (s ++ t) d.bl 6, 0) := by
      unfold body17; rw [if_neg ho, if_neg (by omega), if_pos hp, if_neg (by simp [hm] : ¬ d.mf = true)]
    rw [e] at he ⊢
    by_cases h8 : d.bl.length < 8
    · rw [if_pos h8] at he; exact absurd he (by decide)
    rw [if_neg h8] at he ⊢
    by_cases h0 : d.bl.getD 6 0 = 0 ∧ d.bl.getD 7 0 = 0
    · rw [if_pos h0] at he ⊢
      by_cases h2 : two17 d.bl 4 ≠ d.bl.length
      · rw [if_pos h2] at he; exact absurd he (by decide)
      · rw [if_neg h2]
        show sumw (pse6 s t (put17 d.bl 6 _).length d.proto ++ put17 d.bl 6 _) = 65535
        rw [put17_len, hn]
        rw [hp] at r6 l6 hpos ⊢
        exact fresh_right (by omega) rfl hb r6 l6 hpos h0.1 h0.2
    · rw [if_neg h0]
      exact hc2 true 6 (by omega) rfl (hz.resolve_left fun h => h0 h.2.2)
end Go.Proofs.Ytijnifbpbgckgaa
namespace Go.Proofs.Ytijnifbpbgckgaa
open Go.RowKit

theorem msg17_ok {m : D7} {s t : List Int} (hm : m.ok) : (msg17 m s t).1.ok := by
  unfold msg17
  split
  · exact zero7_ok
  split
  · exact zero7_ok
  split
  · exact kind17_ok hm _
  split
  · exact zero7_ok
  · exact kind17_ok hm _
/-- a message's checksum is right on the other side -/
theorem right17_icmp {d : D4} {s t s' t' : List Int} (hE : E6ok s t) (hb : InB d.bl) (h : (pack17 d s t s' t').2 = 0) (hr : InB (pack17 d s t s' t').1.bl) (hp : d.proto = 1) :
    sumw (pse6 s t (pack17 d s t s' t').1.bl.length (pack17 d s t s' t').1.pro ++ (pack17 d s t s' t').1.bl) = 65535 := by
  obtain ⟨hc, he, hpk, -⟩ := pack17_ok h
  rw [hpk] at hr ⊢
  have hpro : (head17 d s t (any17 d s t s' t').1).pro = 58 := by show pro17 d.proto = _; unfold pro17; rw [if_pos hp]
  rw [hpro, show (head17 d s t (any17 d s t s' t').1).bl = (any17 d s t s' t').1 from rfl]
  rw [show (head17 d s t (any17 d s t s' t').1).bl = (any17 d s t s' t').1 from rfl] at hr
  have ea : any17 d s t s' t' = icmp17 d s t s' t' := by unfold any17; rw [if_pos hp]
  rw [ea] at hr he ⊢
  obtain ⟨h1, h2, h3⟩ := icmp17_ok he
  have hl := msg17_len h2
  have hok := msg17_ok (s := s') (t := t') (parse7_ok (ps := []) hb)
  rw [h3] at hr ⊢
  generalize (msg17 (parse7 d.bl []) s' t').1 = m at *
  unfold D7.write at hr ⊢
  rw [if_neg (by omega)] at hr ⊢
  have hmb : InB m.bl := fun x hx => hr x (List.mem_append_right _ hx)
  rw [D7.bytes_len, show ((8 + m.bl.length : Nat) : Int) = 8 + (m.bl.length : Int) from by omega]
  exact sum_right m hok _ (pse6_rng hE.s hE.t (by omega) (by decide)) hmb (by simp [pse6, hE.sL, hE.tL])
end Go.Proofs.Ytijnifbpbgckgaa
namespace Go.Proofs.Ytijnifbpbgckgaa
open Go.RowKit Go.Shelf
attribute [local irreducible] wpList Code.wp Oper.wp wpOp wpAnyH

theorem rpseudo4_l {a0 a1 a2 a3 b0 b1 b2 b3 : Int} (ra : InB [a0, a1, a2, a3]) (rb : InB [b0, b1, b2, b3]) {p n : Int} (hp : 0 ≤ p ∧ p ≤ 255) (hn : 0 ≤ n ∧ n ≤ 65535) (w : World) :
  Calls Try.prog 61 #[.agg #[.int .u8 a0, .int .u8 a1, .int .u8 a2, .int .u8 a3], .agg #[.int .u8 b0, .int .u8 b1, .int .u8 b2, .int .u8 b3], .int .u8 p, .int .i64 n] w fun e w' => ∃ v, e = .returned v ∧ (∃ u, v = .tuple #[u, .int .i64 0] ∧ OwnB w' w.heap.size u (pse4r [a0, a1, a2, a3] [b0, b1, b2, b3] n p)) ∧ Below w.heap.size w w' := by
 refine (rpseudo4_ok [a0, a1, a2, a3] [b0, b1, b2, b3] rfl rfl ra rb p n hp.1 hp.2 hn.1 hn.2 w).mono fun e w' h => ?_
 obtain ⟨u, rfl, hO, hB⟩ := h
 exact ⟨_, rfl, ⟨u, rfl, hO⟩, hB⟩

set_option maxRecDepth 100000 in
set_option maxHeartbeats 4000000 in
theorem right4_any (d : D4) (p : W4) (w : World) (hR : Rd4 w.heap.size w d p) (hl : d.bl.length ≤ 65535) :
  Calls Try.prog 20 #[.agg (d.cells p)] w fun e w' => e = .returned (.bool (decide (sumw (pse4r d.src d.dst (d.bl.length : Int) d.proto ++ d.bl) = 65535))) ∧ Below w.heap.size w w' := by
 have yo := hR.opt
 have yb := hR.body
 go_enter Try.func20, Try.ntmps20
 refine wp_sr ?_
 refine lz (ow_box 27 (.tmp 0) _ rfl rfl ?_)
 intro g1 W2 hg3 ge4 sz5 hb6
 have z7 := hb6.size
 simp only [lay]
 refine lv (.bool false) (by exact xa) ?_
 simp only [lay]
 refine wn ?_
 refine wp_sr ?_
 refine lv (.pointer (some ⟨g1, 7, none⟩)) (by exact xf 7 3 Try.underlying27) ?_
 simp only [lay]
 refine lv (.agg #[.int .u8 d.s0, .int .u8 d.s1, .int .u8 d.s2, .int .u8 d.s3]) (by exact ex_loadAt (by exact rfl) (by exact rfl) (hg3.loadIn (P := Try.prog) 7 [.int .u8 d.s0, .int .u8 d.s1, .int .u8 d.s2, .int .u8 d.s3] (by kernel_rfl) 24 Try.underlying24 rfl (by kernel_rfl))) ?_
 simp only [lay]
 refine lv (.pointer (some ⟨g1, 11, none⟩)) (by exact xf 11 3 Try.underlying27) ?_
 simp only [lay]
 refine lv (.agg #[.int .u8 d.d0, .int .u8 d.d1, .int .u8 d.d2, .int .u8 d.d3]) (by exact ex_loadAt (by exact rfl) (by exact rfl) (hg3.loadIn (P := Try.prog) 11 [.int .u8 d.d0, .int .u8 d.d1, .int .u8 d.d2, .int .u8 d.d3] (by kernel_rfl) 24 Try.underlying24 rfl (by kernel_rfl))) ?_
 simp only [lay]
 refine lv (.pointer (some ⟨g1, 6, none⟩)) (by exact xf 6 0 Try.underlying27) ?_
 simp only [lay]
 refine lv (.int .u8 d.proto) (by exact xc Try.underlying5 (hg3.cell 6 rfl)) ?_
 simp only [lay]
 refine lv (.pointer (some ⟨g1, 16, none⟩)) (by exact xf 16 0 Try.underlying27) ?_
 simp only [lay]
 refine lv (.slice p.bA d.bl.length p.bc) (by exact xc Try.underlying25 (hg3.cell 16 rfl)) ?_
 simp only [lay]
 refine lv (.int .i64 (d.bl.length : Int)) (by exact xz Try.underlying25) ?_
 simp only [lay]
 refine lz (ow_call (fun v w' => (∃ u, v = .tuple #[u, .int .i64 0] ∧ OwnB w' W2.heap.size u (pse4r d.src d.dst (d.bl.length : Int) d.proto)) ∧ Below W2.heap.size W2 w') (by exact xk Try.func61) (rpseudo4_l hR.ok.src hR.ok.dst hR.ok.proto (by omega) W2) ?_)
 rintro _ W8 ⟨⟨u10, rfl, hO11⟩, hb9⟩
 have z12 := hb9.size
 obtain ⟨A13, c14, rfl, y15⟩ := hO11.by_
 simp only [lay]
 refine lv (.tuple #[.slice A13 ((pse4r d.src d.dst (d.bl.length : Int) d.proto).length) c14, .int .i64 0]) (by exact xm) ?_
 simp only [lay]
 refine lv (.slice A13 ((pse4r d.src d.dst (d.bl.length : Int) d.proto).length) c14) (by exact xe) ?_
 simp only [lay]
 refine lv (.int .i64 0) (by exact xe) ?_
 simp only [lay]
 refine lv (.slice A13 ((pse4r d.src d.dst (d.bl.length : Int) d.proto).length) c14) (by exact xa) ?_
 simp only [lay]
 refine lv (.int .i64 0) (by exact xa) ?_
 simp only [lay]
 refine wn ?_
 refine wp_sr ?_
 refine lv (.int .i64 0) (by exact xm) ?_
 simp only [lay]
 refine lv (.bool true) (by exact yq (h := (by decide))) ?_
 simp only [lay]
 refine lv (.bool true) (by exact xm) ?_
 simp only [lay]
 refine lv (.slice A13 ((pse4r d.src d.dst (d.bl.length : Int) d.proto).length) c14) (by exact xm) ?_
 simp only [lay]
 refine lv (.pointer (some ⟨g1, 16, none⟩)) (by exact xf 16 0 Try.underlying27) ?_
 simp only [lay]
 have has16 := hg3.to hb9
 refine lv (.slice p.bA d.bl.length p.bc) (by exact xc Try.underlying25 (has16.cell 16 rfl)) ?_
 simp only [lay]
 refine lz (ow_build [.slice A13 ((pse4r d.src d.dst (d.bl.length : Int) d.proto).length) c14, .slice p.bA d.bl.length p.bc] rfl Try.underlying106 (by kernel_rfl) (by kernel_rfl) rfl (by decide) (by decide) (by first | rfl | (simp only [List.map_toArray, List.map_cons, List.map_nil] <;> rfl)) (by simp [Value.cells]) ?_)
 intro g17 W18 hg19 ge20 sz21 hb22
 have z23 := hb22.size
 simp only [lay]
 have own24 := hO11.to hb22
 have b25 := bt hb6 hb9
 have b26 := bt b25 hb22
 have by27 := yb.to b26
 refine lz (ow_call (fun v w' => v = .int .u16 (sumw (pse4r d.src d.dst (d.bl.length : Int) d.proto ++ d.bl)) ∧ Below W18.heap.size W18 w') (by exact xk Try.func60) (rfold2 hg19 (own_byS own24) by27 (by simp only [pse4r, D4.src, D4.dst, List.length_append, List.length_cons, List.length_nil]; omega)) ?_)
 rintro _ W28 ⟨rfl, hb29⟩
 have z30 := hb29.size
 simp only [lay]
 by_cases q31 : sumw (pse4r d.src d.dst (d.bl.length : Int) d.proto ++ d.bl) = 65535
 case pos =>
  refine lv (.bool true) (by exact yq) ?_
  simp only [lay]
  refine lv (.bool true) (by exact xp (b := true)) ?_
  simp only [lay]
  refine lv (.bool true) (by exact xa) ?_
  simp only [lay]
  refine wn ?_
  refine wp_ret ?_
  try simp only [Exit.then]
  have b32 := bt b26 hb29
  exact bodyPost_ret (res_one Try.results20 rfl) rfl ⟨by rw [decide_eq_true q31]; rfl, b32⟩
 refine lv (.bool false) (by exact yqn) ?_
 simp only [lay]
 refine lv (.bool false) (by exact xp (b := true)) ?_
 simp only [lay]
 refine lv (.bool false) (by exact xa) ?_
 simp only [lay]
 refine wn ?_
 refine wp_ret ?_
 try simp only [Exit.then]
 have b33 := bt b26 hb29
 exact bodyPost_ret (res_one Try.results20 rfl) rfl ⟨by rw [decide_eq_false q31]; rfl, b33⟩
set_option maxRecDepth 100000 in
set_option maxHeartbeats 4000000 in
theorem right6_any (d : D6) (p : W6) (w : World) (hR : Rd6 w.heap.size w d p) (hl : d.bl.length ≤ 65535) :
  Calls Try.prog 19 #[.agg (d.cells p)] w fun e w' => e = .returned (.bool (decide (sumw (pse6 d.src d.dst (d.bl.length : Int) d.pro ++ d.bl) = 65535))) ∧ Below w.heap.size w w' := by
 have yb6 := hR.body
 have sL := hR.ok.srcL
 have tL := hR.ok.dstL
 go_enter Try.func19, Try.ntmps19
 refine wp_sr ?_
 refine lz (ow_box 36 (.tmp 0) _ rfl rfl ?_)
 intro g1 W2 hg3 ge4 sz5 hb6
 have z7 := hb6.size
 simp only [lay]
 refine lv (.bool false) (by exact xa) ?_
 simp only [lay]
 refine wn ?_
 refine wp_sr ?_
 refine lv (.pointer (some ⟨g1, 3, none⟩)) (by exact xf 3 15 Try.underlying36) ?_
 simp only [lay]
 refine lv (.agg #[.int .u8 (d.src.getD 0 0), .int .u8 (d.src.getD 1 0), .int .u8 (d.src.getD 2 0), .int .u8 (d.src.getD 3 0), .int .u8 (d.src.getD 4 0), .int .u8 (d.src.getD 5 0), .int .u8 (d.src.getD 6 0), .int .u8 (d.src.getD 7 0), .int .u8 (d.src.getD 8 0), .int .u8 (d.src.getD 9 0), .int .u8 (d.src.getD 10 0), .int .u8 (d.src.getD 11 0), .int .u8 (d.src.getD 12 0), .int .u8 (d.src.getD 13 0), .int .u8 (d.src.getD 14 0), .int .u8 (d.src.getD 15 0)]) (by exact ex_loadAt (by exact rfl) (by exact rfl) (hg3.loadIn (P := Try.prog) 3 [.int .u8 (d.src.getD 0 0), .int .u8 (d.src.getD 1 0), .int .u8 (d.src.getD 2 0), .int .u8 (d.src.getD 3 0), .int .u8 (d.src.getD 4 0), .int .u8 (d.src.getD 5 0), .int .u8 (d.src.getD 6 0), .int .u8 (d.src.getD 7 0), .int .u8 (d.src.getD 8 0), .int .u8 (d.src.getD 9 0), .int .u8 (d.src.getD 10 0), .int .u8 (d.src.getD 11 0), .int .u8 (d.src.getD 12 0), .int .u8 (d.src.getD 13 0), .int .u8 (d.src.getD 14 0), .int .u8 (d.src.getD 15 0)] (by kernel_rfl) 29 Try.underlying29 rfl (by kernel_rfl))) ?_
 simp only [lay]
 refine lv (.pointer (some ⟨g1, 19, none⟩)) (by exact xf 19 15 Try.underlying36) ?_
 simp only [lay]
 refine lv (.agg #[.int .u8 (d.dst.getD 0 0), .int .u8 (d.dst.getD 1 0), .int .u8 (d.dst.getD 2 0), .int .u8 (d.dst.getD 3 0), .int .u8 (d.dst.getD 4 0), .int .u8 (d.dst.getD 5 0), .int .u8 (d.dst.getD 6 0), .int .u8 (d.dst.getD 7 0), .int .u8 (d.dst.getD 8 0), .int .u8 (d.dst.getD 9 0), .int .u8 (d.dst.getD 10 0), .int .u8 (d.dst.getD 11 0), .int .u8 (d.dst.getD 12 0), .int .u8 (d.dst.getD 13 0), .int .u8 (d.dst.getD 14 0), .int .u8 (d.dst.getD 15 0)]) (by exact ex_loadAt (by exact rfl) (by exact rfl) (hg3.loadIn (P := Try.prog) 19 [.int .u8 (d.dst.getD 0 0), .int .u8 (d.dst.getD 1 0), .int .u8 (d.dst.getD 2 0), .int .u8 (d.dst.getD 3 0), .int .u8 (d.dst.getD 4 0), .int .u8 (d.dst.getD 5 0), .int .u8 (d.dst.getD 6 0), .int .u8 (d.dst.getD 7 0), .int .u8 (d.dst.getD 8 0), .int .u8 (d.dst.getD 9 0), .int .u8 (d.dst.getD 10 0), .int .u8 (d.dst.getD 11 0), .int .u8 (d.dst.getD 12 0), .int .u8 (d.dst.getD 13 0), .int .u8 (d.dst.getD 14 0), .int .u8 (d.dst.getD 15 0)] (by kernel_rfl) 29 Try.underlying29 rfl (by kernel_rfl))) ?_
 simp only [lay]
 refine lv (.pointer (some ⟨g1, 40, none⟩)) (by exact xf 40 0 Try.underlying36) ?_
 simp only [lay]
 refine lv (.int .u8 d.pro) (by exact xc Try.underlying5 (hg3.cell 40 rfl)) ?_
 simp only [lay]
 refine lv (.pointer (some ⟨g1, 41, none⟩)) (by exact xf 41 0 Try.underlying36) ?_
 simp only [lay]
 refine lv (.slice p.bA d.bl.length p.bc) (by exact xc Try.underlying25 (hg3.cell 41 rfl)) ?_
 simp only [lay]
 refine lv (.int .i64 (d.bl.length : Int)) (by exact xz Try.underlying25) ?_
 simp only [lay]
 refine lz (ow_call (fun v w' => (∃ u, v = .tuple #[u, .int .i64 0] ∧ OwnB w' W2.heap.size u (pse6 d.src d.dst (d.bl.length : Int) d.pro)) ∧ Below W2.heap.size W2 w') (by exact xk Try.func59) (rpseudo6_l sL tL hR.ok.src hR.ok.dst hR.ok.pro (by omega) W2) ?_)
 rintro _ W8 ⟨⟨u10, rfl, hO11⟩, hb9⟩
 have z12 := hb9.size
 obtain ⟨A13, c14, rfl, y15⟩ := hO11.by_
 simp only [lay]
 refine lv (.tuple #[.slice A13 ((pse6 d.src d.dst (d.bl.length : Int) d.pro).length) c14, .int .i64 0]) (by exact xm) ?_
 simp only [lay]
 refine lv (.slice A13 ((pse6 d.src d.dst (d.bl.length : Int) d.pro).length) c14) (by exact xe) ?_
 simp only [lay]
 refine lv (.int .i64 0) (by exact xe) ?_
 simp only [lay]
 refine lv (.slice A13 ((pse6 d.src d.dst (d.bl.length : Int) d.pro).length) c14) (by exact xa) ?_
 simp only [lay]
 refine lv (.int .i64 0) (by exact xa) ?_
 simp only [lay]
 refine wn ?_
 refine wp_sr ?_
 refine lv (.int .i64 0) (by exact xm) ?_
 simp only [lay]
 refine lv (.bool true) (by exact yq (h := (by decide))) ?_
 simp only [lay]
 refine lv (.bool true) (by exact xm) ?_
 simp only [lay]
 refine lv (.slice A13 ((pse6 d.src d.dst (d.bl.length : Int) d.pro).length) c14) (by exact xm) ?_
 simp only [lay]
 refine lv (.pointer (some ⟨g1, 41, none⟩)) (by exact xf 41 0 Try.underlying36) ?_
 simp only [lay]
 have has16 := hg3.to hb9
 refine lv (.slice p.bA d.bl.length p.bc) (by exact xc Try.underlying25 (has16.cell 41 rfl)) ?_
 simp only [lay]
 refine lz (ow_build [.slice A13 ((pse6 d.src d.dst (d.bl.length : Int) d.pro).length) c14, .slice p.bA d.bl.length p.bc] rfl Try.underlying106 (by kernel_rfl) (by kernel_rfl) rfl (by decide) (by decide) (by first | rfl | (simp only [List.map_toArray, List.map_cons, List.map_nil] <;> rfl)) (by simp [Value.cells]) ?_)
 intro g17 W18 hg19 ge20 sz21 hb22
 have z23 := hb22.size
 simp only [lay]
 have own24 := hO11.to hb22
 have b25 := bt hb6 hb9
 have b26 := bt b25 hb22
 have by27 := yb6.to b26
 refine lz (ow_call (fun v w' => v = .int .u16 (sumw (pse6 d.src d.dst (d.bl.length : Int) d.pro ++ d.bl)) ∧ Below W18.heap.size W18 w') (by exact xk Try.func60) (rfold2 hg19 (own_byS own24) by27 (by simp only [pse6, List.length_append, List.length_cons, List.length_nil, sL, tL]; omega)) ?_)
 rintro _ W28 ⟨rfl, hb29⟩
 have z30 := hb29.size
 simp only [lay]
 by_cases q31 : sumw (pse6 d.src d.dst (d.bl.length : Int) d.pro ++ d.bl) = 65535
 case pos =>
  refine lv (.bool true) (by exact yq) ?_
  simp only [lay]
  refine lv (.bool true) (by exact xp (b := true)) ?_
  simp only [lay]
  refine lv (.bool true) (by exact xa) ?_
  simp only [lay]
  refine wn ?_
  refine wp_ret ?_
  try simp only [Exit.then]
  have b32 := bt b26 hb29
  exact bodyPost_ret (res_one Try.results19 rfl) rfl ⟨by rw [decide_eq_true q31]; rfl, b32⟩
 refine lv (.bool false) (by exact yqn) ?_
 simp only [lay]
 refine lv (.bool false) (by exact xp (b := true)) ?_
 simp only [lay]
 refine lv (.bool false) (by exact xa) ?_
 simp only [lay]
 refine wn ?_
 refine wp_ret ?_
 try simp only [Exit.then]
 have b33 := bt b26 hb29
 exact bodyPost_ret (res_one Try.results19 rfl) rfl ⟨by rw [decide_eq_false q31]; rfl, b33⟩
end Go.Proofs.Ytijnifbpbgckgaa
