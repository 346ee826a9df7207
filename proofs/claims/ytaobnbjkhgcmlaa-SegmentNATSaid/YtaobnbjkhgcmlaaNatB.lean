/-
  Merged by merge.py from Nat6 Law6K.
-/
import Derived.Test.YtaobnbjkhgcmlaaNatA
import Derived.Test.YtaobnbjkhgcmlaaPuA
import Derived.Test.YtaobnbjkhgcmlaaSg7
import Derived.Test.YtaobnbjkhgcmlaaSt7
import Derived.Test.YtaobnbjkhgcmlaaMake
import Derived.Test.YtaobnbjkhgcmlaaLaw6A
import Derived.Test.YtaobnbjkhgcmlaaReg7
import Derived.Test.YtaobnbjkhgcmlaaSg1
import Derived.Test.YtaobnbjkhgcmlaaArr4

section
/-
  What SegmentNAT calls, in the order of its calls: rows of contracts.
-/
namespace Go.Proofs.Ytaobnbjkhgcmlaa
open Go.RowKit Go.Shelf

theorem rw_zero {proto : Int} {l f t : List Int} (h : rwErr proto l f t = 0) : (proto = 6 ∨ proto = 17) ∧ 4 ≤ l.length ∧ f.length = t.length ∧ t.length % 2 = 0 := by
  unfold rwErr at h
  split at h
  · cases h
  · split at h
    · cases h
    · split at h
      · cases h
      · rename_i h1 h2 h3
        refine ⟨?_, by omega, ?_⟩
        · by_cases h6 : proto = 6
          · exact .inl h6
          · by_cases h7 : proto = 17
            · exact .inr h7
            · exact absurd ⟨h6, h7⟩ h1
        · exact Decidable.not_not.1 h3
theorem rw_any (proto : Int) (hp : 0 ≤ proto ∧ proto ≤ 255) (A : Option Addr) (c : Nat) (l : List Int) (A1 : Option Addr) (c1 : Nat) (f : List Int) (A2 : Option Addr) (c2 : Nat) (t : List Int) (src dst : Int) (hsr : 0 ≤ src ∧ src < 65536) (hds : 0 ≤ dst ∧ dst < 65536) (w : World) (y : By w.heap.size w A l.length c l) (y1 : By w.heap.size w A1 f.length c1 f) (y2 : By w.heap.size w A2 t.length c2 t) (hs : l.length ≤ 140737488355328) :
    Calls Try.prog 38 #[.int .u8 proto, .slice A l.length c, .slice A1 f.length c1, .slice A2 t.length c2, .int .u16 src, .int .u16 dst] w fun e w' => ToldB (rwBytes proto l f t src dst) (rwErr proto l f t) w e w' := by
  by_cases h0 : rwErr proto l f t = 0
  · obtain ⟨hpr, h4, hft, hev⟩ := rw_zero h0
    rw [h0]
    rcases hpr with rfl | rfl
    · exact rw_ok6 A c l A1 c1 f A2 c2 t src dst hsr hds w y y1 y2 hs h4 hft hev
    · exact rw_ok17 A c l A1 c1 f A2 c2 t src dst hsr hds w y y1 y2 hs h4 hft hev
  · have hb : rwBytes proto l f t src dst = [] := by unfold rwBytes; rw [if_pos h0]
    rw [hb]
    exact rw_err proto hp A c l A1 c1 f A2 c2 t src dst w y y1 y2 h0

theorem wt_zeros (l : List Int) : wt (List.replicate 24 0 ++ l) = wt l := by
  rw [wt_append _ _ (by simp)]
  have : wt (List.replicate 24 0) = 0 := by decide
  omega
theorem wt_four {x : DE} (hx : x.ok) : wt (x.a ++ x.b) = wt x.a + wt x.b := wt_append _ _ (by rw [hx.la])
theorem wt_six {x : DE} (hx : x.ok) : wt (x.c ++ x.d) = wt x.c + wt x.d := wt_append _ _ (by rw [hx.lc])
theorem len_four {x : DE} (hx : x.ok) : (x.a ++ x.b).length = 8 := by rw [List.length_append, hx.la, hx.lb]
theorem len_six {x : DE} (hx : x.ok) : (x.c ++ x.d).length = 32 := by rw [List.length_append, hx.lc, hx.ld]
theorem rng_four {x : DE} (hx : x.ok) : InB (x.a ++ x.b) := hx.ra.app hx.rb
theorem rng_six {x : DE} (hx : x.ok) : InB (x.c ++ x.d) := hx.rc.app hx.rd
/-- the addresses in sixteen bytes -/
def DE.wide (x : DE) : List Int := List.replicate 24 0 ++ (x.a ++ x.b)
theorem len_wide {x : DE} (hx : x.ok) : x.wide.length = 32 := by rw [DE.wide, List.length_append, List.length_replicate, len_four hx]
theorem rng_wide {x : DE} (hx : x.ok) : InB x.wide := InB.app (fun v hv => by rw [List.mem_replicate] at hv; omega) (rng_four hx)

set_option maxRecDepth 100000 in
theorem sixteen_any (A : Option Addr) (c : Nat) (l : List Int) (w : World) (y : By w.heap.size w A l.length c l) (hl : l.length = 8) :
    Calls Try.prog 40 #[.slice A l.length c] w fun e w' => ∃ v, e = .returned v ∧ OwnB w' w.heap.size v (List.replicate 24 0 ++ l) ∧ Below w.heap.size w w' := by
  rw [hl] at y ⊢
  go_enter Try.func40, Try.ntmps40
  go_wp2_with (first | (refine wpList_makeB rfl 24 _ _ rfl 24 24 rfl rfl Try.underlying24 info8 (by decide) (by decide) w.heap.size (Nat.le_refl _) ?_; intro w2 o2 hb2 hl2) | (refine wpList_appB _ rfl _ _ 24 rfl Try.underlying24 info8 w.heap.size _ _ rfl o2 w.heap.size _ _ _ _ rfl (y.below hb2 (Nat.le_refl _)) (by rw [List.length_replicate]; decide) (Nat.le_of_lt hl2) ?_; intro v3 w3 o3 hg3 _))
  have hb3 := hb2.trans (below_own o2.own hg3 (Nat.le_of_lt hl2))
  go_ret
  exact ⟨_, rfl, o3, hb3⟩

theorem DU.nat4 (u : DU) (hu : u.ok) (h : u.bl.length ≤ 65527) (hb : InB u.bl) {x y : DE} (hx : x.ok) (hy : y.ok) (src dst : Int) (hs : 0 ≤ src ∧ src < 65536) (hd : 0 ≤ dst ∧ dst < 65536) :
    rwErr 17 (u.bytes (pse4 x.a x.b (8 + (u.bl.length : Int)) 17)) (x.a ++ x.b) (y.a ++ y.b) = 0 ∧ uErr false (pse4 y.a y.b (8 + (u.bl.length : Int)) 17) (rwBytes 17 (u.bytes (pse4 x.a x.b (8 + (u.bl.length : Int)) 17)) (x.a ++ x.b) (y.a ++ y.b) src dst) = 0 ∧ uOf (rwBytes 17 (u.bytes (pse4 x.a x.b (8 + (u.bl.length : Int)) 17)) (x.a ++ x.b) (y.a ++ y.b) src dst) = u.to src dst ∧ (rwBytes 17 (u.bytes (pse4 x.a x.b (8 + (u.bl.length : Int)) 17)) (x.a ++ x.b) (y.a ++ y.b) src dst).length = 8 + u.bl.length := by
  have n1 := wt_nonneg _ hy.ra
  have n2 := wt_nonneg _ hy.rb
  have hw1 := wt_pse4 hx.la hx.lb (8 + (u.bl.length : Int)) 17
  have hw2 := wt_pse4 hy.la hy.lb (8 + (u.bl.length : Int)) 17
  have q := u.nat hu h (pse4 x.a x.b (8 + (u.bl.length : Int)) 17) (pse4 y.a y.b (8 + (u.bl.length : Int)) 17) (x.a ++ x.b) (y.a ++ y.b) src dst hs hd (pse4_rng hx.ra hx.rb (by omega) (by decide)) (pse4_rng hy.ra hy.rb (by omega) (by decide)) (rng_four hx) (rng_four hy) hb (by rw [pse4_len hx.la hx.lb]) (by rw [pse4_len hy.la hy.lb]) (by rw [len_four hx, len_four hy]) (by rw [len_four hy]) (by rw [hw1, hw2, wt_four hx, wt_four hy]; omega) (by rw [hw2]; omega)
  exact ⟨q.1, q.2.1, q.2.2.2.1, q.2.2.2.2⟩
theorem DU.nat6 (u : DU) (hu : u.ok) (h : u.bl.length ≤ 65527) (hb : InB u.bl) {x y : DE} (hx : x.ok) (hy : y.ok) (src dst : Int) (hs : 0 ≤ src ∧ src < 65536) (hd : 0 ≤ dst ∧ dst < 65536) :
    rwErr 17 (u.bytes (pse4 x.a x.b (8 + (u.bl.length : Int)) 17)) x.wide (y.c ++ y.d) = 0 ∧ uErr true (pse6 y.c y.d (8 + (u.bl.length : Int)) 17) (rwBytes 17 (u.bytes (pse4 x.a x.b (8 + (u.bl.length : Int)) 17)) x.wide (y.c ++ y.d) src dst) = 0 ∧ uOf (rwBytes 17 (u.bytes (pse4 x.a x.b (8 + (u.bl.length : Int)) 17)) x.wide (y.c ++ y.d) src dst) = u.to src dst ∧ (rwBytes 17 (u.bytes (pse4 x.a x.b (8 + (u.bl.length : Int)) 17)) x.wide (y.c ++ y.d) src dst).length = 8 + u.bl.length := by
  have n1 := wt_nonneg _ hy.rc
  have n2 := wt_nonneg _ hy.rd
  have hw1 := wt_pse4 hx.la hx.lb (8 + (u.bl.length : Int)) 17
  have hw2 := wt_pse6 hy.lc hy.ld (8 + (u.bl.length : Int)) 17
  have q := u.nat hu h (pse4 x.a x.b (8 + (u.bl.length : Int)) 17) (pse6 y.c y.d (8 + (u.bl.length : Int)) 17) x.wide (y.c ++ y.d) src dst hs hd (pse4_rng hx.ra hx.rb (by omega) (by decide)) (pse6_rng hy.rc hy.rd (by omega) (by decide)) (rng_wide hx) (rng_six hy) hb (by rw [pse4_len hx.la hx.lb]) (by rw [pse6_len hy.lc hy.ld]) (by rw [len_wide hx, len_six hy]) (by rw [len_six hy]) (by rw [hw1, hw2, DE.wide, wt_zeros, wt_four hx, wt_six hy]; omega) (by rw [hw2]; omega)
  exact ⟨q.1, q.2.2.1, q.2.2.2.1, q.2.2.2.2⟩
theorem DT.nat4 (t : DT) (ht : t.ok) (hc : t.check = 0) (ho : InB t.ol) (hb : InB t.bl) {x y : DE} (hx : x.ok) (hy : y.ok) (src dst : Int) (hs : 0 ≤ src ∧ src < 65536) (hd : 0 ≤ dst ∧ dst < 65536) :
    rwErr 6 (t.bytes (pse4 x.a x.b (20 + (t.ol.length : Int) + (t.bl.length : Int)) 6)) (x.a ++ x.b) (y.a ++ y.b) = 0 ∧ tErr (pse4 y.a y.b (20 + (t.ol.length : Int) + (t.bl.length : Int)) 6) (rwBytes 6 (t.bytes (pse4 x.a x.b (20 + (t.ol.length : Int) + (t.bl.length : Int)) 6)) (x.a ++ x.b) (y.a ++ y.b) src dst) = 0 ∧ tOf (rwBytes 6 (t.bytes (pse4 x.a x.b (20 + (t.ol.length : Int) + (t.bl.length : Int)) 6)) (x.a ++ x.b) (y.a ++ y.b) src dst) = t.to src dst ∧ (rwBytes 6 (t.bytes (pse4 x.a x.b (20 + (t.ol.length : Int) + (t.bl.length : Int)) 6)) (x.a ++ x.b) (y.a ++ y.b) src dst).length = 20 + t.ol.length + t.bl.length := by
  obtain ⟨k1, k2, k3, k4⟩ := DT.small hc
  have n1 := wt_nonneg _ hy.ra
  have n2 := wt_nonneg _ hy.rb
  have hw1 := wt_pse4 hx.la hx.lb (20 + (t.ol.length : Int) + (t.bl.length : Int)) 6
  have hw2 := wt_pse4 hy.la hy.lb (20 + (t.ol.length : Int) + (t.bl.length : Int)) 6
  exact t.nat ht hc (pse4 x.a x.b (20 + (t.ol.length : Int) + (t.bl.length : Int)) 6) (pse4 y.a y.b (20 + (t.ol.length : Int) + (t.bl.length : Int)) 6) (x.a ++ x.b) (y.a ++ y.b) src dst hs hd (pse4_rng hx.ra hx.rb (by omega) (by decide)) (pse4_rng hy.ra hy.rb (by omega) (by decide)) (rng_four hx) (rng_four hy) ho hb (by rw [pse4_len hx.la hx.lb]) (by rw [pse4_len hy.la hy.lb]) (by rw [len_four hx, len_four hy]) (by rw [len_four hy]) (by rw [hw1, hw2, wt_four hx, wt_four hy]; omega) (by rw [hw2]; omega)
theorem DT.nat6 (t : DT) (ht : t.ok) (hc : t.check = 0) (ho : InB t.ol) (hb : InB t.bl) {x y : DE} (hx : x.ok) (hy : y.ok) (src dst : Int) (hs : 0 ≤ src ∧ src < 65536) (hd : 0 ≤ dst ∧ dst < 65536) :
    rwErr 6 (t.bytes (pse4 x.a x.b (20 + (t.ol.length : Int) + (t.bl.length : Int)) 6)) x.wide (y.c ++ y.d) = 0 ∧ tErr (pse6 y.c y.d (20 + (t.ol.length : Int) + (t.bl.length : Int)) 6) (rwBytes 6 (t.bytes (pse4 x.a x.b (20 + (t.ol.length : Int) + (t.bl.length : Int)) 6)) x.wide (y.c ++ y.d) src dst) = 0 ∧ tOf (rwBytes 6 (t.bytes (pse4 x.a x.b (20 + (t.ol.length : Int) + (t.bl.length : Int)) 6)) x.wide (y.c ++ y.d) src dst) = t.to src dst ∧ (rwBytes 6 (t.bytes (pse4 x.a x.b (20 + (t.ol.length : Int) + (t.bl.length : Int)) 6)) x.wide (y.c ++ y.d) src dst).length = 20 + t.ol.length + t.bl.length := by
  obtain ⟨k1, k2, k3, k4⟩ := DT.small hc
  have n1 := wt_nonneg _ hy.rc
  have n2 := wt_nonneg _ hy.rd
  have hw1 := wt_pse4 hx.la hx.lb (20 + (t.ol.length : Int) + (t.bl.length : Int)) 6
  have hw2 := wt_pse6 hy.lc hy.ld (20 + (t.ol.length : Int) + (t.bl.length : Int)) 6
  exact t.nat ht hc (pse4 x.a x.b (20 + (t.ol.length : Int) + (t.bl.length : Int)) 6) (pse6 y.c y.d (20 + (t.ol.length : Int) + (t.bl.length : Int)) 6) x.wide (y.c ++ y.d) src dst hs hd (pse4_rng hx.ra hx.rb (by omega) (by decide)) (pse6_rng hy.rc hy.rd (by omega) (by decide)) (rng_wide hx) (rng_six hy) ho hb (by rw [pse4_len hx.la hx.lb]) (by rw [pse6_len hy.lc hy.ld]) (by rw [len_wide hx, len_six hy]) (by rw [len_six hy]) (by rw [hw1, hw2, DE.wide, wt_zeros, wt_four hx, wt_six hy]; omega) (by rw [hw2]; omega)

theorem nat_udp (u : DU) (A : Option Addr) (c : Nat) (hu : u.ok) (h : u.bl.length ≤ 65527) (hb : InB u.bl) {x y : DE} (hx : x.ok) (hy : y.ok) (src dst : Int) (hs : 0 ≤ src ∧ src < 65536) (hd : 0 ≤ dst ∧ dst < 65536) :
    ∃ L M N : List Int, (∀ W, RdU W.heap.size W u A c → Calls Try.prog 22 #[.agg (u8s x.a).toArray, .agg (u8s x.b).toArray, .agg (u.cells A c)] W fun e w' => ∃ v, e = .returned (.tuple #[v, .int .i64 0]) ∧ OwnB w' W.heap.size v L ∧ Below W.heap.size W w') ∧
      (∀ (A1 A2 A3 : Option Addr) (c1 c2 c3 : Nat) (W : World), By W.heap.size W A1 L.length c1 L → By W.heap.size W A2 (x.a ++ x.b).length c2 (x.a ++ x.b) → By W.heap.size W A3 (y.a ++ y.b).length c3 (y.a ++ y.b) → Calls Try.prog 38 #[.int .u8 17, .slice A1 L.length c1, .slice A2 (x.a ++ x.b).length c2, .slice A3 (y.a ++ y.b).length c3, .int .u16 src, .int .u16 dst] W fun e w' => ∃ v, e = .returned (.tuple #[v, .int .i64 0]) ∧ OwnB w' W.heap.size v M ∧ Below W.heap.size W w') ∧
      (∀ (A1 : Option Addr) (c1 : Nat) (W : World), By W.heap.size W A1 M.length c1 M → Calls Try.prog 26 #[.agg (u8s y.a).toArray, .agg (u8s y.b).toArray, .slice A1 M.length c1] W fun e w' => ∃ A' c' q, e = .returned (.tuple #[.agg ((u.to src dst).cells A' c'), .bool q, .int .i64 0]) ∧ OwnB w' W.heap.size (.slice A' (u.to src dst).bl.length c') (u.to src dst).bl ∧ Below W.heap.size W w') ∧
      (∀ (A1 A2 A3 : Option Addr) (c1 c2 c3 : Nat) (W : World), By W.heap.size W A1 L.length c1 L → By W.heap.size W A2 x.wide.length c2 x.wide → By W.heap.size W A3 (y.c ++ y.d).length c3 (y.c ++ y.d) → Calls Try.prog 38 #[.int .u8 17, .slice A1 L.length c1, .slice A2 x.wide.length c2, .slice A3 (y.c ++ y.d).length c3, .int .u16 src, .int .u16 dst] W fun e w' => ∃ v, e = .returned (.tuple #[v, .int .i64 0]) ∧ OwnB w' W.heap.size v N ∧ Below W.heap.size W w') ∧
      (∀ (A1 : Option Addr) (c1 : Nat) (W : World), By W.heap.size W A1 N.length c1 N → Calls Try.prog 28 #[.agg (u8s y.c).toArray, .agg (u8s y.d).toArray, .slice A1 N.length c1] W fun e w' => ∃ A' c', e = .returned (.tuple #[.agg ((u.to src dst).cells A' c'), .int .i64 0]) ∧ OwnB w' W.heap.size (.slice A' (u.to src dst).bl.length c') (u.to src dst).bl ∧ Below W.heap.size W w') := by
  obtain ⟨e1, e2, e3, e4⟩ := u.nat4 hu h hb hx hy src dst hs hd
  obtain ⟨f1, f2, f3, f4⟩ := u.nat6 hu h hb hx hy src dst hs hd
  have hl := u.bytes_len (pse4 x.a x.b (8 + (u.bl.length : Int)) 17)
  refine ⟨u.bytes (pse4 x.a x.b (8 + (u.bl.length : Int)) 17), rwBytes 17 (u.bytes (pse4 x.a x.b (8 + (u.bl.length : Int)) 17)) (x.a ++ x.b) (y.a ++ y.b) src dst, rwBytes 17 (u.bytes (pse4 x.a x.b (8 + (u.bl.length : Int)) 17)) x.wide (y.c ++ y.d) src dst, ?_, ?_, ?_, ?_, ?_⟩
  · intro W r
    refine (writeUDP4_any x.a x.b hx.la hx.lb hx.ra hx.rb u A c W r).mono ?_
    rintro e w' ⟨v, s, rfl, hs, ho, hb⟩
    obtain rfl : s = 0 := hs.out.trans (by rw [DU.err, if_neg (by omega)])
    rw [DU.write, if_neg (by omega)] at ho
    exact ⟨v, rfl, ho, hb⟩
  · intro A1 A2 A3 c1 c2 c3 W y1 y2 y3
    refine (rw_any 17 (by decide) A1 c1 _ A2 c2 _ A3 c3 _ src dst hs hd W y1 y2 y3 (by rw [hl]; omega)).mono ?_
    rintro e w' ⟨v, s, rfl, hs, ho, hb⟩
    obtain rfl : s = 0 := hs.out.trans e1
    exact ⟨v, rfl, ho, hb⟩
  · intro A1 c1 W y1
    refine (parseUDP4_any y.a y.b hy.la hy.lb hy.ra hy.rb A1 c1 _ W y1).mono ?_
    have en : ((rwBytes 17 (u.bytes (pse4 x.a x.b (8 + (u.bl.length : Int)) 17)) (x.a ++ x.b) (y.a ++ y.b) src dst).length : Int) = 8 + (u.bl.length : Int) := by rw [e4]; omega
    rw [en, e2, (uGot_ok e2).1, e3]
    rintro e w' ⟨A', c', rfl, _, ho, hb⟩
    exact ⟨A', c', _, rfl, ho, hb⟩
  · intro A1 A2 A3 c1 c2 c3 W y1 y2 y3
    refine (rw_any 17 (by decide) A1 c1 _ A2 c2 _ A3 c3 _ src dst hs hd W y1 y2 y3 (by rw [hl]; omega)).mono ?_
    rintro e w' ⟨v, s, rfl, hs, ho, hb⟩
    obtain rfl : s = 0 := hs.out.trans f1
    exact ⟨v, rfl, ho, hb⟩
  · intro A1 c1 W y1
    refine (parseUDP6_any y.c y.d hy.lc hy.ld hy.rc hy.rd A1 c1 _ W y1).mono ?_
    have en : ((rwBytes 17 (u.bytes (pse4 x.a x.b (8 + (u.bl.length : Int)) 17)) x.wide (y.c ++ y.d) src dst).length : Int) = 8 + (u.bl.length : Int) := by rw [f4]; omega
    rw [en, f2, (uGot_ok f2).1, f3]
    rintro e w' ⟨A', c', rfl, _, ho, hb⟩
    exact ⟨A', c', rfl, ho, hb⟩
theorem nat_tcp (t : DT) (p : WT) (ht : t.ok) (hc : t.check = 0) (ho : InB t.ol) (hb : InB t.bl) {x y : DE} (hx : x.ok) (hy : y.ok) (src dst : Int) (hs : 0 ≤ src ∧ src < 65536) (hd : 0 ≤ dst ∧ dst < 65536) :
    ∃ L M N : List Int, (∀ W, RdT W.heap.size W t p → Calls Try.prog 21 #[.agg (u8s x.a).toArray, .agg (u8s x.b).toArray, .agg (t.cells p)] W fun e w' => ∃ v, e = .returned (.tuple #[v, .int .i64 0]) ∧ OwnB w' W.heap.size v L ∧ Below W.heap.size W w') ∧
      (∀ (A1 A2 A3 : Option Addr) (c1 c2 c3 : Nat) (W : World), By W.heap.size W A1 L.length c1 L → By W.heap.size W A2 (x.a ++ x.b).length c2 (x.a ++ x.b) → By W.heap.size W A3 (y.a ++ y.b).length c3 (y.a ++ y.b) → Calls Try.prog 38 #[.int .u8 6, .slice A1 L.length c1, .slice A2 (x.a ++ x.b).length c2, .slice A3 (y.a ++ y.b).length c3, .int .u16 src, .int .u16 dst] W fun e w' => ∃ v, e = .returned (.tuple #[v, .int .i64 0]) ∧ OwnB w' W.heap.size v M ∧ Below W.heap.size W w') ∧
      (∀ (A1 : Option Addr) (c1 : Nat) (W : World), By W.heap.size W A1 M.length c1 M → Calls Try.prog 29 #[.agg (u8s y.a).toArray, .agg (u8s y.b).toArray, .slice A1 M.length c1] W fun e w' => ToldT (t.to src dst) 0 W e w') ∧
      (∀ (A1 A2 A3 : Option Addr) (c1 c2 c3 : Nat) (W : World), By W.heap.size W A1 L.length c1 L → By W.heap.size W A2 x.wide.length c2 x.wide → By W.heap.size W A3 (y.c ++ y.d).length c3 (y.c ++ y.d) → Calls Try.prog 38 #[.int .u8 6, .slice A1 L.length c1, .slice A2 x.wide.length c2, .slice A3 (y.c ++ y.d).length c3, .int .u16 src, .int .u16 dst] W fun e w' => ∃ v, e = .returned (.tuple #[v, .int .i64 0]) ∧ OwnB w' W.heap.size v N ∧ Below W.heap.size W w') ∧
      (∀ (A1 : Option Addr) (c1 : Nat) (W : World), By W.heap.size W A1 N.length c1 N → Calls Try.prog 31 #[.agg (u8s y.c).toArray, .agg (u8s y.d).toArray, .slice A1 N.length c1] W fun e w' => ToldT (t.to src dst) 0 W e w') := by
  obtain ⟨e1, e2, e3, e4⟩ := t.nat4 ht hc ho hb hx hy src dst hs hd
  obtain ⟨f1, f2, f3, f4⟩ := t.nat6 ht hc ho hb hx hy src dst hs hd
  obtain ⟨k1, k2, k3, k4⟩ := DT.small hc
  have hl := t.bytes_len (pse4 x.a x.b (20 + (t.ol.length : Int) + (t.bl.length : Int)) 6)
  refine ⟨t.bytes (pse4 x.a x.b (20 + (t.ol.length : Int) + (t.bl.length : Int)) 6), rwBytes 6 (t.bytes (pse4 x.a x.b (20 + (t.ol.length : Int) + (t.bl.length : Int)) 6)) (x.a ++ x.b) (y.a ++ y.b) src dst, rwBytes 6 (t.bytes (pse4 x.a x.b (20 + (t.ol.length : Int) + (t.bl.length : Int)) 6)) x.wide (y.c ++ y.d) src dst, ?_, ?_, ?_, ?_, ?_⟩
  · intro W r
    refine (writeTCP4_any x.a x.b hx.la hx.lb hx.ra hx.rb t p W r).mono ?_
    rintro e w' ⟨v, s, rfl, hs, ho, hb⟩
    obtain rfl : s = 0 := hs.out.trans hc
    rw [DT.write, if_pos hc] at ho
    exact ⟨v, rfl, ho, hb⟩
  · intro A1 A2 A3 c1 c2 c3 W y1 y2 y3
    refine (rw_any 6 (by decide) A1 c1 _ A2 c2 _ A3 c3 _ src dst hs hd W y1 y2 y3 (by rw [hl]; omega)).mono ?_
    rintro e w' ⟨v, s, rfl, hs, ho, hb⟩
    obtain rfl : s = 0 := hs.out.trans e1
    exact ⟨v, rfl, ho, hb⟩
  · intro A1 c1 W y1
    refine (parseTCP4_any y.a y.b hy.la hy.lb hy.ra hy.rb A1 c1 _ W y1).mono ?_
    have en : ((rwBytes 6 (t.bytes (pse4 x.a x.b (20 + (t.ol.length : Int) + (t.bl.length : Int)) 6)) (x.a ++ x.b) (y.a ++ y.b) src dst).length : Int) = 20 + (t.ol.length : Int) + (t.bl.length : Int) := by rw [e4]; omega
    rw [en, e2, tGot_ok e2, e3]
    exact fun _ _ h => h
  · intro A1 A2 A3 c1 c2 c3 W y1 y2 y3
    refine (rw_any 6 (by decide) A1 c1 _ A2 c2 _ A3 c3 _ src dst hs hd W y1 y2 y3 (by rw [hl]; omega)).mono ?_
    rintro e w' ⟨v, s, rfl, hs, ho, hb⟩
    obtain rfl : s = 0 := hs.out.trans f1
    exact ⟨v, rfl, ho, hb⟩
  · intro A1 c1 W y1
    refine (parseTCP6_any y.c y.d hy.lc hy.ld hy.rc hy.rd A1 c1 _ W y1).mono ?_
    have en : ((rwBytes 6 (t.bytes (pse4 x.a x.b (20 + (t.ol.length : Int) + (t.bl.length : Int)) 6)) x.wide (y.c ++ y.d) src dst).length : Int) = 20 + (t.ol.length : Int) + (t.bl.length : Int) := by rw [f4]; omega
    rw [en, f2, tGot_ok f2, f3]
    exact fun _ _ h => h
end Go.Proofs.Ytaobnbjkhgcmlaa
end

section
/-
  The walk of SegmentNAT.
-/
namespace Go.Proofs.Ytaobnbjkhgcmlaa
open Go.RowKit Go.Shelf

/-- a row of bytes held in a slot -/
structure RW where
  A : Option Addr
  c : Nat
  l : List Int
/-- what the regions of SegmentNAT lean on -/
structure S6N (B : Nat) (x y : DE) (u : DU) (A : Option Addr) (c : Nat) (t : DT) (p : WT) (r1 r2 r3 : RW) (w w' : World) : Prop where
  hE : Has w' w.heap.size (.cells x.cells 38 (0, 0))
  hY : Has w' (w.heap.size + 1) (.cells y.cells 38 (0, 0))
  hU : Has w' (w.heap.size + 1 + 1) (.cells (u.cells A c) 28 (0, 0))
  hT : Has w' (w.heap.size + 1 + 1 + 1) (.cells (t.cells p) 26 (0, 0))
  y1 : By B w' r1.A r1.l.length r1.c r1.l
  y2 : By B w' r2.A r2.l.length r2.c r2.l
  y3 : By B w' r3.A r3.l.length r3.c r3.l
  lt : w.heap.size + 1 + 1 + 1 < B
  hB : B ≤ w'.heap.size
  bel : Below w.heap.size w w'
/-- a segment parsed, behind a bound: other memory's cells may change -/
structure KO (g0 : Nat) (w' : World) (g : Nat) (D : DT) (p : WT) : Prop where
  has : Has w' g (.cells (D.cells p) 26 (0, 0))
  opt : OwnB w' g0 (.slice p.oA D.ol.length p.oc) D.ol
  row : OwnB w' g0 (.slice p.bA D.bl.length p.bc) D.bl
  ge : g0 ≤ g
theorem KO.below {g0 g : Nat} {w w' : World} {D : DT} {p : WT} (h : KO g0 w g D p) (hb : Below w.heap.size w w') : KO g0 w' g D p := ⟨h.has.below hb h.has.lt, h.opt.below hb, h.row.below hb, h.ge⟩
theorem KO.new {g0 : Nat} {w : World} {D : DT} {p : WT} {cs : Array Value} (ho : OwnB w g0 (.slice p.oA D.ol.length p.oc) D.ol) (hr : OwnB w g0 (.slice p.bA D.bl.length p.bc) D.bl) (hg : g0 ≤ w.heap.size) : KO g0 ((w.alloc (.cells cs 26)).setRow w.heap.size (D.cells p)) w.heap.size D p ∧ Below w.heap.size w ((w.alloc (.cells cs 26)).setRow w.heap.size (D.cells p)) :=
  have h := KT.new (cs := cs) ho.row hr.row
  ⟨⟨h.1.has, ho.below h.2, hr.below h.2, hg⟩, h.2⟩
theorem KO.set {g0 g G : Nat} {w : World} {D : DT} {p : WT} (h : KO g0 w g D p) (hG : G < g0) (k : Nat) (v : Value) : KO g0 (w.setCell ⟨G, k, none⟩ v) g D p := ⟨h.has.setCell_other (by have := h.ge; omega) k v, h.opt.setCell hG k v, h.row.setCell hG k v, h.ge⟩
section
variable {B : Nat} {x y : DE} {u : DU} {A : Option Addr} {c : Nat} {t : DT} {p : WT} {r1 r2 r3 : RW} {w w' w'' : World}
theorem S6N.keep (h : S6N B x y u A c t p r1 r2 r3 w w') (hb : Below B w' w'') : S6N B x y u A c t p r1 r2 r3 w w'' := by
  have hl := h.lt
  exact ⟨h.hE.below hb (by omega), h.hY.below hb (by omega), h.hU.below hb (by omega), h.hT.below hb hl, h.y1.below hb (Nat.le_refl _), h.y2.below hb (Nat.le_refl _), h.y3.below hb (Nat.le_refl _), hl, Nat.le_trans h.hB hb.size, h.bel.trans (hb.mono (by omega))⟩
theorem S6N.up (h : S6N B x y u A c t p r1 r2 r3 w w') : S6N w'.heap.size x y u A c t p r1 r2 r3 w w' := ⟨h.hE, h.hY, h.hU, h.hT, h.y1.more h.hB, h.y2.more h.hB, h.y3.more h.hB, Nat.lt_of_lt_of_le h.lt h.hB, Nat.le_refl _, h.bel⟩
theorem S6N.next (h : S6N B x y u A c t p r1 r2 r3 w w') (hb : Below w'.heap.size w' w'') : S6N w''.heap.size x y u A c t p r1 r2 r3 w w'' := (h.up.keep hb).up
theorem S6N.one (h : S6N B x y u A c t p r1 r2 r3 w w') {A' : Option Addr} {c' : Nat} {l : List Int} (y' : By B w' A' l.length c' l) : S6N B x y u A c t p ⟨A', c', l⟩ r2 r3 w w' := ⟨h.hE, h.hY, h.hU, h.hT, y', h.y2, h.y3, h.lt, h.hB, h.bel⟩
theorem S6N.two (h : S6N B x y u A c t p r1 r2 r3 w w') {A' : Option Addr} {c' : Nat} {l : List Int} (y' : By B w' A' l.length c' l) : S6N B x y u A c t p r1 ⟨A', c', l⟩ r3 w w' := ⟨h.hE, h.hY, h.hU, h.hT, h.y1, y', h.y3, h.lt, h.hB, h.bel⟩
theorem S6N.three (h : S6N B x y u A c t p r1 r2 r3 w w') {A' : Option Addr} {c' : Nat} {l : List Int} (y' : By B w' A' l.length c' l) : S6N B x y u A c t p r1 r2 ⟨A', c', l⟩ w w' := ⟨h.hE, h.hY, h.hU, h.hT, h.y1, h.y2, y', h.lt, h.hB, h.bel⟩
end

set_option maxRecDepth 100000 in
set_option maxHeartbeats 8000000 in
theorem nat_walk (x y : DE) (u : DU) (A : Option Addr) (c : Nat) (t : DT) (p : WT) (src dst : Int) (w : World) (hx : x.ok) (hy : y.ok) (ru : RdU w.heap.size w u A c) (rt : RdT w.heap.size w t p) (s0 : 0 ≤ src) (s1 : src < 65536) (d0 : 0 ≤ dst) (d1 : dst < 65536) :
    Calls Try.prog 12 #[.agg x.cells, .agg y.cells, .agg (u.cells A c), .agg (t.cells p), .int .u16 src, .int .u16 dst] w fun e w' => e = .returned (.bool true) ∧ Below w.heap.size w w' := by
  have hsr : 0 ≤ src ∧ src < 65536 := ⟨s0, s1⟩
  have hds : 0 ≤ dst ∧ dst < 65536 := ⟨d0, d1⟩
  clear s0 s1 d0 d1
  have hZ0 : S6N _ x y u A c t p ⟨none, 0, []⟩ ⟨none, 0, []⟩ ⟨none, 0, []⟩ w ((((w.alloc (.cells x.cells 38)).alloc (.cells y.cells 38)).alloc (.cells (u.cells A c) 28)).alloc (.cells (t.cells p) 26)) := ⟨(((Has.newAt rfl).alloc).alloc).alloc, ((Has.newAt (by simp)).alloc).alloc, (Has.newAt (by simp)).alloc, Has.newAt (by simp), By.nil _ _ _ (by decide), By.nil _ _ _ (by decide), By.nil _ _ _ (by decide), by simp, Nat.le_refl _, ((((Below.refl _ _).alloc (Nat.le_refl _) _).alloc (by simp) _).alloc (by simp; omega) _).alloc (by simp; omega) _⟩
  obtain ⟨F4, hF4⟩ : ∃ F, x.a ++ x.b = F := ⟨_, rfl⟩
  obtain ⟨G4, hG4⟩ : ∃ F, y.a ++ y.b = F := ⟨_, rfl⟩
  obtain ⟨G6, hG6⟩ : ∃ F, y.c ++ y.d = F := ⟨_, rfl⟩
  obtain ⟨FW, hFW⟩ : ∃ F, x.wide = F := ⟨_, rfl⟩
  have hFl : F4.length = 8 := by rw [← hF4, len_four hx]
  have kU : u.bl.length ≤ 65527 → _ := fun h => nat_udp u A c ru.ok h ru.body.rng hx hy src dst hsr hds
  have kT : t.check = 0 → _ := fun h => nat_tcp t p rt.ok h rt.opt.rng rt.body.rng hx hy src dst hsr hds
  rw [hF4, hG4, hG6, hFW] at kU kT
  have kS := fun A c W y => sixteen_any A c F4 W y hFl
  rw [show List.replicate 24 0 ++ F4 = FW from by rw [← hF4, ← hFW]; rfl] at kS
  have hF4H := Lib.hid hF4
  have hG4H := Lib.hid hG4
  have hG6H := Lib.hid hG6
  replace kU := Lib.hid kU
  replace kT := Lib.hid kT
  replace kS := Lib.hid kS
  clear hF4 hG4 hG6 hFW hFl
  go_enter Try.func12, Try.ntmps12
  go_wp2_with fail
  refine (awake_any _).mono ?_
  rintro e w1 ⟨rfl, hb⟩
  have hZ := hZ0.next hb
  clear hb hZ0
  go_wp2_with fail
  refine wp_region_held_drew (S := S6N w1.heap.size x y u A c t p ⟨none, 0, []⟩ ⟨none, 0, []⟩ ⟨none, 0, []⟩ w) (by kernel_rfl) (hZ.keep (below_drew _ _)) (fun hS => ?_)
  generalize w1.drew = W1 at hS ⊢
  -- REGION 3
  refine tk (i := 1) (.pointer (some ⟨w.heap.size, 0, none⟩)) hS rfl (by kernel_rfl) (by kernel_rfl) (by kernel_rfl) (fun _ _ _ h => h) (by kernel_rfl) (by intro _ _; exact ex_field 0 3 (by exact rfl) Try.underlying38 (by exact rfl) rfl (by kernel_rfl) (by exact rfl)) ?_
  simp only [Act.put, List.setIfInBounds_toArray, List.set_cons_zero, List.set_cons_succ]
  refine tk (i := 2) (.slice (some ⟨w.heap.size, 0, none⟩) 4 4) hS rfl (by kernel_rfl) (by kernel_rfl) (by kernel_rfl) (fun _ _ _ h => h) (by kernel_rfl) (by intro _ _; exact ex_arr (by exact rfl) Try.underlying34 (by kernel_rfl) (by exact rfl)) ?_
  simp only [Act.put, List.setIfInBounds_toArray, List.set_cons_zero, List.set_cons_succ]
  refine tk (i := 4) (.pointer (some ⟨w.heap.size, 4, none⟩)) hS rfl (by kernel_rfl) (by kernel_rfl) (by kernel_rfl) (fun _ _ _ h => h) (by kernel_rfl) (by intro _ _; exact ex_field 4 3 (by exact rfl) Try.underlying38 (by exact rfl) rfl (by kernel_rfl) (by exact rfl)) ?_
  simp only [Act.put, List.setIfInBounds_toArray, List.set_cons_zero, List.set_cons_succ]
  refine tk (i := 5) (.slice (some ⟨w.heap.size, 4, none⟩) 4 4) hS rfl (by kernel_rfl) (by kernel_rfl) (by kernel_rfl) (fun _ _ _ h => h) (by kernel_rfl) (by intro _ _; exact ex_arr (by exact rfl) Try.underlying34 (by kernel_rfl) (by exact rfl)) ?_
  simp only [Act.put, List.setIfInBounds_toArray, List.set_cons_zero, List.set_cons_succ]
  refine tk_one (by kernel_rfl) (op_build0 (i := 0) rfl (by kernel_rfl) rfl Try.underlying24 (by kernel_rfl) (fun _ hb => hS.keep (hb.mono hS.hB)) ?_)
  intro g W2 o3 hb hS2
  have o3 := o3.more (base' := w1.heap.size) hS.hB
  simp only [Act.put, List.setIfInBounds_toArray, List.set_cons_zero, List.set_cons_succ]
  refine tk_one (by kernel_rfl) (op_app (i := 3) (.tmp 39) (.tmp 41) _ rfl (by kernel_rfl) rfl Try.underlying24 (by kernel_rfl) w1.heap.size _ _ rfl (o3) _ _ _ _ _ rfl (By.mid hS2.hE (Nat.lt_of_le_of_lt (m := w.heap.size + 1 + 1 + 1) (by omega) hS2.lt) 0 4 x.a hx.ra hx.la (by decide) (DE.at_a hx)) (by decide) (hS2.hB) (fun _ hb => hS2.keep hb) ?_)
  intro v4 W3 o4 hb hS3
  rw [List.nil_append] at o4
  simp only [Act.put, List.setIfInBounds_toArray, List.set_cons_zero, List.set_cons_succ]
  refine tk_one (by kernel_rfl) (op_app (i := 6) (.tmp 42) (.tmp 44) _ rfl (by kernel_rfl) rfl Try.underlying24 (by kernel_rfl) w1.heap.size _ _ rfl (o4) _ _ _ _ _ rfl (By.mid hS3.hE (Nat.lt_of_le_of_lt (m := w.heap.size + 1 + 1 + 1) (by omega) hS3.lt) 4 4 x.b hx.rb hx.lb (by decide) (DE.at_b hx)) (by rw [hx.la]; decide) (hS3.hB) (fun _ hb => hS3.keep hb) ?_)
  intro v5 w3 o5 hb hS4
  rw [hF4H.out] at o5
  clear hb o3 o4
  simp only [Act.put, List.setIfInBounds_toArray, List.set_cons_zero, List.set_cons_succ]
  refine tk (i := 7) (v5) hS4 rfl (by kernel_rfl) (by kernel_rfl) (by kernel_rfl) (fun _ _ _ h => h) (by kernel_rfl) (by intro _ _; exact rfl) ?_
  simp only [Act.put, List.setIfInBounds_toArray, List.set_cons_zero, List.set_cons_succ]
  refine wpAnyH_done (by kernel_rfl) ?_ _
  obtain ⟨A13, c13, rfl, y7⟩ := o5.by_
  have hZ := (hS4.up).one y7
  clear hS hS2 hS3 hS4 o5 y7
  -- END 3
  go_wp2_with fail
  refine wp_region_held_drew (S := S6N w3.heap.size x y u A c t p ⟨A13, c13, F4⟩ ⟨none, 0, []⟩ ⟨none, 0, []⟩ w) (by kernel_rfl) (hZ.keep (below_drew _ _)) (fun hS => ?_)
  generalize w3.drew = W1 at hS ⊢
  -- REGION 4
  refine tk (i := 1) (.pointer (some ⟨w.heap.size + 1, 0, none⟩)) hS rfl (by kernel_rfl) (by kernel_rfl) (by kernel_rfl) (fun _ _ _ h => h) (by kernel_rfl) (by intro _ _; exact ex_field 0 3 (by exact rfl) Try.underlying38 (by exact rfl) rfl (by kernel_rfl) (by exact rfl)) ?_
  simp only [Act.put, List.setIfInBounds_toArray, List.set_cons_zero, List.set_cons_succ]
  refine tk (i := 2) (.slice (some ⟨w.heap.size + 1, 0, none⟩) 4 4) hS rfl (by kernel_rfl) (by kernel_rfl) (by kernel_rfl) (fun _ _ _ h => h) (by kernel_rfl) (by intro _ _; exact ex_arr (by exact rfl) Try.underlying34 (by kernel_rfl) (by exact rfl)) ?_
  simp only [Act.put, List.setIfInBounds_toArray, List.set_cons_zero, List.set_cons_succ]
  refine tk (i := 4) (.pointer (some ⟨w.heap.size + 1, 4, none⟩)) hS rfl (by kernel_rfl) (by kernel_rfl) (by kernel_rfl) (fun _ _ _ h => h) (by kernel_rfl) (by intro _ _; exact ex_field 4 3 (by exact rfl) Try.underlying38 (by exact rfl) rfl (by kernel_rfl) (by exact rfl)) ?_
  simp only [Act.put, List.setIfInBounds_toArray, List.set_cons_zero, List.set_cons_succ]
  refine tk (i := 5) (.slice (some ⟨w.heap.size + 1, 4, none⟩) 4 4) hS rfl (by kernel_rfl) (by kernel_rfl) (by kernel_rfl) (fun _ _ _ h => h) (by kernel_rfl) (by intro _ _; exact ex_arr (by exact rfl) Try.underlying34 (by kernel_rfl) (by exact rfl)) ?_
  simp only [Act.put, List.setIfInBounds_toArray, List.set_cons_zero, List.set_cons_succ]
  refine tk_one (by kernel_rfl) (op_build0 (i := 0) rfl (by kernel_rfl) rfl Try.underlying24 (by kernel_rfl) (fun _ hb => hS.keep (hb.mono hS.hB)) ?_)
  intro g W2 o3 hb hS2
  have o3 := o3.more (base' := w3.heap.size) hS.hB
  simp only [Act.put, List.setIfInBounds_toArray, List.set_cons_zero, List.set_cons_succ]
  refine tk_one (by kernel_rfl) (op_app (i := 3) (.tmp 46) (.tmp 48) _ rfl (by kernel_rfl) rfl Try.underlying24 (by kernel_rfl) w3.heap.size _ _ rfl (o3) _ _ _ _ _ rfl (By.mid hS2.hY (Nat.lt_of_le_of_lt (m := w.heap.size + 1 + 1 + 1) (by omega) hS2.lt) 0 4 y.a hy.ra hy.la (by decide) (DE.at_a hy)) (by decide) (hS2.hB) (fun _ hb => hS2.keep hb) ?_)
  intro v4 W3 o4 hb hS3
  rw [List.nil_append] at o4
  simp only [Act.put, List.setIfInBounds_toArray, List.set_cons_zero, List.set_cons_succ]
  refine tk_one (by kernel_rfl) (op_app (i := 6) (.tmp 49) (.tmp 51) _ rfl (by kernel_rfl) rfl Try.underlying24 (by kernel_rfl) w3.heap.size _ _ rfl (o4) _ _ _ _ _ rfl (By.mid hS3.hY (Nat.lt_of_le_of_lt (m := w.heap.size + 1 + 1 + 1) (by omega) hS3.lt) 4 4 y.b hy.rb hy.lb (by decide) (DE.at_b hy)) (by rw [hy.la]; decide) (hS3.hB) (fun _ hb => hS3.keep hb) ?_)
  intro v5 w4 o5 hb hS4
  rw [hG4H.out] at o5
  clear hb o3 o4
  simp only [Act.put, List.setIfInBounds_toArray, List.set_cons_zero, List.set_cons_succ]
  refine tk (i := 7) (v5) hS4 rfl (by kernel_rfl) (by kernel_rfl) (by kernel_rfl) (fun _ _ _ h => h) (by kernel_rfl) (by intro _ _; exact rfl) ?_
  simp only [Act.put, List.setIfInBounds_toArray, List.set_cons_zero, List.set_cons_succ]
  refine wpAnyH_done (by kernel_rfl) ?_ _
  obtain ⟨A14, c14, rfl, y7⟩ := o5.by_
  have hZ := (hS4.up).two y7
  clear hS hS2 hS3 hS4 o5 y7
  -- END 4
  go_wp2_with fail
  refine wp_region_held_drew (S := S6N w4.heap.size x y u A c t p ⟨A13, c13, F4⟩ ⟨A14, c14, G4⟩ ⟨none, 0, []⟩ w) (by kernel_rfl) (hZ.keep (below_drew _ _)) (fun hS => ?_)
  generalize w4.drew = W1 at hS ⊢
  -- REGION 5
  refine tk (i := 1) (.pointer (some ⟨w.heap.size + 1, 8, none⟩)) hS rfl (by kernel_rfl) (by kernel_rfl) (by kernel_rfl) (fun _ _ _ h => h) (by kernel_rfl) (by intro _ _; exact ex_field 8 15 (by exact rfl) Try.underlying38 (by exact rfl) rfl (by kernel_rfl) (by exact rfl)) ?_
  simp only [Act.put, List.setIfInBounds_toArray, List.set_cons_zero, List.set_cons_succ]
  refine tk (i := 2) (.slice (some ⟨w.heap.size + 1, 8, none⟩) 16 16) hS rfl (by kernel_rfl) (by kernel_rfl) (by kernel_rfl) (fun _ _ _ h => h) (by kernel_rfl) (by intro _ _; exact ex_arr (by exact rfl) Try.underlying36 (by kernel_rfl) (by exact rfl)) ?_
  simp only [Act.put, List.setIfInBounds_toArray, List.set_cons_zero, List.set_cons_succ]
  refine tk (i := 4) (.pointer (some ⟨w.heap.size + 1, 24, none⟩)) hS rfl (by kernel_rfl) (by kernel_rfl) (by kernel_rfl) (fun _ _ _ h => h) (by kernel_rfl) (by intro _ _; exact ex_field 24 15 (by exact rfl) Try.underlying38 (by exact rfl) rfl (by kernel_rfl) (by exact rfl)) ?_
  simp only [Act.put, List.setIfInBounds_toArray, List.set_cons_zero, List.set_cons_succ]
  refine tk (i := 5) (.slice (some ⟨w.heap.size + 1, 24, none⟩) 16 16) hS rfl (by kernel_rfl) (by kernel_rfl) (by kernel_rfl) (fun _ _ _ h => h) (by kernel_rfl) (by intro _ _; exact ex_arr (by exact rfl) Try.underlying36 (by kernel_rfl) (by exact rfl)) ?_
  simp only [Act.put, List.setIfInBounds_toArray, List.set_cons_zero, List.set_cons_succ]
  refine tk_one (by kernel_rfl) (op_build0 (i := 0) rfl (by kernel_rfl) rfl Try.underlying24 (by kernel_rfl) (fun _ hb => hS.keep (hb.mono hS.hB)) ?_)
  intro g W2 o3 hb hS2
  have o3 := o3.more (base' := w4.heap.size) hS.hB
  simp only [Act.put, List.setIfInBounds_toArray, List.set_cons_zero, List.set_cons_succ]
  refine tk_one (by kernel_rfl) (op_app (i := 3) (.tmp 53) (.tmp 55) _ rfl (by kernel_rfl) rfl Try.underlying24 (by kernel_rfl) w4.heap.size _ _ rfl (o3) _ _ _ _ _ rfl (By.mid hS2.hY (Nat.lt_of_le_of_lt (m := w.heap.size + 1 + 1 + 1) (by omega) hS2.lt) 8 16 y.c hy.rc hy.lc (by decide) (DE.at_c hy)) (by decide) (hS2.hB) (fun _ hb => hS2.keep hb) ?_)
  intro v4 W3 o4 hb hS3
  rw [List.nil_append] at o4
  simp only [Act.put, List.setIfInBounds_toArray, List.set_cons_zero, List.set_cons_succ]
  refine tk_one (by kernel_rfl) (op_app (i := 6) (.tmp 56) (.tmp 58) _ rfl (by kernel_rfl) rfl Try.underlying24 (by kernel_rfl) w4.heap.size _ _ rfl (o4) _ _ _ _ _ rfl (By.mid hS3.hY (Nat.lt_of_le_of_lt (m := w.heap.size + 1 + 1 + 1) (by omega) hS3.lt) 24 16 y.d hy.rd hy.ld (by decide) (DE.at_d hy)) (by rw [hy.lc]; decide) (hS3.hB) (fun _ hb => hS3.keep hb) ?_)
  intro v5 w5 o5 hb hS4
  rw [hG6H.out] at o5
  clear hb o3 o4
  simp only [Act.put, List.setIfInBounds_toArray, List.set_cons_zero, List.set_cons_succ]
  refine tk (i := 7) (v5) hS4 rfl (by kernel_rfl) (by kernel_rfl) (by kernel_rfl) (fun _ _ _ h => h) (by kernel_rfl) (by intro _ _; exact rfl) ?_
  simp only [Act.put, List.setIfInBounds_toArray, List.set_cons_zero, List.set_cons_succ]
  refine wpAnyH_done (by kernel_rfl) ?_ _
  obtain ⟨A15, c15, rfl, y7⟩ := o5.by_
  have hZ := (hS4.up).three y7
  clear hS hS2 hS3 hS4 o5 y7
  -- END 5
  by_cases hlen : u.bl.length ≤ 65527
  case' pos =>
    obtain ⟨L, M, N, q1, q2, q3, q4, q5⟩ := kU.out hlen
    replace q1 := Lib.hid q1
    replace q2 := Lib.hid q2
    replace q3 := Lib.hid q3
    replace q4 := Lib.hid q4
    replace q5 := Lib.hid q5
    go_wp2_with (first | (refine wl (.agg (u8s x.a).toArray) (by kernel_rfl) (by exact ex_loadAt (by exact rfl) (by exact rfl) (hZ.hE.loadAt (P := Try.prog) 0 (u8s x.a) (DE.at_a hx) 34 Try.underlying34 rfl (by rw [u8s_length, hx.la]; kernel_rfl))) ?_) | (refine wl (.agg (u8s x.b).toArray) (by kernel_rfl) (by exact ex_loadAt (by exact rfl) (by exact rfl) (hZ.hE.loadAt (P := Try.prog) 4 (u8s x.b) (DE.at_b hx) 34 Try.underlying34 rfl (by rw [u8s_length, hx.lb]; kernel_rfl))) ?_) | (refine wl (.agg (u.cells A c)) (by kernel_rfl) (by exact ex_load (by exact rfl) (by exact rfl) (hZ.hU.load (P := Try.prog) 28 Try.underlying28 rfl udp_info)) ?_))
    refine (q1.out _ ((ru.below hZ.bel (Nat.le_refl _)).more hZ.bel.size)).mono ?_
    rintro e w6 ⟨v, rfl, ho, hb⟩
    have hZ := hZ.next hb
    obtain ⟨A7, c7, rfl, y7⟩ := ho.by_
    clear hb ho
    go_wp2_with fail
    refine (q2.out _ _ _ _ _ _ _ y7 hZ.y1 hZ.y2).mono ?_
    rintro e w7 ⟨v, rfl, ho, hb⟩
    have hZ := hZ.next hb
    have y7 := (y7.below hb (Nat.le_refl _)).more hb.size
    obtain ⟨A8, c8, rfl, y8⟩ := ho.by_
    clear hb ho
    go_wp2_with (first | (refine wl (.agg (u8s y.a).toArray) (by kernel_rfl) (by exact ex_loadAt (by exact rfl) (by exact rfl) (hZ.hY.loadAt (P := Try.prog) 0 (u8s y.a) (DE.at_a hy) 34 Try.underlying34 rfl (by rw [u8s_length, hy.la]; kernel_rfl))) ?_) | (refine wl (.agg (u8s y.b).toArray) (by kernel_rfl) (by exact ex_loadAt (by exact rfl) (by exact rfl) (hZ.hY.loadAt (P := Try.prog) 4 (u8s y.b) (DE.at_b hy) 34 Try.underlying34 rfl (by rw [u8s_length, hy.lb]; kernel_rfl))) ?_))
    refine (q3.out _ _ _ y8).mono ?_
    rintro e w8 ⟨A9, c9, q, rfl, ho, hb⟩
    have y7 := (y7.below hb (Nat.le_refl _)).more hb.size
    have hN : Has (w8.alloc (.cells #[.int .u16 0, .int .u16 0, .slice none 0 0] 28)) w8.heap.size (.cells #[.int .u16 0, .int .u16 0, .slice none 0 0] 28 (0, 0)) := Has.newAt rfl
    have hnew := KD.new (cs := #[.int .u16 0, .int .u16 0, .slice none 0 0]) ho.row
    have hZ := (hZ.next hb).next hnew.2
    have k9 := hnew.1
    have y7 := (y7.below hnew.2 (Nat.le_refl _)).more hnew.2.size
    clear hb hnew ho y8
    go_wp2_with (refine wpList_store_row rfl 28 (.tmp 20) (.tmp 87) rfl w8.heap.size _ rfl rfl 28 _ hN udp_info rfl (by simp [DU.cells, DU.to, Value.oneCell']) ?_)
    clear hN
    generalize (w8.alloc (.cells #[.int .u16 0, .int .u16 0, .slice none 0 0] 28)).setRow w8.heap.size ((u.to src dst).cells A9 c9) = W8 at hZ k9 y7 ⊢
    generalize w8.heap.size = g9 at k9 ⊢
    refine (kS.out _ _ _ hZ.y1).mono ?_
    rintro e w9 ⟨v, rfl, ho, hb⟩
    have hZ := hZ.next hb
    have k9 := k9.below hb
    have y7 := (y7.below hb (Nat.le_refl _)).more hb.size
    obtain ⟨A10, c10, rfl, y10⟩ := ho.by_
    clear hb ho
    go_wp2_with fail
    refine (q4.out _ _ _ _ _ _ _ y7 y10 hZ.y3).mono ?_
    rintro e w10 ⟨v, rfl, ho, hb⟩
    have hZ := hZ.next hb
    have k9 := k9.below hb
    obtain ⟨A11, c11, rfl, y11⟩ := ho.by_
    clear hb ho y7 y10
    go_wp2_with (first | (refine wl (.agg (u8s y.c).toArray) (by kernel_rfl) (by exact ex_loadAt (by exact rfl) (by exact rfl) (hZ.hY.loadAt (P := Try.prog) 8 (u8s y.c) (DE.at_c hy) 36 Try.underlying36 rfl (by rw [u8s_length, hy.lc]; kernel_rfl))) ?_) | (refine wl (.agg (u8s y.d).toArray) (by kernel_rfl) (by exact ex_loadAt (by exact rfl) (by exact rfl) (hZ.hY.loadAt (P := Try.prog) 24 (u8s y.d) (DE.at_d hy) 36 Try.underlying36 rfl (by rw [u8s_length, hy.ld]; kernel_rfl))) ?_))
    refine (q5.out _ _ _ y11).mono ?_
    rintro e w11 ⟨A12, c12, rfl, ho, hb⟩
    have hN : Has (w11.alloc (.cells #[.int .u16 0, .int .u16 0, .slice none 0 0] 28)) w11.heap.size (.cells #[.int .u16 0, .int .u16 0, .slice none 0 0] 28 (0, 0)) := Has.newAt rfl
    have hnew := KD.new (cs := #[.int .u16 0, .int .u16 0, .slice none 0 0]) ho.row
    have hZ := (hZ.next hb).next hnew.2
    have k9 := (k9.below hb).below hnew.2
    have k12 := hnew.1
    have hbu := ((ru.below hZ.bel (Nat.le_refl _)).more hZ.bel.size).body
    have hWs : ((w11.alloc (.cells #[.int .u16 0, .int .u16 0, .slice none 0 0] 28)).setRow w11.heap.size ((u.to src dst).cells A12 c12)).heap.size = w11.heap.size + 1 := by simp
    have hnew2 := KD.new (D := u.to src dst) (cs := #[.int .u16 0, .int .u16 0, .slice none 0 0]) hbu
    rw [hWs, show (u.to src dst).cells A c = #[.int .u16 src, .int .u16 dst, .slice A u.bl.length c] from rfl] at hnew2
    have hb2 : Below ((w11.alloc (.cells #[.int .u16 0, .int .u16 0, .slice none 0 0] 28)).setRow w11.heap.size ((u.to src dst).cells A12 c12)).heap.size ((w11.alloc (.cells #[.int .u16 0, .int .u16 0, .slice none 0 0] 28)).setRow w11.heap.size ((u.to src dst).cells A12 c12)) ((((w11.alloc (.cells #[.int .u16 0, .int .u16 0, .slice none 0 0] 28)).setRow w11.heap.size ((u.to src dst).cells A12 c12)).alloc (.cells #[.int .u16 0, .int .u16 0, .slice none 0 0] 28)).setRow (w11.heap.size + 1) #[.int .u16 src, .int .u16 dst, .slice A u.bl.length c]) := by rw [hWs]; exact hnew2.2
    have hN2 : Has (((w11.alloc (.cells #[.int .u16 0, .int .u16 0, .slice none 0 0] 28)).setRow w11.heap.size ((u.to src dst).cells A12 c12)).alloc (.cells #[.int .u16 0, .int .u16 0, .slice none 0 0] 28)) (w11.heap.size + 1) (.cells #[.int .u16 0, .int .u16 0, .slice none 0 0] 28 (0, 0)) := Has.newAt (by simp)
    have u2 := hZ.hU.cell 2 (v := .slice A u.bl.length c) rfl
    have hZ := hZ.next hb2
    have k9 := k9.below hb2
    have k12 := k12.below hb2
    have k27 := hnew2.1
    clear hb hnew hnew2 ho y11 hb2 hWs
    go_wp2_with (first | (refine wpList_store_row rfl 28 (.tmp 25) (.tmp 107) rfl w11.heap.size _ rfl rfl 28 _ hN udp_info rfl (by simp [DU.cells, DU.to, Value.oneCell']) ?_) | (refine wpList_store_row rfl 28 (.tmp 27) (.tmp 113) rfl (w11.heap.size + 1) _ rfl rfl 28 _ hN2 udp_info rfl (by simp [Value.oneCell']) ?_) | (refine wpList_load_rowG (by kernel_rfl) 28 (.tmp 20) rfl (g9) rfl 28 ((u.to src dst).cells A9 c9) (0, 0) _ k9.has Try.underlying28 rfl udp_info ?_) | (refine wpList_load_rowG (by kernel_rfl) 28 (.tmp 27) rfl (_) rfl 28 ((u.to src dst).cells A c) (0, 0) _ k27.has Try.underlying28 rfl udp_info ?_))
    clear hN hN2
    generalize hW : (((w11.alloc (.cells #[.int .u16 0, .int .u16 0, .slice none 0 0] 28)).setRow w11.heap.size ((u.to src dst).cells A12 c12)).alloc (.cells #[.int .u16 0, .int .u16 0, .slice none 0 0] 28)).setRow (w11.heap.size + 1) #[.int .u16 src, .int .u16 dst, .slice A u.bl.length c] = W12 at hZ k9 k12 k27 ⊢
    generalize w11.heap.size + 1 = g27 at k27 ⊢
    clear hW
    generalize w11.heap.size = g12 at k12 ⊢
    refine (rsameU_any _ _ (u.to src dst) (u.to src dst) A9 A c9 c _ k9.row k27.row (Nat.le_refl _) (Nat.le_refl _)).mono ?_
    rintro e w12 ⟨b, rfl, hb, hbb⟩
    obtain rfl : b = true := by rw [hb.out, sameU_self]
    have hZ := hZ.next hbb
    have k12 := k12.below hbb
    have k27 := k27.below hbb
    clear hb hbb k9
    go_wp2_with (first | (refine wpList_load_rowG (by kernel_rfl) 28 (.tmp 25) rfl (g12) rfl 28 ((u.to src dst).cells A12 c12) (0, 0) _ k12.has Try.underlying28 rfl udp_info ?_) | (refine wpList_load_rowG (by kernel_rfl) 28 (.tmp 27) rfl (g27) rfl 28 ((u.to src dst).cells A c) (0, 0) _ k27.has Try.underlying28 rfl udp_info ?_))
    refine (rsameU_any _ _ (u.to src dst) (u.to src dst) A12 A c12 c _ k12.row k27.row (Nat.le_refl _) (Nat.le_refl _)).mono ?_
    rintro e w13 ⟨b, rfl, hb, hbb⟩
    obtain rfl : b = true := by rw [hb.out, sameU_self]
    have hZ := hZ.next hbb
    clear hb hbb k12 k27 q1 q2 q3 q4 q5
  case' neg =>
    go_wp2_with (first | (refine wl (.agg (u8s x.a).toArray) (by kernel_rfl) (by exact ex_loadAt (by exact rfl) (by exact rfl) (hZ.hE.loadAt (P := Try.prog) 0 (u8s x.a) (DE.at_a hx) 34 Try.underlying34 rfl (by rw [u8s_length, hx.la]; kernel_rfl))) ?_) | (refine wl (.agg (u8s x.b).toArray) (by kernel_rfl) (by exact ex_loadAt (by exact rfl) (by exact rfl) (hZ.hE.loadAt (P := Try.prog) 4 (u8s x.b) (DE.at_b hx) 34 Try.underlying34 rfl (by rw [u8s_length, hx.lb]; kernel_rfl))) ?_) | (refine wl (.agg (u.cells A c)) (by kernel_rfl) (by exact ex_load (by exact rfl) (by exact rfl) (hZ.hU.load (P := Try.prog) 28 Try.underlying28 rfl udp_info)) ?_))
    refine (writeUDP4_any x.a x.b hx.la hx.lb hx.ra hx.rb u A c _ ((ru.below hZ.bel (Nat.le_refl _)).more hZ.bel.size)).mono ?_
    rintro e w6 ⟨v, s, rfl, hs, ho, hb⟩
    generalize u.write _ = L4 at ho
    obtain rfl : s = 2 := hs.out.trans (by rw [DU.err, if_pos (by omega)])
    have hZ := hZ.next hb
    obtain ⟨A7, c7, rfl, y7⟩ := ho.by_
    clear hb ho hs y7
  all_goals
    clear hlen kU
    by_cases hc : t.check = 0
    case neg =>
      go_wp2_with (first | (refine wl (.agg (u8s x.a).toArray) (by kernel_rfl) (by exact ex_loadAt (by exact rfl) (by exact rfl) (hZ.hE.loadAt (P := Try.prog) 0 (u8s x.a) (DE.at_a hx) 34 Try.underlying34 rfl (by rw [u8s_length, hx.la]; kernel_rfl))) ?_) | (refine wl (.agg (u8s x.b).toArray) (by kernel_rfl) (by exact ex_loadAt (by exact rfl) (by exact rfl) (hZ.hE.loadAt (P := Try.prog) 4 (u8s x.b) (DE.at_b hx) 34 Try.underlying34 rfl (by rw [u8s_length, hx.lb]; kernel_rfl))) ?_) | (refine wl (.agg (t.cells p)) (by kernel_rfl) (by exact ex_load (by exact rfl) (by exact rfl) (hZ.hT.load (P := Try.prog) 26 Try.underlying26 rfl tcp_info)) ?_))
      refine (writeTCP4_any x.a x.b hx.la hx.lb hx.ra hx.rb t p _ ((rt.below hZ.bel (Nat.le_refl _)).more hZ.bel.size)).mono ?_
      rintro e v6 ⟨v, s, rfl, hs, ho, hb⟩
      rw [DT.write, if_neg hc] at ho
      have hs0 : s ≠ 0 := by rw [hs.out]; exact hc
      have hB := (hZ.next hb).bel
      obtain ⟨A7, c7, rfl, y7⟩ := ho.by_
      clear hb ho hs hc hZ y7 kT kS
      go_wp2
      go_ret
      exact ⟨rfl, hB⟩
    case pos =>
    obtain ⟨L, M, N, q1, q2, q3, q4, q5⟩ := kT.out hc
    replace q1 := Lib.hid q1
    replace q2 := Lib.hid q2
    replace q3 := Lib.hid q3
    replace q4 := Lib.hid q4
    replace q5 := Lib.hid q5
    clear hc
    go_wp2_with (first | (refine wl (.agg (u8s x.a).toArray) (by kernel_rfl) (by exact ex_loadAt (by exact rfl) (by exact rfl) (hZ.hE.loadAt (P := Try.prog) 0 (u8s x.a) (DE.at_a hx) 34 Try.underlying34 rfl (by rw [u8s_length, hx.la]; kernel_rfl))) ?_) | (refine wl (.agg (u8s x.b).toArray) (by kernel_rfl) (by exact ex_loadAt (by exact rfl) (by exact rfl) (hZ.hE.loadAt (P := Try.prog) 4 (u8s x.b) (DE.at_b hx) 34 Try.underlying34 rfl (by rw [u8s_length, hx.lb]; kernel_rfl))) ?_) | (refine wl (.agg (t.cells p)) (by kernel_rfl) (by exact ex_load (by exact rfl) (by exact rfl) (hZ.hT.load (P := Try.prog) 26 Try.underlying26 rfl tcp_info)) ?_))
    refine (q1.out _ ((rt.below hZ.bel (Nat.le_refl _)).more hZ.bel.size)).mono ?_
    rintro e v6 ⟨v, rfl, ho, hb⟩
    have hZ := hZ.next hb
    obtain ⟨A7, c7, rfl, y7⟩ := ho.by_
    clear hb ho
    go_wp2_with fail
    refine (q2.out _ _ _ _ _ _ _ y7 hZ.y1 hZ.y2).mono ?_
    rintro e v7 ⟨v, rfl, ho, hb⟩
    have hZ := hZ.next hb
    have y7 := (y7.below hb (Nat.le_refl _)).more hb.size
    obtain ⟨A8, c8, rfl, y8⟩ := ho.by_
    clear hb ho
    go_wp2_with (first | (refine wl (.agg (u8s y.a).toArray) (by kernel_rfl) (by exact ex_loadAt (by exact rfl) (by exact rfl) (hZ.hY.loadAt (P := Try.prog) 0 (u8s y.a) (DE.at_a hy) 34 Try.underlying34 rfl (by rw [u8s_length, hy.la]; kernel_rfl))) ?_) | (refine wl (.agg (u8s y.b).toArray) (by kernel_rfl) (by exact ex_loadAt (by exact rfl) (by exact rfl) (hZ.hY.loadAt (P := Try.prog) 4 (u8s y.b) (DE.at_b hy) 34 Try.underlying34 rfl (by rw [u8s_length, hy.lb]; kernel_rfl))) ?_))
    refine (q3.out _ _ _ y8).mono ?_
    rintro e v8 ⟨p9, rfl, _, ho, ho2, hb⟩
    have hN : Has (v8.alloc (.cells #[.int .u16 0, .int .u16 0, .int .u32 0, .int .u32 0, .int .u8 0, .int .u16 0, .int .u16 0, .slice none 0 0, .slice none 0 0] 26)) v8.heap.size (.cells #[.int .u16 0, .int .u16 0, .int .u32 0, .int .u32 0, .int .u8 0, .int .u16 0, .int .u16 0, .slice none 0 0, .slice none 0 0] 26 (0, 0)) := Has.newAt rfl
    have hnew := KO.new (cs := #[.int .u16 0, .int .u16 0, .int .u32 0, .int .u32 0, .int .u8 0, .int .u16 0, .int .u16 0, .slice none 0 0, .slice none 0 0]) (g0 := w.heap.size + 1 + 1 + 1 + 1) (ho.more hZ.lt) (ho2.more hZ.lt) (Nat.le_trans hZ.lt hb.size)
    have hZ := (hZ.next hb).next hnew.2
    have k9 := hnew.1
    have y7 := (((y7.below hb (Nat.le_refl _)).more hb.size).below hnew.2 (Nat.le_refl _)).more hnew.2.size
    clear hb hnew ho ho2 y8
    go_wp2_with (refine wpList_store_row rfl 26 (.tmp 31) (.tmp 170) rfl v8.heap.size _ rfl rfl 26 _ hN tcp_info rfl (by simp [DT.cells, Value.oneCell']) ?_)
    clear hN
    generalize (v8.alloc (.cells #[.int .u16 0, .int .u16 0, .int .u32 0, .int .u32 0, .int .u8 0, .int .u16 0, .int .u16 0, .slice none 0 0, .slice none 0 0] 26)).setRow v8.heap.size ((t.to src dst).cells p9) = W8 at hZ k9 y7 ⊢
    generalize v8.heap.size = g9 at k9 ⊢
    refine (kS.out _ _ _ hZ.y1).mono ?_
    rintro e v9 ⟨v, rfl, ho, hb⟩
    have hZ := hZ.next hb
    have k9 := k9.below hb
    have y7 := (y7.below hb (Nat.le_refl _)).more hb.size
    obtain ⟨A10, c10, rfl, y10⟩ := ho.by_
    clear hb ho
    go_wp2_with fail
    refine (q4.out _ _ _ _ _ _ _ y7 y10 hZ.y3).mono ?_
    rintro e v10 ⟨v, rfl, ho, hb⟩
    have hZ := hZ.next hb
    have k9 := k9.below hb
    obtain ⟨A11, c11, rfl, y11⟩ := ho.by_
    clear hb ho y7 y10
    go_wp2_with (first | (refine wl (.agg (u8s y.c).toArray) (by kernel_rfl) (by exact ex_loadAt (by exact rfl) (by exact rfl) (hZ.hY.loadAt (P := Try.prog) 8 (u8s y.c) (DE.at_c hy) 36 Try.underlying36 rfl (by rw [u8s_length, hy.lc]; kernel_rfl))) ?_) | (refine wl (.agg (u8s y.d).toArray) (by kernel_rfl) (by exact ex_loadAt (by exact rfl) (by exact rfl) (hZ.hY.loadAt (P := Try.prog) 24 (u8s y.d) (DE.at_d hy) 36 Try.underlying36 rfl (by rw [u8s_length, hy.ld]; kernel_rfl))) ?_))
    refine (q5.out _ _ _ y11).mono ?_
    rintro e v11 ⟨p12, rfl, _, ho, ho2, hb⟩
    have hN : Has (v11.alloc (.cells #[.int .u16 0, .int .u16 0, .int .u32 0, .int .u32 0, .int .u8 0, .int .u16 0, .int .u16 0, .slice none 0 0, .slice none 0 0] 26)) v11.heap.size (.cells #[.int .u16 0, .int .u16 0, .int .u32 0, .int .u32 0, .int .u8 0, .int .u16 0, .int .u16 0, .slice none 0 0, .slice none 0 0] 26 (0, 0)) := Has.newAt rfl
    have hnew := KO.new (cs := #[.int .u16 0, .int .u16 0, .int .u32 0, .int .u32 0, .int .u8 0, .int .u16 0, .int .u16 0, .slice none 0 0, .slice none 0 0]) (g0 := w.heap.size + 1 + 1 + 1 + 1) (ho.more hZ.lt) (ho2.more hZ.lt) (Nat.le_trans hZ.lt hb.size)
    have hZ := (hZ.next hb).next hnew.2
    have k9 := (k9.below hb).below hnew.2
    have k12 := hnew.1
    have t0 := hZ.hT.cell 0 (v := .int .u16 t.src) rfl
    have tf0 := hZ.hT.free 0
    have hT1 := hZ.hT.setCell 0 (.int .u16 src)
    have t1 := hT1.cell 1 (v := .int .u16 t.dst) rfl
    have tf1 := hT1.free 1
    have hT2 : Has ((((v11.alloc (.cells #[.int .u16 0, .int .u16 0, .int .u32 0, .int .u32 0, .int .u8 0, .int .u16 0, .int .u16 0, .slice none 0 0, .slice none 0 0] 26)).setRow v11.heap.size ((t.to src dst).cells p12)).setCell ⟨w.heap.size + 1 + 1 + 1, 0, none⟩ (.int .u16 src)).setCell ⟨w.heap.size + 1 + 1 + 1, 1, none⟩ (.int .u16 dst)) (w.heap.size + 1 + 1 + 1) (.cells ((t.to src dst).cells p) 26 (0, 0)) := hT1.setCell 1 (.int .u16 dst)
    have k9 := (k9.set (Nat.lt_succ_self _) 0 (.int .u16 src)).set (Nat.lt_succ_self _) 1 (.int .u16 dst)
    have k12 := (k12.set (Nat.lt_succ_self _) 0 (.int .u16 src)).set (Nat.lt_succ_self _) 1 (.int .u16 dst)
    have hB := below_setCell (below_setCell hZ.bel (show w.heap.size ≤ w.heap.size + 1 + 1 + 1 from by omega) 0 (.int .u16 src)) (show w.heap.size ≤ w.heap.size + 1 + 1 + 1 from by omega) 1 (.int .u16 dst)
    clear hb hnew ho ho2 y11 hZ hT1
    go_wp2_with (first | (refine wpList_store_row rfl 26 (.tmp 35) (.tmp 189) rfl v11.heap.size _ rfl rfl 26 _ hN tcp_info rfl (by simp [DT.cells, Value.oneCell']) ?_) | (refine wpList_load_rowG (by kernel_rfl) 26 (.tmp 31) rfl (g9) rfl 26 ((t.to src dst).cells p9) (0, 0) _ k9.has Try.underlying26 rfl tcp_info ?_) | (refine wpList_load_rowG (by kernel_rfl) 26 (.tmp 9) rfl (_) rfl 26 ((t.to src dst).cells p) (0, 0) _ hT2 Try.underlying26 rfl tcp_info ?_))
    clear hN t0 t1 tf0 tf1
    generalize hW : (((v11.alloc (.cells #[.int .u16 0, .int .u16 0, .int .u32 0, .int .u32 0, .int .u8 0, .int .u16 0, .int .u16 0, .slice none 0 0, .slice none 0 0] 26)).setRow v11.heap.size ((t.to src dst).cells p12)).setCell ⟨w.heap.size + 1 + 1 + 1, 0, none⟩ (.int .u16 src)).setCell ⟨w.heap.size + 1 + 1 + 1, 1, none⟩ (.int .u16 dst) = W12 at hT2 k9 k12 hB ⊢
    clear hW
    generalize v11.heap.size = g12 at k12 ⊢
    have rT := (rt.below hB (Nat.le_refl _)).more hB.size
    refine (rsameT_any _ _ (t.to src dst) (t.to src dst) p9 p _ k9.opt.row rT.opt k9.row.row rT.body (Nat.le_refl _) (Nat.le_refl _)).mono ?_
    rintro e v12 ⟨b, rfl, hb, hbb⟩
    obtain rfl : b = true := by rw [hb.out, sameT_self]
    have hT2 := hT2.below hbb hT2.lt
    have hB := hB.trans (hbb.mono hB.size)
    have k12 := k12.below hbb
    clear hb hbb k9 rT
    go_wp2_with (first | (refine wpList_load_rowG (by kernel_rfl) 26 (.tmp 35) rfl (g12) rfl 26 ((t.to src dst).cells p12) (0, 0) _ k12.has Try.underlying26 rfl tcp_info ?_) | (refine wpList_load_rowG (by kernel_rfl) 26 (.tmp 9) rfl (_) rfl 26 ((t.to src dst).cells p) (0, 0) _ hT2 Try.underlying26 rfl tcp_info ?_))
    have rT := (rt.below hB (Nat.le_refl _)).more hB.size
    refine (rsameT_any _ _ (t.to src dst) (t.to src dst) p12 p _ k12.opt.row rT.opt k12.row.row rT.body (Nat.le_refl _) (Nat.le_refl _)).mono ?_
    rintro e v13 ⟨b, rfl, hb, hbb⟩
    obtain rfl : b = true := by rw [hb.out, sameT_self]
    have hB := hB.trans (hbb.mono hB.size)
    clear hb hbb k12 rT hT2
    go_wp2
    go_ret
    exact ⟨rfl, hB⟩
end Go.Proofs.Ytaobnbjkhgcmlaa
end
