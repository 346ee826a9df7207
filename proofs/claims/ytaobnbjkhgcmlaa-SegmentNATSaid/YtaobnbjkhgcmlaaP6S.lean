/-
  The sum of what is written is 65535: in plain numbers; both addresses' kinds.
-/
import Derived.Test.YtaobnbjkhgcmlaaP6
namespace Go.Proofs.Ytaobnbjkhgcmlaa
open Go.RowKit

theorem cs_right {T : Int} (hT : 0 ≤ T) : cs (T + (65535 - cs T)) = 65535 := by unfold cs; split <;> split <;> omega
theorem cs_right_nz {T : Int} (hT : 0 ≤ T) : cs (T + nz (65535 - cs T)) = 65535 := by unfold nz cs; split <;> split <;> split <;> omega
theorem DU.split (u : DU) (s : Int) (ps : List Int) : ps ++ (u.first s ++ u.bl) = ((ps ++ [u.src / 256, u.src % 256, u.dst / 256, u.dst % 256, (8 + u.bl.length : Int) / 256, (8 + u.bl.length : Int) % 256]) ++ [s / 256, s % 256]) ++ u.bl := by simp [DU.first]
theorem DU.wt_first (u : DU) (s : Int) (ps : List Int) (he : ps.length % 2 = 0) : wt (ps ++ (u.first s ++ u.bl)) = wt (ps ++ (u.first 0 ++ u.bl)) + (s / 256 * 256 + s % 256) := by
  rw [DU.split, DU.split]
  have h1 : (ps ++ [u.src / 256, u.src % 256, u.dst / 256, u.dst % 256, (8 + u.bl.length : Int) / 256, (8 + u.bl.length : Int) % 256]).length % 2 = 0 := by simp; omega
  generalize (ps ++ [u.src / 256, u.src % 256, u.dst / 256, u.dst % 256, (8 + u.bl.length : Int) / 256, (8 + u.bl.length : Int) % 256]) = q at h1
  have h2 : ∀ t : Int, (q ++ [t / 256, t % 256]).length % 2 = 0 := fun t => by simp; omega
  rw [wt_append _ _ (h2 s), wt_append _ _ (h2 0), wt_append _ _ h1, wt_append _ _ h1, wt_two, wt_two]
  omega
theorem DU.bytes_rng {u : DU} (hu : u.ok) (h : u.bl.length ≤ 65527) {ps : List Int} (hp : InB ps) (hb : InB u.bl) : InB (u.bytes ps) := (DU.first_rng hu h (u.sum_rng hu h hp hb)).app hb
theorem DU.sum_right (u : DU) (hu : u.ok) (h : u.bl.length ≤ 65527) (ps : List Int) (hp : InB ps) (hb : InB u.bl) (he : ps.length % 2 = 0) : sumw (ps ++ u.bytes ps) = 65535 := by
  have hs := u.sum_rng hu h hp hb
  have h0 := (hp.app ((u.first_rng hu h (s := 0) (by decide)).app hb))
  have hT := wt_nonneg _ h0
  have e : u.sum ps = nz (65535 - cs (wt (ps ++ (u.first 0 ++ u.bl)))) := by unfold DU.sum; rw [sumw_wt _ h0]
  rw [sumw_wt _ (hp.app (u.bytes_rng hu h hp hb)), DU.bytes, DU.wt_first u _ ps he, show u.sum ps / 256 * 256 + u.sum ps % 256 = u.sum ps from by omega, e]
  exact cs_right_nz hT
theorem DU.bytes_len (u : DU) (ps : List Int) : (u.bytes ps).length = 8 + u.bl.length := by simp [DU.bytes, DU.first]; omega
theorem DT.split (t : DT) (s : Int) (ps : List Int) : ps ++ (t.first s ++ t.ol ++ t.bl) = ((ps ++ (t.first 0).take 16) ++ [s / 256, s % 256]) ++ ([t.urgent / 256, t.urgent % 256] ++ t.ol ++ t.bl) := by simp [DT.first]
theorem DT.wt_first (t : DT) (s : Int) (ps : List Int) (he : ps.length % 2 = 0) : wt (ps ++ (t.first s ++ t.ol ++ t.bl)) = wt (ps ++ (t.first 0 ++ t.ol ++ t.bl)) + (s / 256 * 256 + s % 256) := by
  rw [DT.split t s, DT.split t 0]
  have h1 : (ps ++ (t.first 0).take 16).length % 2 = 0 := by simp [DT.first]; omega
  generalize (ps ++ (t.first 0).take 16) = q at h1
  have h2 : ∀ t : Int, (q ++ [t / 256, t % 256]).length % 2 = 0 := fun t => by simp; omega
  rw [wt_append _ _ (h2 s), wt_append _ _ (h2 0), wt_append _ _ h1, wt_append _ _ h1, wt_two, wt_two]
  omega
theorem DT.small {t : DT} (hc : t.check = 0) : t.ol.length ≤ 40 ∧ t.ol.length % 4 = 0 ∧ t.bl.length ≤ 65515 - t.ol.length ∧ t.flags < 64 := by
  unfold DT.check at hc
  split at hc
  · omega
  · split at hc <;> omega
theorem DT.first_rng' {t : DT} (ht : t.ok) (hc : t.ol.length ≤ 40) {s : Int} (hs : 0 ≤ s ∧ s < 65536) : InB (t.first s) := by
  have h1 := ht.src; have h2 := ht.dst; have h3 := ht.seq; have h4 := ht.ack; have h5 := ht.flags; have h6 := ht.window; have h7 := ht.urgent
  intro x hx
  simp only [DT.first, List.mem_cons, List.not_mem_nil, or_false] at hx
  rcases hx with rfl | rfl | rfl | rfl | rfl | rfl | rfl | rfl | rfl | rfl | rfl | rfl | rfl | rfl | rfl | rfl | rfl | rfl | rfl | rfl
  all_goals omega
theorem DT.sum_rng' {t : DT} (ht : t.ok) (hc : t.ol.length ≤ 40) {ps : List Int} (hp : InB ps) (ho : InB t.ol) (hb : InB t.bl) : 0 ≤ t.sum ps ∧ t.sum ps < 65536 := by
  have := sumw_rng _ (hp.app (((DT.first_rng' ht hc (s := 0) (by decide)).app ho).app hb))
  unfold DT.sum
  omega
theorem DT.bytes_rng {t : DT} (ht : t.ok) (hc : t.ol.length ≤ 40) {ps : List Int} (hp : InB ps) (ho : InB t.ol) (hb : InB t.bl) : InB (t.bytes ps) := ((DT.first_rng' ht hc (t.sum_rng' ht hc hp ho hb)).app ho).app hb
theorem DT.sum_right (t : DT) (ht : t.ok) (hc : t.ol.length ≤ 40) (ps : List Int) (hp : InB ps) (ho : InB t.ol) (hb : InB t.bl) (he : ps.length % 2 = 0) : sumw (ps ++ t.bytes ps) = 65535 := by
  have hs := t.sum_rng' ht hc hp ho hb
  have h0 := (hp.app (((t.first_rng' ht hc (s := 0) (by decide)).app ho).app hb))
  have hT := wt_nonneg _ h0
  have e : t.sum ps = 65535 - cs (wt (ps ++ (t.first 0 ++ t.ol ++ t.bl))) := by unfold DT.sum; rw [sumw_wt _ h0]
  rw [sumw_wt _ (hp.app (t.bytes_rng ht hc hp ho hb)), DT.bytes, DT.wt_first t _ ps he, show t.sum ps / 256 * 256 + t.sum ps % 256 = t.sum ps from by omega, e]
  exact cs_right hT
theorem DT.bytes_len (t : DT) (ps : List Int) : (t.bytes ps).length = 20 + t.ol.length + t.bl.length := by simp [DT.bytes, DT.first]; omega
theorem pse4_len {a b : List Int} (ha : a.length = 4) (hb : b.length = 4) (n p : Int) : (pse4 a b n p).length = 12 := by simp [pse4, ha, hb]
theorem pse6_len {a b : List Int} (ha : a.length = 16) (hb : b.length = 16) (n p : Int) : (pse6 a b n p).length = 40 := by simp [pse6, ha, hb]

/-- addresses of both kinds -/
structure DE where
  (a b c d : List Int)
def DE.cells (x : DE) : Array Value := (u8s (x.a ++ x.b ++ x.c ++ x.d)).toArray
structure DE.ok (x : DE) : Prop where
  la : x.a.length = 4
  lb : x.b.length = 4
  lc : x.c.length = 16
  ld : x.d.length = 16
  ra : InB x.a
  rb : InB x.b
  rc : InB x.c
  rd : InB x.d
theorem mid_cells (p q r : List Int) (k : Nat) (hk : k = p.length) (j : Nat) (v : Value) (h : (u8s q)[j]? = some v) : (u8s (p ++ q ++ r)).toArray[k + j]? = some v := by
  have hj : j < (u8s q).length := (List.getElem?_eq_some_iff.1 h).1
  rw [u8s_length] at hj
  subst hk
  rw [List.getElem?_toArray, ← h, u8s, List.getElem?_map, u8s, List.getElem?_map, List.append_assoc, List.getElem?_append_right (by omega), Nat.add_sub_cancel_left, List.getElem?_append_left hj]
theorem DE.at_a {x : DE} (_ : x.ok) (j : Nat) (v : Value) (h : (u8s x.a)[j]? = some v) : x.cells[0 + j]? = some v := by
  have := mid_cells [] x.a (x.b ++ (x.c ++ x.d)) 0 rfl j v h
  simpa [DE.cells] using this
theorem DE.at_b {x : DE} (hx : x.ok) (j : Nat) (v : Value) (h : (u8s x.b)[j]? = some v) : x.cells[4 + j]? = some v := by
  have := mid_cells x.a x.b (x.c ++ x.d) 4 hx.la.symm j v h
  simpa [DE.cells] using this
theorem DE.at_c {x : DE} (hx : x.ok) (j : Nat) (v : Value) (h : (u8s x.c)[j]? = some v) : x.cells[8 + j]? = some v := by
  have := mid_cells (x.a ++ x.b) x.c x.d 8 (by simp [hx.la, hx.lb]) j v h
  simpa [DE.cells] using this
theorem DE.at_d {x : DE} (hx : x.ok) (j : Nat) (v : Value) (h : (u8s x.d)[j]? = some v) : x.cells[24 + j]? = some v := by
  have := mid_cells (x.a ++ x.b ++ x.c) x.d [] 24 (by simp [hx.la, hx.lb, hx.lc]) j v h
  simpa [DE.cells] using this
theorem DE.size {x : DE} (hx : x.ok) : x.cells.size = 40 := by simp [DE.cells, u8s_length, hx.la, hx.lb, hx.lc, hx.ld]
/-- a piece of a row as a slice -/
theorem By.mid {w : World} {g : Nat} {cs : Array Value} {t : TypeId} {fz : Nat × Nat} {B : Nat} (h : Has w g (.cells cs t fz)) (hB : g < B) (k n : Nat) (l : List Int) (hl : InB l) (hn : l.length = n) (hb : n ≤ 9223372036854775807) (hc : ∀ j v, (u8s l)[j]? = some v → cs[k + j]? = some v) : By B w (some ⟨g, k, none⟩) n n l :=
  ⟨⟨by rw [u8s_length, hn], Nat.le_refl _, fun _ => ⟨g, k, rfl, hB, fun j hj => by
    have hj' : j < (u8s l).length := by rw [u8s_length, hn]; exact hj
    have e := List.getElem?_eq_getElem hj'
    rw [e]
    exact h.cell (k + j) (hc j _ e)⟩⟩, hl, hb⟩
end Go.Proofs.Ytaobnbjkhgcmlaa
