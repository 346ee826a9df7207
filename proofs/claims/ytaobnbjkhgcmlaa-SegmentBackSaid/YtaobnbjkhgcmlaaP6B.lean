/-
  What is written is parsed as the same: in plain numbers.
-/
import Derived.Test.YtaobnbjkhgcmlaaP6P
import Derived.Test.YtaobnbjkhgcmlaaP6S
namespace Go.Proofs.Ytaobnbjkhgcmlaa
open Go.RowKit

theorem nz_ne (s : Int) : nz s ≠ 0 := by unfold nz; split <;> omega
theorem DU.bytes_eq (u : DU) (ps : List Int) : u.bytes ps = u.src / 256 :: u.src % 256 :: u.dst / 256 :: u.dst % 256 :: (8 + u.bl.length : Int) / 256 :: (8 + u.bl.length : Int) % 256 :: u.sum ps / 256 :: u.sum ps % 256 :: u.bl := by
  simp [DU.bytes, DU.first]
theorem DU.back (u : DU) (hu : u.ok) (h : u.bl.length ≤ 65527) (ps : List Int) (hp : InB ps) (hb : InB u.bl) (he : ps.length % 2 = 0) (must : Bool) :
    uErr must ps (u.bytes ps) = 0 ∧ uGot must ps (u.bytes ps) = u ∧ uNone must ps (u.bytes ps) = false := by
  have hs := u.sum_rng hu h hp hb
  have hsum := u.sum_right hu h ps hp hb he
  have hl : (u.bytes ps).length = 8 + u.bl.length := u.bytes_len ps
  have h4 : be2 (u.bytes ps) 4 = (u.bytes ps).length := by rw [hl, DU.bytes_eq]; simp only [be2, List.getD_cons_succ, List.getD_cons_zero]; omega
  have h6 : be2 (u.bytes ps) 6 = u.sum ps := by rw [DU.bytes_eq]; simp only [be2, List.getD_cons_succ, List.getD_cons_zero]; omega
  have h0 : be2 (u.bytes ps) 0 = u.src := by rw [DU.bytes_eq]; simp only [be2, List.getD_cons_succ, List.getD_cons_zero]; omega
  have h2 : be2 (u.bytes ps) 2 = u.dst := by rw [DU.bytes_eq]; simp only [be2, List.getD_cons_succ, List.getD_cons_zero]; omega
  have hd : (u.bytes ps).drop 8 = u.bl := by rw [DU.bytes_eq]; rfl
  have hne : u.sum ps ≠ 0 := nz_ne _
  have hz : uErr must ps (u.bytes ps) = 0 := by
    unfold uErr
    rw [if_neg (by omega), if_neg (by rw [h4]; simp), h6, if_neg (by simp [hne, hsum])]
  refine ⟨hz, ?_, ?_⟩
  · rw [(uGot_ok hz).1, uOf, h0, h2, hd]
  · rw [(uGot_ok hz).2, h6]; simp [hne]
theorem DT.bytes_eq (t : DT) (ps : List Int) : t.bytes ps = t.first (t.sum ps) ++ (t.ol ++ t.bl) := by simp [DT.bytes]
theorem getD_app {l m : List Int} {i : Nat} (h : i < l.length) : (l ++ m).getD i 0 = l.getD i 0 := by
  rw [List.getD_eq_getElem?_getD, List.getD_eq_getElem?_getD, List.getElem?_append_left h]
theorem be2_app {l m : List Int} {i : Nat} (h : i + 1 < l.length) : be2 (l ++ m) i = be2 l i := by unfold be2; rw [getD_app (by omega), getD_app h]
theorem be4_app {l m : List Int} {i : Nat} (h : i + 3 < l.length) : be4 (l ++ m) i = be4 l i := by unfold be4; rw [be2_app (by omega), be2_app (by omega)]
theorem DT.back (t : DT) (ht : t.ok) (hc : t.check = 0) (ps : List Int) (hp : InB ps) (ho : InB t.ol) (hb : InB t.bl) (he : ps.length % 2 = 0) :
    tErr ps (t.bytes ps) = 0 ∧ tGot ps (t.bytes ps) = t := by
  obtain ⟨k1, k2, k3, k4⟩ := DT.small hc
  have hs := t.sum_rng' ht k1 hp ho hb
  have hsum := t.sum_right ht k1 ps hp ho hb he
  have hl : (t.bytes ps).length = 20 + t.ol.length + t.bl.length := t.bytes_len ps
  have hf : (t.first (t.sum ps)).length = 20 := rfl
  have r1 := ht.src; have r2 := ht.dst; have r3 := ht.seq; have r4 := ht.ack; have r5 := ht.flags; have r6 := ht.window; have r7 := ht.urgent
  have g12 : (t.bytes ps).getD 12 0 = (20 + t.ol.length : Int) / 4 * 16 := by rw [DT.bytes_eq, getD_app (by rw [hf]; decide)]; rfl
  have g13 : (t.bytes ps).getD 13 0 = t.flags := by rw [DT.bytes_eq, getD_app (by rw [hf]; decide)]; rfl
  have g0 : be2 (t.bytes ps) 0 = t.src := by rw [DT.bytes_eq, be2_app (by rw [hf]; decide)]; show t.src / 256 * 256 + t.src % 256 = _; omega
  have g2 : be2 (t.bytes ps) 2 = t.dst := by rw [DT.bytes_eq, be2_app (by rw [hf]; decide)]; show t.dst / 256 * 256 + t.dst % 256 = _; omega
  have g4 : be4 (t.bytes ps) 4 = t.seq := by rw [DT.bytes_eq, be4_app (by rw [hf]; decide)]; show (t.seq / 16777216 * 256 + t.seq / 65536 % 256) * 65536 + (t.seq / 256 % 256 * 256 + t.seq % 256) = _; omega
  have g8 : be4 (t.bytes ps) 8 = t.ack := by rw [DT.bytes_eq, be4_app (by rw [hf]; decide)]; show (t.ack / 16777216 * 256 + t.ack / 65536 % 256) * 65536 + (t.ack / 256 % 256 * 256 + t.ack % 256) = _; omega
  have g14 : be2 (t.bytes ps) 14 = t.window := by rw [DT.bytes_eq, be2_app (by rw [hf]; decide)]; show t.window / 256 * 256 + t.window % 256 = _; omega
  have g18 : be2 (t.bytes ps) 18 = t.urgent := by rw [DT.bytes_eq, be2_app (by rw [hf]; decide)]; show t.urgent / 256 * 256 + t.urgent % 256 = _; omega
  have hh : tHead (t.bytes ps) = 20 + t.ol.length := by unfold tHead; rw [g12]; omega
  have hn : (tHead (t.bytes ps)).toNat = 20 + t.ol.length := by rw [hh]; omega
  have ho1 : ((t.bytes ps).take (20 + t.ol.length)).drop 20 = t.ol := by
    rw [DT.bytes_eq, List.take_append, hf, List.take_of_length_le (by rw [hf]; omega), show 20 + t.ol.length - 20 = t.ol.length from by omega, List.take_append_of_le_length (Nat.le_refl _), List.take_length, List.drop_append, hf, List.drop_of_length_le (by rw [hf]; exact Nat.le_refl _)]
    rfl
  have hb1 : (t.bytes ps).drop (20 + t.ol.length) = t.bl := by
    rw [DT.bytes_eq, List.drop_append, hf, List.drop_of_length_le (by rw [hf]; omega), show 20 + t.ol.length - 20 = t.ol.length from by omega, List.drop_append_of_le_length (Nat.le_refl _), List.drop_length]
    rfl
  have hz : tErr ps (t.bytes ps) = 0 := by
    unfold tErr
    rw [if_neg (by omega), hh, if_neg (by omega), if_neg (by omega), if_neg (by simp [hsum])]
  refine ⟨hz, ?_⟩
  rw [tGot_ok hz, tOf, hn, g0, g2, g4, g8, g13, g14, g18, ho1, hb1, show t.flags % 64 = t.flags from by omega]
end Go.Proofs.Ytaobnbjkhgcmlaa
