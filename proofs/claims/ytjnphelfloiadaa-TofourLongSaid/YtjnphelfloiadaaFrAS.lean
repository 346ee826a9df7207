/-
  Lemmas and walks for the row of TofourRight,TofourLong (part 19 of 33).
-/
import Derived.Test.YtjnphelfloiadaaFrAD
import Derived.Test.YtjnphelfloiadaaFrAF
import Derived.Test.YtjnphelfloiadaaFrAG
import Derived.Test.YtjnphelfloiadaaFrAK
import Derived.Test.YtjnphelfloiadaaFrAL
import Derived.Test.YtjnphelfloiadaaFrAR
import Derived.Deep.RegionLaw
import Derived.Lib.AppendZeros
set_option linter.unusedVariables false
set_option linter.unusedSimpArgs false
namespace Go.Proofs.Ytjnphelfloiadaa
open Go.RowKit Go.Shelf

theorem rpseudo4_ok (a b : List Int) (ha : a.length = 4) (hb : b.length = 4) (ra : InB a) (rb : InB b) (p n : Int) (hp0 : 0 ≤ p) (hp1 : p ≤ 255) (h0 : 0 ≤ n) (h1 : n ≤ 65535) (w : World) :
  Calls Try.prog 60 #[.agg (u8s a).toArray, .agg (u8s b).toArray, .int .u8 p, .int .i64 n] w fun e w' => ∃ v, e = .returned (.tuple #[v, .int .i64 0]) ∧ OwnB w' w.heap.size v (a ++ b ++ [0, p, n / 256, n % 256]) ∧ Below w.heap.size w w' := by
 have hr4 : InB [0, p, n / 256, n % 256] := fun x hx => by
  simp only [List.mem_cons, List.not_mem_nil, or_false] at hx
  omega
 have ha8 : (u8s a).toArray.size = 4 := by simp [u8s, ha]
 have hb8 : (u8s b).toArray.size = 4 := by simp [u8s, hb]
 have hla := Lib.hid ha
 have hlb := Lib.hid hb
 clear ha hb
 go_enter Try.func60, Try.ntmps60
 go_wp2
 have own0 : OwnB ((((w.alloc (.cells (u8s a).toArray 29)).alloc (.cells (u8s b).toArray 29)).alloc (.cells #[] 5)).drew) (w.heap.size + 2) (.slice (some ⟨w.heap.size + 1 + 1, 0, none⟩) 0 0) [] := (OwnB.madeAt (by simp) (by simp)).drew
 have ya : By (w.heap.size + 2) ((((w.alloc (.cells (u8s a).toArray 29)).alloc (.cells (u8s b).toArray 29)).alloc (.cells #[] 5)).drew) (some ⟨w.heap.size, 0, none⟩) 4 4 a := By.blk' (t := 29) (fz := (0, 0)) (by repeat (first | exact Has.newAt (by simp) | refine Has.drew ?_ | refine Has.alloc ?_)) (by omega) ra (by have := hla.out; omega) hla.out.symm hla.out.symm
 have yb : By (w.heap.size + 2) ((((w.alloc (.cells (u8s a).toArray 29)).alloc (.cells (u8s b).toArray 29)).alloc (.cells #[] 5)).drew) (some ⟨w.heap.size + 1, 0, none⟩) 4 4 b := By.blk' (t := 29) (fz := (0, 0)) (by repeat (first | exact Has.newAt (by simp) | refine Has.drew ?_ | refine Has.alloc ?_)) (by omega) rb (by have := hlb.out; omega) hlb.out.symm hlb.out.symm
 have hb0 : Below w.heap.size w ((((w.alloc (.cells (u8s a).toArray 29)).alloc (.cells (u8s b).toArray 29)).alloc (.cells #[] 5)).drew) := ((((Below.refl _ w).alloc (Nat.le_refl _) _).alloc (by simp) _).alloc (by simp; omega) _).drew
 have hz0 : w.heap.size + 2 ≤ (((((w.alloc (.cells (u8s a).toArray 29)).alloc (.cells (u8s b).toArray 29)).alloc (.cells #[] 5)).drew)).heap.size := by simp
 go_region_law (first
  | (refine step_appB _ rfl (.tmp 17) (.tmp 18) _ rfl Try.underlying26 info8 (w.heap.size + 2) _ [] rfl own0 _ (some ⟨w.heap.size, 0, none⟩) 4 4 a rfl ya (by simp) hz0 ?_; intro v1 w1 hown1 hg1 hat1; have hb1 := below_app own0 hg1 hz0; have hz1 := Nat.le_trans hz0 hg1.size; have yb1 := yb.below hb1 (Nat.le_refl _))
  | (refine step_appB _ rfl (.tmp 19) (.tmp 20) _ rfl Try.underlying26 info8 (w.heap.size + 2) _ ([] ++ a) rfl hown1 _ (some ⟨w.heap.size + 1, 0, none⟩) 4 4 b rfl yb1 (by have := hla.out; simp; omega) hz1 ?_; intro v2 w2 hown2 hg2 hat2; have hb2 := below_app hown1 hg2 hz1; have hz2 := Nat.le_trans hz1 hg2.size))
 rw [List.nil_append] at hown2
 have hbw2 : Below w.heap.size w w2 := (hb0.trans (hb1.mono (by omega))).trans (hb2.mono (by omega))
 have hl8 : (a ++ b).length = 8 := by have := hla.out; have := hlb.out; simp; omega
 obtain ⟨ab, hab⟩ : ∃ ab, a ++ b = ab := ⟨_, rfl⟩
 rw [hab] at hown2 hl8
 have habH := Lib.hid hab
 have hl8H := Lib.hid hl8
 clear hab hl8
 obtain ⟨A3, c3, rfl, _⟩ := own_shape hown2.own
 go_wp2_with (at_builtin; refine wpList_appB _ rfl _ _ _ rfl Try.underlying26 info8 _ _ ab rfl (hown2.alloc _) _ (some ⟨w2.heap.size, 0, none⟩) 4 4 [0, p, n / 256, n % 256] rfl (By.blk (t := 5) (fz := (0, 0)) (Has.newAt rfl) (Nat.le_refl _) hr4 (by simp) rfl rfl) (by have := hl8H.out; omega) (by simp; omega) ?_; intro v3 w3 hown3 hg3 hat3)
 go_ret2
 refine ⟨_, rfl, ?_, ?_⟩
 ·rw [habH.out]; exact hown3.more (by omega)
 ·exact (hbw2.trans (((Below.refl _ w2).alloc (Nat.le_refl _) _).mono hbw2.size)).trans ((below_app (hown2.alloc _) hg3 (by simp; omega)).mono (by omega))
theorem rpseudo6_ok (a b : List Int) (ha : a.length = 16) (hb : b.length = 16) (ra : InB a) (rb : InB b) (p n : Int) (hp0 : 0 ≤ p) (hp1 : p ≤ 255) (h0 : 0 ≤ n) (h1 : n ≤ 65535) (w : World) :
  Calls Try.prog 61 #[.agg (u8s a).toArray, .agg (u8s b).toArray, .int .u8 p, .int .i64 n] w fun e w' => ∃ v, e = .returned (.tuple #[v, .int .i64 0]) ∧ OwnB w' w.heap.size v (a ++ b ++ [0, 0, n / 256, n % 256, 0, 0, 0, p]) ∧ Below w.heap.size w w' := by
 have hr4 : InB [0, 0, n / 256, n % 256, 0, 0, 0, p] := fun x hx => by
  simp only [List.mem_cons, List.not_mem_nil, or_false] at hx
  omega
 have ha8 : (u8s a).toArray.size = 16 := by simp [u8s, ha]
 have hb8 : (u8s b).toArray.size = 16 := by simp [u8s, hb]
 have hla := Lib.hid ha
 have hlb := Lib.hid hb
 clear ha hb
 go_enter Try.func61, Try.ntmps61
 go_wp2
 have own0 : OwnB ((((w.alloc (.cells (u8s a).toArray 23)).alloc (.cells (u8s b).toArray 23)).alloc (.cells #[] 5)).drew) (w.heap.size + 2) (.slice (some ⟨w.heap.size + 1 + 1, 0, none⟩) 0 0) [] := (OwnB.madeAt (by simp) (by simp)).drew
 have ya : By (w.heap.size + 2) ((((w.alloc (.cells (u8s a).toArray 23)).alloc (.cells (u8s b).toArray 23)).alloc (.cells #[] 5)).drew) (some ⟨w.heap.size, 0, none⟩) 16 16 a := By.blk' (t := 23) (fz := (0, 0)) (by repeat (first | exact Has.newAt (by simp) | refine Has.drew ?_ | refine Has.alloc ?_)) (by omega) ra (by have := hla.out; omega) hla.out.symm hla.out.symm
 have yb : By (w.heap.size + 2) ((((w.alloc (.cells (u8s a).toArray 23)).alloc (.cells (u8s b).toArray 23)).alloc (.cells #[] 5)).drew) (some ⟨w.heap.size + 1, 0, none⟩) 16 16 b := By.blk' (t := 23) (fz := (0, 0)) (by repeat (first | exact Has.newAt (by simp) | refine Has.drew ?_ | refine Has.alloc ?_)) (by omega) rb (by have := hlb.out; omega) hlb.out.symm hlb.out.symm
 have hb0 : Below w.heap.size w ((((w.alloc (.cells (u8s a).toArray 23)).alloc (.cells (u8s b).toArray 23)).alloc (.cells #[] 5)).drew) := ((((Below.refl _ w).alloc (Nat.le_refl _) _).alloc (by simp) _).alloc (by simp; omega) _).drew
 have hz0 : w.heap.size + 2 ≤ (((((w.alloc (.cells (u8s a).toArray 23)).alloc (.cells (u8s b).toArray 23)).alloc (.cells #[] 5)).drew)).heap.size := by simp
 go_region_law (first
  | (refine step_appB _ rfl (.tmp 17) (.tmp 18) _ rfl Try.underlying26 info8 (w.heap.size + 2) _ [] rfl own0 _ (some ⟨w.heap.size, 0, none⟩) 16 16 a rfl ya (by simp) hz0 ?_; intro v1 w1 hown1 hg1 hat1; have hb1 := below_app own0 hg1 hz0; have hz1 := Nat.le_trans hz0 hg1.size; have yb1 := yb.below hb1 (Nat.le_refl _))
  | (refine step_appB _ rfl (.tmp 19) (.tmp 20) _ rfl Try.underlying26 info8 (w.heap.size + 2) _ ([] ++ a) rfl hown1 _ (some ⟨w.heap.size + 1, 0, none⟩) 16 16 b rfl yb1 (by have := hla.out; simp; omega) hz1 ?_; intro v2 w2 hown2 hg2 hat2; have hb2 := below_app hown1 hg2 hz1; have hz2 := Nat.le_trans hz1 hg2.size))
 rw [List.nil_append] at hown2
 have hbw2 : Below w.heap.size w w2 := (hb0.trans (hb1.mono (by omega))).trans (hb2.mono (by omega))
 have hl8 : (a ++ b).length = 32 := by have := hla.out; have := hlb.out; simp; omega
 obtain ⟨ab, hab⟩ : ∃ ab, a ++ b = ab := ⟨_, rfl⟩
 rw [hab] at hown2 hl8
 have habH := Lib.hid hab
 have hl8H := Lib.hid hl8
 clear hab hl8
 obtain ⟨A3, c3, rfl, _⟩ := own_shape hown2.own
 go_wp2_with (at_builtin; refine wpList_appB _ rfl _ _ _ rfl Try.underlying26 info8 _ _ ab rfl (hown2.alloc _) _ (some ⟨w2.heap.size, 0, none⟩) 8 8 [0, 0, n / 256, n % 256, 0, 0, 0, p] rfl (By.blk (t := 5) (fz := (0, 0)) (Has.newAt rfl) (Nat.le_refl _) hr4 (by simp) rfl rfl) (by have := hl8H.out; omega) (by simp; omega) ?_; intro v3 w3 hown3 hg3 hat3)
 go_ret2
 refine ⟨_, rfl, ?_, ?_⟩
 ·rw [habH.out]; exact hown3.more (by omega)
 ·exact (hbw2.trans (((Below.refl _ w2).alloc (Nat.le_refl _) _).mono hbw2.size)).trans ((below_app (hown2.alloc _) hg3 (by simp; omega)).mono (by omega))
end Go.Proofs.Ytjnphelfloiadaa
namespace Go.Proofs.Ytjnphelfloiadaa
open Go.RowKit Go.Shelf

section
variable {P : Program}
theorem w_shl32 (t : TypeId) (n : Nat) (x z : Int) (hz : x * 2 ^ n = z) (hn : n ≤ 32) (h : 0 ≤ z ∧ z < 4294967296) (w : World) : (binOp .shl t (.int .u32 x) (.int .u64 (n : Int))).run P w = .ok (.int .u32 z) w := by
 have hh := shift_shl .u32 .u64 x (n : Int) (Int.natCast_nonneg n) (by exact_mod_cast hn)
 rw [binOp_shl, hh, Int.toNat_natCast, hz, IntKind.wrap_u32]
 rw [Int.emod_eq_of_lt h.1 h.2]
 rfl
end
theorem rfold2 {g n1 n2 c1 c2 : Nat} {A1 A2 : Option Addr} {l1 l2 : List Int} {w : World} (h : Has w g (.cells #[.slice A1 n1 c1, .slice A2 n2 c2] 26 (0, 0))) (y1 : By w.heap.size w A1 n1 c1 l1) (y2 : By w.heap.size w A2 n2 c2 l2) (hb : n1 + n2 ≤ 8796093022208) :
  Calls Try.prog 59 #[.slice (some ⟨g, 0, none⟩) 2 2] w fun e w' => ∃ v, e = .returned v ∧ v = .int .u16 (sumw (l1 ++ l2)) ∧ Below w.heap.size w w' := by
 obtain rfl := y1.len
 obtain rfl := y2.len
 refine (rfold_any (some ⟨g, 0, none⟩) 2 [(A1, c1, l1), (A2, c2, l2)] w (Parts.blk h (Nat.le_refl _) rfl (all2 y1 y2) (by simp)) (by rw [flat2, List.length_append]; exact hb)).mono fun e w' h => ?_
 rw [flat2] at h
 exact ⟨_, h.1, rfl, h.2⟩
end Go.Proofs.Ytjnphelfloiadaa
namespace Go.Proofs.Ytjnphelfloiadaa
open Go.RowKit Go.Shelf
attribute [local irreducible] wpList Code.wp Oper.wp wpOp wpAnyH

theorem res_tt {P : Program} {fn : Func} {tmps : Array Value} {a b : Nat} {v u : Value} {w : World} (hr : fn.results = #[.tmp a, .tmp b]) (hx : tmps.getD a undef = v) (hb : tmps.getD b undef = u) : (results fn tmps).run P w = .ok (.tuple #[v, u]) w := by
 rw [Array.getD_eq_getD_getElem?] at hx hb
 simp [results, hr, hx, hb]
/-- a row of its own and a number -/
def TwoR (r : List Int × Int) (base : Nat) (w' : World) (e : Ending) : Prop := ∃ v, e = .returned (.tuple #[v, .int .i64 r.2]) ∧ OwnB w' base v r.1
theorem TwoR.ok {r : List Int × Int} {base : Nat} {w' : World} {v : Value} {l : List Int} {k : Int} (h : r = (l, k)) (hO : OwnB w' base v l) : TwoR r base w' (.returned (.tuple #[v, .int .i64 k])) := by
 subst h
 exact ⟨v, rfl, hO⟩
end Go.Proofs.Ytjnphelfloiadaa
