/-
  The walk of ipv4.Options.
-/
import Derived.Test.YtfkcejfjmfliaaaOa
namespace Go.Proofs.Ytfkcejfjmfliaaa
open Go.RowKit Go.Shelf

theorem opt_full : (Try.prog.info? 64).map (fun i => (i.zero, i.size, i.bytes)) = some (some (.agg #[.int .u8 0, .slice none 0 0]), 2, 32) := by kernel_rfl
theorem opt_zero : (Try.prog.info? 64).map (fun i => (i.zero, i.size)) = some (some (.agg #[.int .u8 0, .slice none 0 0]), 2) := by kernel_rfl
def ToldOs (at_ err : Int) (os : List (Int × List Int)) (w : World) (e : Ending) (w' : World) : Prop := ∃ v ps, e = .returned (.tuple #[v, .int .i64 at_, .int .i64 err]) ∧ Hid (kdL ps = os) ∧ OwnK w' w.heap.size 64 v ps ∧ Below w.heap.size w w'

set_option maxRecDepth 100000 in
set_option maxHeartbeats 2000000 in
theorem options_any (A : Option Addr) (c : Nat) (l : List Int) (w : World) (y : By w.heap.size w A l.length c l) (hs : l.length ≤ 1048576) :
    Calls Try.prog 26 #[.slice A l.length c] w fun e w' => ToldOs (optsOf l).2.1 (optsOf l).2.2 (if (optsOf l).2.2 = 0 then (optsOf l).1 else []) w e w' := by
  obtain ⟨⟨VL, VA, VE⟩, hV⟩ : ∃ V, optsF l (l.length + 1) 0 [] = V := ⟨_, rfl⟩
  unfold optsOf
  rw [hV]
  obtain ⟨n, hn⟩ : ∃ n, l.length = n := ⟨_, rfl⟩
  have hopt : ∀ (k : Nat) (W : World), By W.heap.size W A n c l → k ≤ n → optBad l k → _ := fun k W yW hk hb => option_bad A c l k W (by rw [hn]; exact yW) (by rw [hn]; exact hk) (by omega) hb
  have hopk : ∀ (k : Nat) (W : World), By W.heap.size W A n c l → ¬ optBad l k → _ := fun k W yW hb => option_ok A c l k W (by rw [hn]; exact yW) (by omega) hb
  rw [hn] at hopt hopk hV hs y ⊢
  have hVH := Lib.hid hV
  have hnH := Lib.hid hn
  have hoptH := Lib.hid hopt
  have hopkH := Lib.hid hopk
  have hin := y.rng
  clear hV hn hopt hopk
  dsimp only
  go_enter Try.func26, Try.ntmps26
  go_wp2
  go_loopw [5, 6] (fun lv i wr => ∃ (k f : Nat) (ps : List Kd), k ≤ n ∧ n - k < f ∧ Hid (optsF l f k (kdL ps) = (VL, VA, VE)) ∧ i = .int .i64 k ∧ OwnK wr w.heap.size 64 lv ps ∧ 2 * ps.length ≤ k ∧ Below w.heap.size w wr) (fun _ i _ => n - (intOf i).toNat)
  case atStart => exact ⟨0, n + 1, [], Nat.zero_le _, by omega, hVH, rfl, OwnK.nil _ _ _, by simp, Below.refl _ _⟩
  case round =>
    obtain ⟨k, f, ps, hk, hf, hV, rfl, hO, hps, hBr⟩ := hrel
    rename_i wr _
    cases f with
    | zero => omega
    | succ f =>
    replace hV := hV.out
    rw [optsF, hnH.out] at hV
    by_cases hlt : k < n
    case neg =>
      rw [if_pos (.inl (by omega))] at hV
      simp only [Prod.mk.injEq] at hV
      obtain ⟨rfl, rfl, rfl⟩ := hV
      have hge : ¬ ((k : Int) < (n : Int)) := by omega
      clear y
      go_wp2
      go_ret3
      exact ⟨_, ps, rfl, Lib.hid rfl, hO, hBr⟩
    case pos =>
    obtain ⟨b, off, hA, hbl, -⟩ := y.row.at_ (by omega)
    subst hA
    have yr := y.below hBr (Nat.le_refl _)
    have d0 := yr.atO (k := k) hlt
    have r0 := getD_rng4 hin k
    obtain ⟨x0, hx0⟩ : ∃ x, l.getD k 0 = x := ⟨_, rfl⟩
    rw [hx0] at d0 r0 hV
    have z0 : (k : Int) < (n : Int) := by omega
    by_cases h00 : x0 = 0
    case pos =>
      rw [if_pos (.inr h00)] at hV
      simp only [Prod.mk.injEq] at hV
      obtain ⟨rfl, rfl, rfl⟩ := hV
      subst h00
      clear y yr
      go_wp2
      go_ret3
      exact ⟨_, ps, rfl, Lib.hid rfl, hO, hBr⟩
    case neg =>
    rw [if_neg (by omega)] at hV
    by_cases h01 : x0 = 1
    case pos =>
      rw [if_pos h01] at hV
      subst h01
      have hVH2 := Lib.hid hV
      clear y yr hV
      go_wp2
      go_roundw
      case rel => exact ⟨k + 1, f, ps, by omega, by omega, hVH2, by go_num, hO, by omega, hBr⟩
      case measure => simp [intOf]; omega
    case neg =>
    rw [if_neg h01] at hV
    have yw := yr.more hBr.size
    by_cases hbad : optBad l k
    case pos =>
      rw [if_pos hbad] at hV
      simp only [Prod.mk.injEq] at hV
      obtain ⟨rfl, rfl, rfl⟩ := hV
      have hcall := Lib.hid (hoptH.out k wr yw (Nat.le_of_lt hlt) hbad)
      clear y yr yw hbad
      go_wp2_with fail
      refine hcall.out.mono ?_
      rintro e w3 ⟨rfl, hb⟩
      have hB3 := hBr.trans (hb.mono hBr.size)
      have hN : Has (w3.alloc (.cells #[.int .u8 0, .slice none 0 0] 64)) w3.heap.size (.cells #[.int .u8 0, .slice none 0 0] 64 (0, 0)) := Has.newAt rfl
      go_wp2_with (refine wpList_store_row rfl 64 (.tmp 7) (.tmp 32) rfl w3.heap.size _ rfl rfl 64 _ hN opt_info rfl (by simp [Value.oneCell']) ?_)
      have hB4 := hB3.trans (((Below.refl w3.heap.size w3).alloc (Nat.le_refl _) (.cells #[.int .u8 0, .slice none 0 0] 64)).trans (below_setRow' (cs := #[.int .u8 0, .slice none 0 0])) |>.mono hB3.size)
      go_ret3
      exact ⟨_, [], rfl, Lib.hid rfl, OwnK.nil _ _ _, hB4⟩
    case neg =>
      rw [if_neg hbad] at hV
      have hcall := Lib.hid (hopkH.out k wr yw hbad)
      have hlen := optD_len hbad
      rw [hnH.out] at hlen
      have hl2 : 2 ≤ optN l k := by omega
      obtain ⟨N, hN⟩ : ∃ N, optN l k = N := ⟨_, rfl⟩
      rw [hN] at hV hlen hcall hl2
      have hVH2 := Lib.hid hV
      clear y yr yw hbad hV hN
      go_wp2_with fail
      refine hcall.out.mono ?_
      rintro e w3 ⟨⟨⟨pk, pA, pc, pl⟩, rfl, hp, ho⟩, hb⟩
      have hB3 := hBr.trans (hb.mono hBr.size)
      have hO3 := hO.below hb
      have hne := hO.apart ho (Nat.le_refl _)
      have ho3 := ho.more hBr.size
      have hN : Has (w3.alloc (.cells #[.int .u8 0, .slice none 0 0] 64)) w3.heap.size (.cells #[.int .u8 0, .slice none 0 0] 64 (0, 0)) := Has.newAt rfl
      have hX : Below w3.heap.size w3 ((w3.alloc (.cells #[.int .u8 0, .slice none 0 0] 64)).setRow w3.heap.size #[.int .u8 pk, kdV (pk, pA, pc, pl)]) := ((Below.refl w3.heap.size w3).alloc (Nat.le_refl _) (.cells #[.int .u8 0, .slice none 0 0] 64)).trans below_setRow'
      have hH := hN.setRow_same (cs' := #[.int .u8 pk, kdV (pk, pA, pc, pl)])
      obtain ⟨W4, hW4⟩ : ∃ W, (w3.alloc (.cells #[.int .u8 0, .slice none 0 0] 64)).setRow w3.heap.size #[.int .u8 pk, kdV (pk, pA, pc, pl)] = W := ⟨_, rfl⟩
      have hO4 := hO3.below hX
      have ho4 := ho3.below hX
      rw [hW4] at hX hH hO4 ho4
      have hY : Below W4.heap.size W4 (W4.alloc (.cells #[.int .u8 pk, kdV (pk, pA, pc, pl)] 64)) := (Below.refl _ _).alloc (Nat.le_refl _) _
      have hO5 := hO4.below hY
      have ho5 := ho4.below hY
      have hQ : Has (W4.alloc (.cells #[.int .u8 pk, kdV (pk, pA, pc, pl)] 64)) W4.heap.size (.cells #[.int .u8 pk, kdV (pk, pA, pc, pl)] 64 (0, 0)) := Has.newAt rfl
      have e0 := hQ.cell 0 (v := .int .u8 pk) rfl
      have e1 := hQ.cell 1 (v := kdV (pk, pA, pc, pl)) rfl
      have hp1 : pk = x0 := (congrArg Prod.fst hp.out).trans hx0
      have hp2 : pl = optD l k := congrArg Prod.snd hp.out
      have hp2H := Lib.hid hp2
      have hp1H := Lib.hid hp1
      have hpr : 0 ≤ pk ∧ pk ≤ 255 := by omega
      have hbase := Nat.le_trans hB3.size (Nat.le_trans hX.size hY.size)
      have hB5 := hB3.trans ((hX.trans (hY.mono hX.size)).mono hB3.size)
      clear hp hp1 hp2 hO hO3 hO4 ho ho3 ho4 hb hx0 d0
      go_wp2_with (first
        | (refine wpList_store_row rfl 64 (.tmp 7) (.tmp 32) rfl w3.heap.size _ rfl rfl 64 _ hN opt_info rfl (by simp [kdV, Value.oneCell']) ?_; rw [hW4])
        | (refine wpList_load_row rfl 64 (.tmp 7) rfl w3.heap.size rfl 64 #[.int .u8 pk, kdV (pk, pA, pc, pl)] (0, 0) _ hH Try.underlying64 rfl opt_info ?_)
        | (refine wpList_build_kd _ rfl 45 64 (.tmp 39) rfl Try.underlying45 opt_zero pk _ rfl ?_)
        | (refine wpList_append_kd _ rfl _ _ 45 rfl w.heap.size 64 _ 32 Try.underlying45 opt_full rfl _ ps rfl hO5 W4.heap.size 1 (pk, pA, pc, pl) rfl e0 e1 hpr.1 hpr.2 ho5 hne (by omega) (by simp only [maxLen]; omega) hbase ?_; intro v6 w6 hO6 hg6 hat6; have hb6 := below_own hO5.own hg6 hbase))
      go_roundw
      case rel => exact ⟨k + N, f, ps ++ [(pk, pA, pc, pl)], by omega, by omega, Lib.hid (by rw [kdL_append, show kdL [(pk, pA, pc, pl)] = [(pk, pl)] from rfl, hp1H.out, hp2H.out]; exact hVH2.out), by go_num, hO6, by rw [List.length_append, List.length_singleton]; omega, hB5.trans hb6⟩
      case measure => simp [intOf]; omega
end Go.Proofs.Ytfkcejfjmfliaaa
