/-
  The row of TosixTells: for every input the call returns true, and each argument reads behind the call as it read before.
-/
import Derived.Test.YtijnifbpbgckgaaTtAA
import Derived.Test.YtijnifbpbgckgaaTtAB
import Derived.Test.YtijnifbpbgckgaaTtAC
import Derived.Test.YtijnifbpbgckgaaTtAD
import Derived.Test.YtijnifbpbgckgaaTtAE
import Derived.Test.YtijnifbpbgckgaaTtAF
import Derived.Test.YtijnifbpbgckgaaTtAG
import Derived.Test.YtijnifbpbgckgaaTtAH
import Derived.Test.YtijnifbpbgckgaaTtAI
import Derived.Test.YtijnifbpbgckgaaTtAJ
import Derived.Test.YtijnifbpbgckgaaTtAK
import Derived.Test.YtijnifbpbgckgaaTtAL
import Derived.Test.YtijnifbpbgckgaaTtAM
import Derived.Test.YtijnifbpbgckgaaTtAN
import Derived.Test.YtijnifbpbgckgaaTtAO
import Derived.Test.YtijnifbpbgckgaaTtAP
import Derived.Test.YtijnifbpbgckgaaTtAQ
import Derived.Test.YtijnifbpbgckgaaTtAR
import Derived.Test.YtijnifbpbgckgaaTtAS
import Derived.Test.YtijnifbpbgckgaaTtAT
import Derived.Test.YtijnifbpbgckgaaTtAU
import Derived.Test.YtijnifbpbgckgaaTtAV
import Derived.Test.YtijnifbpbgckgaaTtAW
import Derived.Test.YtijnifbpbgckgaaTtAX
import Derived.Test.YtijnifbpbgckgaaTtAY
import Derived.Test.YtijnifbpbgckgaaTtAZ
import Derived.Test.YtijnifbpbgckgaaTtBA
import Derived.Test.YtijnifbpbgckgaaTtBB
import Derived.Test.YtijnifbpbgckgaaTtBC
import Derived.Test.YtijnifbpbgckgaaTtBD
import Derived.Test.YtijnifbpbgckgaaTtBE
import Derived.Test.YtijnifbpbgckgaaTtBF
import Derived.Test.YtijnifbpbgckgaaTtBG
import Derived.Test.YtijnifbpbgckgaaTtBH
import Derived.Test.YtijnifbpbgckgaaTtBI
import Derived.Test.YtijnifbpbgckgaaTtBJ
import Derived.Test.YtijnifbpbgckgaaTtBK
import Derived.Test.YtijnifbpbgckgaaTtBL
import Derived.Test.YtijnifbpbgckgaaTtBM
namespace Go.Proofs.Ytijnifbpbgckgaa.tosixTells
open Go.ChangeShapes Go.WideShapes Go.ChangeAt Go.RowKit
set_option linter.unusedVariables false

set_option maxRecDepth 100000 in
theorem lifted (os : Os) (started : os.Started) (H : Type) (enc : TypeId × Value → H) :
    ReturnsInHanded {} Try.checked os 8 .any (Rows.tosixTellsSpec.pre6 enc Try.prog Try.f8 Rows.tosixTellsRow.domain false) (Rows.tosixTellsSpec.post enc Try.prog Try.f8 false true false false) := by
  refine returnsInHanded_of_change (C := Try.checked) own_ started (by kernel_rfl) Try.func8
    (ChangeSpec.witness6 (enc := enc) (C := Try.checked) false ⟨#[], #[.agg #[.int .u8 0, .int .u16 0, .bool false, .bool false, .int .i64 0, .int .u8 0, .int .u8 0, .int .u8 0, .int .u8 0, .int .u8 0, .int .u8 0, .int .u8 0, .int .u8 0, .int .u8 0, .int .u8 0, .slice none 0 0, .slice none 0 0], .int .u8 0, .int .u16 0], []⟩ 8 (by kernel_rfl) (by kernel_rfl) (by kernel_rfl) (by kernel_rfl)) ?_
  intro W base args ds gs before hval0 hW hcnd _
  have hval : ∀ (j : Nat) t v, Try.f8.params[j]? = some t → args[j]? = some v → Value.okWide Try.prog W .any base t v := hval0
  have hW' := hW
  obtain ⟨p, q, hA0, hV, rfl, hfz, hnd⟩ := hW
  have hA : DataW.TrodAll enc Try.prog W 0 (fun _ => true) true Try.f8.params.toList args.toList ds p := hA0
  rw [Try.params8] at hA hval
  obtain ⟨v0, vs0, d0, ds0, p0, q0, hargs, rfl, rfl, h0, r0⟩ := trodAll_cons hA
  obtain ⟨v1, vs1, d1, ds1, p1, q1, rfl, rfl, rfl, h1, r1⟩ := trodAll_cons r0
  obtain ⟨v2, vs2, d2, ds2, p2, q2, rfl, rfl, rfl, h2, r2⟩ := trodAll_cons r1
  obtain ⟨rfl, rfl, rfl⟩ := trodAll_nil r2
  obtain rfl : args = #[v0, v1, v2] := by cases args; simp_all
  obtain ⟨rfl, rfl⟩ := trodVars_none hV
  have k0 := h0
  have lt0 : ∀ x ∈ p0, x.block < W.heap.size := by obtain ⟨m, hm⟩ := k0; exact DataW.trod_lt m _ _ _ hm
  obtain ⟨D0, P0, rfl, y0⟩ := open_v4 (hval 0 27 v0 rfl rfl) h0
  have k1 := h1
  have lt1 : ∀ x ∈ p1, x.block < W.heap.size := by obtain ⟨m, hm⟩ := k1; exact DataW.trod_lt m _ _ _ hm
  obtain ⟨n1, rfl, a1, b1⟩ := open_u8 Try.underlying5 (hval 1 5 v1 rfl rfl) h1
  have k2 := h2
  have lt2 : ∀ x ∈ p2, x.block < W.heap.size := by obtain ⟨m, hm⟩ := k2; exact DataW.trod_lt m _ _ _ hm
  obtain ⟨n2, rfl, a2, b2⟩ := open_u16 Try.underlying22 (hval 2 22 v2 rfl rfl) h2
  clear hA0 hval0
  refine (tells17_walk D0 P0 n1 n2 W y0 a1 b1 a2 b2).mono fun e W' ⟨he, bel⟩ => ?_
  subst he
  exact ⟨_, rfl, _, _, _, [], _, [], hW', trodAll_mk1 (shut_bool Try.underlying4 _), (trodAll_cons_mk (Below.trod laidOut_ (by kernel_rfl) (of_decide_eq_true (by kernel_rfl)) k0 bel lt0) (trodAll_cons_mk (Below.trod laidOut_ (by kernel_rfl) (of_decide_eq_true (by kernel_rfl)) k1 bel lt1) (trodAll_cons_mk (Below.trod laidOut_ (by kernel_rfl) (of_decide_eq_true (by kernel_rfl)) k2 bel lt2) trodAll_mk0))), rfl, bel.frame _, fun h => by cases h⟩

theorem over : Rows.tosixTellsRow.holds Try.pinned (OpenSpec.ofChange Rows.tosixTellsSpec) :=
  OpenClaim.holds_of_wide 8 Try.f8 rfl rfl rfl rfl rfl rfl rfl ⟨rfl, rfl, rfl, rfl, rfl⟩ rfl rfl rfl rfl rfl (by kernel_rfl) Try.func8 (by kernel_rfl)
    (of_decide_eq_true (by kernel_rfl)) (by unfold Func.isWrapper; first | (rw [if_pos (by decide +kernel)]; kernel_rfl) | (rw [if_neg (by decide +kernel)]; exact ⟨rfl, rfl⟩))
    (fun os started H enc _ => lifted os started H enc)

/-- the statement -/
theorem proved : Rows.TosixTellsSaid := over
#print axioms proved
end Go.Proofs.Ytijnifbpbgckgaa.tosixTells
