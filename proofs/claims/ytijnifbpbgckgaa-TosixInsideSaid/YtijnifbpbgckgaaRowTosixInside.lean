/-
  The row of TosixInside: for every input the call returns true, and each argument reads behind the call as it read before.
-/
import Derived.Test.YtijnifbpbgckgaaTiAA
import Derived.Test.YtijnifbpbgckgaaTiAB
import Derived.Test.YtijnifbpbgckgaaTiAC
import Derived.Test.YtijnifbpbgckgaaTiAD
import Derived.Test.YtijnifbpbgckgaaTiAE
import Derived.Test.YtijnifbpbgckgaaTiAF
import Derived.Test.YtijnifbpbgckgaaTiAG
import Derived.Test.YtijnifbpbgckgaaTiAH
import Derived.Test.YtijnifbpbgckgaaTiAI
import Derived.Test.YtijnifbpbgckgaaTiAJ
import Derived.Test.YtijnifbpbgckgaaTiAK
import Derived.Test.YtijnifbpbgckgaaTiAL
import Derived.Test.YtijnifbpbgckgaaTiAM
import Derived.Test.YtijnifbpbgckgaaTiAN
import Derived.Test.YtijnifbpbgckgaaTiAO
import Derived.Test.YtijnifbpbgckgaaTiAP
import Derived.Test.YtijnifbpbgckgaaTiAQ
import Derived.Test.YtijnifbpbgckgaaTiAR
import Derived.Test.YtijnifbpbgckgaaTiAS
import Derived.Test.YtijnifbpbgckgaaTiAT
import Derived.Test.YtijnifbpbgckgaaTiAU
import Derived.Test.YtijnifbpbgckgaaTiAV
import Derived.Test.YtijnifbpbgckgaaTiAW
import Derived.Test.YtijnifbpbgckgaaTiAX
import Derived.Test.YtijnifbpbgckgaaTiAY
import Derived.Test.YtijnifbpbgckgaaTiAZ
import Derived.Test.YtijnifbpbgckgaaTiBA
import Derived.Test.YtijnifbpbgckgaaTiBB
import Derived.Test.YtijnifbpbgckgaaTiBC
import Derived.Test.YtijnifbpbgckgaaTiBD
import Derived.Test.YtijnifbpbgckgaaTiBE
import Derived.Test.YtijnifbpbgckgaaTiBF
import Derived.Test.YtijnifbpbgckgaaTiBG
import Derived.Test.YtijnifbpbgckgaaTiBH
import Derived.Test.YtijnifbpbgckgaaTiBI
import Derived.Test.YtijnifbpbgckgaaTiBJ
import Derived.Test.YtijnifbpbgckgaaTiBK
import Derived.Test.YtijnifbpbgckgaaTiBL
import Derived.Test.YtijnifbpbgckgaaTiBM
import Derived.Test.YtijnifbpbgckgaaTiBN
import Derived.Test.YtijnifbpbgckgaaTiBO
namespace Go.Proofs.Ytijnifbpbgckgaa.tosixInside
open Go.ChangeShapes Go.WideShapes Go.ChangeAt Go.RowKit
set_option linter.unusedVariables false

set_option maxRecDepth 100000 in
theorem lifted (os : Os) (started : os.Started) (H : Type) (enc : TypeId × Value → H) :
    ReturnsInHanded {} Try.checked os 5 .any (Rows.tosixInsideSpec.pre6 enc Try.prog Try.f5 Rows.tosixInsideRow.domain false) (Rows.tosixInsideSpec.post enc Try.prog Try.f5 false true false false) := by
  refine returnsInHanded_of_change (C := Try.checked) own_ started (by kernel_rfl) Try.func5
    (ChangeSpec.witness6 (enc := enc) (C := Try.checked) false ⟨#[], #[.slice none 0 0, .agg #[.int .u8 0, .int .u8 0, .int .u8 0, .int .u8 0, .int .u8 0, .int .u8 0, .int .u8 0, .int .u8 0, .int .u8 0, .int .u8 0, .int .u8 0, .int .u8 0, .int .u8 0, .int .u8 0, .int .u8 0, .int .u8 0, .int .u8 0, .int .u8 0, .int .u8 0, .int .u8 0, .int .u8 0, .int .u8 0, .int .u8 0, .int .u8 0, .int .u8 0, .int .u8 0, .int .u8 0, .int .u8 0, .int .u8 0, .int .u8 0, .int .u8 0, .int .u8 0]], []⟩ 8 (by kernel_rfl) (by kernel_rfl) (by kernel_rfl) (by kernel_rfl)) ?_
  intro W base args ds gs before hval0 hW hcnd _
  have hval : ∀ (j : Nat) t v, Try.f5.params[j]? = some t → args[j]? = some v → Value.okWide Try.prog W .any base t v := hval0
  have hW' := hW
  obtain ⟨p, q, hA0, hV, rfl, hfz, hnd⟩ := hW
  have hA : DataW.TrodAll enc Try.prog W 0 (fun _ => true) true Try.f5.params.toList args.toList ds p := hA0
  rw [Try.params5] at hA hval
  obtain ⟨v0, vs0, d0, ds0, p0, q0, hargs, rfl, rfl, h0, r0⟩ := trodAll_cons hA
  obtain ⟨v1, vs1, d1, ds1, p1, q1, rfl, rfl, rfl, h1, r1⟩ := trodAll_cons r0
  obtain ⟨rfl, rfl, rfl⟩ := trodAll_nil r1
  obtain rfl : args = #[v0, v1] := by cases args; simp_all
  obtain ⟨rfl, rfl⟩ := trodVars_none hV
  have k0 := h0
  have lt0 : ∀ x ∈ p0, x.block < W.heap.size := by obtain ⟨m, hm⟩ := k0; exact DataW.trod_lt m _ _ _ hm
  obtain ⟨A0, c0, l0, rfl, y0⟩ := open_bytes Try.underlying25 Try.underlying5 (by kernel_rfl) (hval 0 25 v0 rfl rfl) h0
  have k1 := h1
  have lt1 : ∀ x ∈ p1, x.block < W.heap.size := by obtain ⟨m, hm⟩ := k1; exact DataW.trod_lt m _ _ _ hm
  obtain ⟨S1, T1, rfl, y1⟩ := open_ends6 (hval 1 31 v1 rfl rfl) h1
  clear hA0 hval0
  refine (inside17_walk A0 c0 l0 S1 T1 W y0 y1).mono fun e W' ⟨he, bel⟩ => ?_
  subst he
  exact ⟨_, rfl, _, _, _, [], _, [], hW', trodAll_mk1 (shut_bool Try.underlying4 _), (trodAll_cons_mk (Below.trod laidOut_ (by kernel_rfl) (of_decide_eq_true (by kernel_rfl)) k0 bel lt0) (trodAll_cons_mk (Below.trod laidOut_ (by kernel_rfl) (of_decide_eq_true (by kernel_rfl)) k1 bel lt1) trodAll_mk0)), rfl, bel.frame _, fun h => by cases h⟩

theorem over : Rows.tosixInsideRow.holds Try.pinned (OpenSpec.ofChange Rows.tosixInsideSpec) :=
  OpenClaim.holds_of_wide 5 Try.f5 rfl rfl rfl rfl rfl rfl rfl ⟨rfl, rfl, rfl, rfl, rfl⟩ rfl rfl rfl rfl rfl (by kernel_rfl) Try.func5 (by kernel_rfl)
    (of_decide_eq_true (by kernel_rfl)) (by unfold Func.isWrapper; first | (rw [if_pos (by decide +kernel)]; kernel_rfl) | (rw [if_neg (by decide +kernel)]; exact ⟨rfl, rfl⟩))
    (fun os started H enc _ => lifted os started H enc)

/-- the statement -/
theorem proved : Rows.TosixInsideSaid := over
#print axioms proved
end Go.Proofs.Ytijnifbpbgckgaa.tosixInside
