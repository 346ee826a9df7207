/-
  The row of TosixMessages: for every input the call returns true, and each argument reads behind the call as it read before.
-/
import Derived.Test.YtijnifbpbgckgaaTmAA
import Derived.Test.YtijnifbpbgckgaaTmAB
import Derived.Test.YtijnifbpbgckgaaTmAC
import Derived.Test.YtijnifbpbgckgaaTmAD
import Derived.Test.YtijnifbpbgckgaaTmAE
import Derived.Test.YtijnifbpbgckgaaTmAF
import Derived.Test.YtijnifbpbgckgaaTmAG
import Derived.Test.YtijnifbpbgckgaaTmAH
import Derived.Test.YtijnifbpbgckgaaTmAI
import Derived.Test.YtijnifbpbgckgaaTmAJ
import Derived.Test.YtijnifbpbgckgaaTmAK
import Derived.Test.YtijnifbpbgckgaaTmAL
import Derived.Test.YtijnifbpbgckgaaTmAM
import Derived.Test.YtijnifbpbgckgaaTmAN
import Derived.Test.YtijnifbpbgckgaaTmAO
import Derived.Test.YtijnifbpbgckgaaTmAP
import Derived.Test.YtijnifbpbgckgaaTmAQ
import Derived.Test.YtijnifbpbgckgaaTmAR
import Derived.Test.YtijnifbpbgckgaaTmAS
import Derived.Test.YtijnifbpbgckgaaTmAT
import Derived.Test.YtijnifbpbgckgaaTmAU
import Derived.Test.YtijnifbpbgckgaaTmAV
import Derived.Test.YtijnifbpbgckgaaTmAW
import Derived.Test.YtijnifbpbgckgaaTmAX
import Derived.Test.YtijnifbpbgckgaaTmAY
import Derived.Test.YtijnifbpbgckgaaTmAZ
import Derived.Test.YtijnifbpbgckgaaTmBA
import Derived.Test.YtijnifbpbgckgaaTmBB
import Derived.Test.YtijnifbpbgckgaaTmBC
import Derived.Test.YtijnifbpbgckgaaTmBD
import Derived.Test.YtijnifbpbgckgaaTmBE
import Derived.Test.YtijnifbpbgckgaaTmBF
import Derived.Test.YtijnifbpbgckgaaTmBG
import Derived.Test.YtijnifbpbgckgaaTmBH
import Derived.Test.YtijnifbpbgckgaaTmBI
import Derived.Test.YtijnifbpbgckgaaTmBJ
import Derived.Test.YtijnifbpbgckgaaTmBK
import Derived.Test.YtijnifbpbgckgaaTmBL
import Derived.Test.YtijnifbpbgckgaaTmBM
import Derived.Test.YtijnifbpbgckgaaTmBN
import Derived.Test.YtijnifbpbgckgaaTmBO
import Derived.Test.YtijnifbpbgckgaaTmBP
import Derived.Test.YtijnifbpbgckgaaTmBQ
namespace Go.Proofs.Ytijnifbpbgckgaa.tosixMessages
open Go.ChangeShapes Go.WideShapes Go.ChangeAt Go.RowKit
set_option linter.unusedVariables false

set_option maxRecDepth 100000 in
theorem lifted (os : Os) (started : os.Started) (H : Type) (enc : TypeId × Value → H) :
    ReturnsInHanded {} Try.checked os 4 .any (Rows.tosixMessagesSpec.pre6 enc Try.prog Try.f4 Rows.tosixMessagesRow.domain false) (Rows.tosixMessagesSpec.post enc Try.prog Try.f4 false true false false) := by
  refine returnsInHanded_of_change (C := Try.checked) own_ started (by kernel_rfl) Try.func4
    (ChangeSpec.witness6 (enc := enc) (C := Try.checked) false ⟨#[], #[.agg #[.int .u8 0, .int .u8 0, .int .u32 0, .slice none 0 0], .agg #[.int .u8 0, .int .u8 0, .int .u8 0, .int .u8 0, .int .u8 0, .int .u8 0, .int .u8 0, .int .u8 0, .int .u8 0, .int .u8 0, .int .u8 0, .int .u8 0, .int .u8 0, .int .u8 0, .int .u8 0, .int .u8 0, .int .u8 0, .int .u8 0, .int .u8 0, .int .u8 0, .int .u8 0, .int .u8 0, .int .u8 0, .int .u8 0, .int .u8 0, .int .u8 0, .int .u8 0, .int .u8 0, .int .u8 0, .int .u8 0, .int .u8 0, .int .u8 0]], []⟩ 8 (by kernel_rfl) (by kernel_rfl) (by kernel_rfl) (by kernel_rfl)) ?_
  intro W base args ds gs before hval0 hW hcnd _
  have hval : ∀ (j : Nat) t v, Try.f4.params[j]? = some t → args[j]? = some v → Value.okWide Try.prog W .any base t v := hval0
  have hW' := hW
  obtain ⟨p, q, hA0, hV, rfl, hfz, hnd⟩ := hW
  have hA : DataW.TrodAll enc Try.prog W 0 (fun _ => true) true Try.f4.params.toList args.toList ds p := hA0
  rw [Try.params4] at hA hval
  obtain ⟨v0, vs0, d0, ds0, p0, q0, hargs, rfl, rfl, h0, r0⟩ := trodAll_cons hA
  obtain ⟨v1, vs1, d1, ds1, p1, q1, rfl, rfl, rfl, h1, r1⟩ := trodAll_cons r0
  obtain ⟨rfl, rfl, rfl⟩ := trodAll_nil r1
  obtain rfl : args = #[v0, v1] := by cases args; simp_all
  obtain ⟨rfl, rfl⟩ := trodVars_none hV
  have k0 := h0
  have lt0 : ∀ x ∈ p0, x.block < W.heap.size := by obtain ⟨m, hm⟩ := k0; exact DataW.trod_lt m _ _ _ hm
  obtain ⟨D0, A0, c0, rfl, y0⟩ := open_icmp (hval 0 46 v0 rfl rfl) h0
  have k1 := h1
  have lt1 : ∀ x ∈ p1, x.block < W.heap.size := by obtain ⟨m, hm⟩ := k1; exact DataW.trod_lt m _ _ _ hm
  obtain ⟨S1, T1, rfl, y1⟩ := open_ends6 (hval 1 31 v1 rfl rfl) h1
  clear hA0 hval0
  refine (messages17_walk D0 A0 c0 S1 T1 W y0 y1).mono fun e W' ⟨he, bel⟩ => ?_
  subst he
  exact ⟨_, rfl, _, _, _, [], _, [], hW', trodAll_mk1 (shut_bool Try.underlying4 _), (trodAll_cons_mk (Below.trod laidOut_ (by kernel_rfl) (of_decide_eq_true (by kernel_rfl)) k0 bel lt0) (trodAll_cons_mk (Below.trod laidOut_ (by kernel_rfl) (of_decide_eq_true (by kernel_rfl)) k1 bel lt1) trodAll_mk0)), rfl, bel.frame _, fun h => by cases h⟩

theorem over : Rows.tosixMessagesRow.holds Try.pinned (OpenSpec.ofChange Rows.tosixMessagesSpec) :=
  OpenClaim.holds_of_wide 4 Try.f4 rfl rfl rfl rfl rfl rfl rfl ⟨rfl, rfl, rfl, rfl, rfl⟩ rfl rfl rfl rfl rfl (by kernel_rfl) Try.func4 (by kernel_rfl)
    (of_decide_eq_true (by kernel_rfl)) (by unfold Func.isWrapper; first | (rw [if_pos (by decide +kernel)]; kernel_rfl) | (rw [if_neg (by decide +kernel)]; exact ⟨rfl, rfl⟩))
    (fun os started H enc _ => lifted os started H enc)

/-- the statement -/
theorem proved : Rows.TosixMessagesSaid := over
#print axioms proved
end Go.Proofs.Ytijnifbpbgckgaa.tosixMessages
