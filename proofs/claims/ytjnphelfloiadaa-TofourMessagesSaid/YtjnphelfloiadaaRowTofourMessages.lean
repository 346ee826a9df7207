/-
  The row of TofourMessages: for every input the call returns true, and each argument reads behind the call as it read before.
-/
import Derived.Test.YtjnphelfloiadaaFpAA
import Derived.Test.YtjnphelfloiadaaFpAB
import Derived.Test.YtjnphelfloiadaaFpAC
import Derived.Test.YtjnphelfloiadaaFpAD
import Derived.Test.YtjnphelfloiadaaFpAE
import Derived.Test.YtjnphelfloiadaaFpAF
import Derived.Test.YtjnphelfloiadaaFpAG
import Derived.Test.YtjnphelfloiadaaFpAH
import Derived.Test.YtjnphelfloiadaaFpAI
import Derived.Test.YtjnphelfloiadaaFpAJ
import Derived.Test.YtjnphelfloiadaaFpAK
import Derived.Test.YtjnphelfloiadaaFpAL
import Derived.Test.YtjnphelfloiadaaFpAM
import Derived.Test.YtjnphelfloiadaaFpAN
import Derived.Test.YtjnphelfloiadaaFpAO
import Derived.Test.YtjnphelfloiadaaFpAP
import Derived.Test.YtjnphelfloiadaaFpAQ
import Derived.Test.YtjnphelfloiadaaFpAR
import Derived.Test.YtjnphelfloiadaaFpAS
import Derived.Test.YtjnphelfloiadaaFpAT
import Derived.Test.YtjnphelfloiadaaFpAU
import Derived.Test.YtjnphelfloiadaaFpAV
import Derived.Test.YtjnphelfloiadaaFpAW
import Derived.Test.YtjnphelfloiadaaFpAX
import Derived.Test.YtjnphelfloiadaaFpAY
import Derived.Test.YtjnphelfloiadaaFpAZ
import Derived.Test.YtjnphelfloiadaaFpBA
import Derived.Test.YtjnphelfloiadaaFpBB
import Derived.Test.YtjnphelfloiadaaFpBC
import Derived.Test.YtjnphelfloiadaaFpBD
import Derived.Test.YtjnphelfloiadaaFpBE
import Derived.Test.YtjnphelfloiadaaFpBF
import Derived.Test.YtjnphelfloiadaaFpBG
import Derived.Test.YtjnphelfloiadaaFpBH
import Derived.Test.YtjnphelfloiadaaFpBI
import Derived.Test.YtjnphelfloiadaaFpBJ
import Derived.Test.YtjnphelfloiadaaFpBK
import Derived.Test.YtjnphelfloiadaaFpBL
import Derived.Test.YtjnphelfloiadaaFpBM
import Derived.Test.YtjnphelfloiadaaFpBN
import Derived.Test.YtjnphelfloiadaaFpBO
import Derived.Test.YtjnphelfloiadaaFpBP
namespace Go.Proofs.Ytjnphelfloiadaa.tofourMessages
open Go.ChangeShapes Go.WideShapes Go.ChangeAt Go.RowKit
set_option linter.unusedVariables false

set_option maxRecDepth 100000 in
theorem lifted (os : Os) (started : os.Started) (H : Type) (enc : TypeId × Value → H) :
    ReturnsInHanded {} Try.checked os 4 .any (Rows.tofourMessagesSpec.pre6 enc Try.prog Try.f4 Rows.tofourMessagesRow.domain false) (Rows.tofourMessagesSpec.post enc Try.prog Try.f4 false true false false) := by
  refine returnsInHanded_of_change (C := Try.checked) own_ started (by kernel_rfl) Try.func4
    (ChangeSpec.witness6 (enc := enc) (C := Try.checked) false ⟨#[], #[.agg #[.int .u8 0, .int .u8 0, .int .u32 0, .slice none 0 0], .agg #[.int .u8 0, .int .u8 0, .int .u8 0, .int .u8 0, .int .u8 0, .int .u8 0, .int .u8 0, .int .u8 0]], []⟩ 8 (by kernel_rfl) (by kernel_rfl) (by kernel_rfl) (by kernel_rfl)) ?_
  intro W base args ds gs before hval0 hW hcnd _
  have hval : ∀ (j : Nat) t v, Try.f4.params[j]? = some t → args[j]? = some v → Value.okWide Try.prog W .any base t v := hval0
  have hW' := hW
  obtain ⟨p, q, hA0, hV, rfl, hfz, hnd⟩ := hW
  have hA : DataW.TrodAll enc Try.prog W 0 (fun _ => true) true Try.f4.params.toList args.toList ds p := hA0
  rw [Try.params4] at hA hval
  obtain ⟨v0, vs0, d0, ds0, p0, q0, hargs, rfl, rfl, h0, r0⟩ := trodAll_cons hA
  obtain ⟨v1, vs1, d1, ds1, p1, q1, rfl, rfl, rfl, h1, r1⟩ := trodAll_cons r0
  obtain ⟨rfl, rfl, rfl⟩ := trodAll_nil r1
  obtain rfl : args = #[v0, v1] := by cases args; simp_all
  obtain ⟨rfl, rfl⟩ := trodVars_none hV
  have k0 := h0
  have lt0 : ∀ x ∈ p0, x.block < W.heap.size := by obtain ⟨m, hm⟩ := k0; exact DataW.trod_lt m _ _ _ hm
  obtain ⟨D0, A0, c0, rfl, y0⟩ := open_icmp (hval 0 43 v0 rfl rfl) h0
  have k1 := h1
  have lt1 : ∀ x ∈ p1, x.block < W.heap.size := by obtain ⟨m, hm⟩ := k1; exact DataW.trod_lt m _ _ _ hm
  obtain ⟨S1, T1, rfl, y1⟩ := open_ends4 (hval 1 32 v1 rfl rfl) h1
  clear hA0 hval0
  refine (messages18_walk D0 A0 c0 S1 T1 W y0 y1).mono fun e W' ⟨he, bel⟩ => ?_
  subst he
  exact ⟨_, rfl, _, _, _, [], _, [], hW', trodAll_mk1 (shut_bool Try.underlying4 _), (trodAll_cons_mk (Below.trod laidOut_ (by kernel_rfl) (of_decide_eq_true (by kernel_rfl)) k0 bel lt0) (trodAll_cons_mk (Below.trod laidOut_ (by kernel_rfl) (of_decide_eq_true (by kernel_rfl)) k1 bel lt1) trodAll_mk0)), rfl, bel.frame _, fun h => by cases h⟩

theorem over : Rows.tofourMessagesRow.holds Try.pinned (OpenSpec.ofChange Rows.tofourMessagesSpec) :=
  OpenClaim.holds_of_wide 4 Try.f4 rfl rfl rfl rfl rfl rfl rfl ⟨rfl, rfl, rfl, rfl, rfl⟩ rfl rfl rfl rfl rfl (by kernel_rfl) Try.func4 (by kernel_rfl)
    (of_decide_eq_true (by kernel_rfl)) (by unfold Func.isWrapper; first | (rw [if_pos (by decide +kernel)]; kernel_rfl) | (rw [if_neg (by decide +kernel)]; exact ⟨rfl, rfl⟩))
    (fun os started H enc _ => lifted os started H enc)

/-- the statement -/
theorem proved : Rows.TofourMessagesSaid := over
#print axioms proved
end Go.Proofs.Ytjnphelfloiadaa.tofourMessages
