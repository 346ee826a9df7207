/-
  Bytes with other ports and addresses: in plain numbers.
-/
import Derived.Test.YtaobnbjkhgcmlaaP6P
import Derived.Test.YtaobnbjkhgcmlaaRup6
namespace Go.Proofs.Ytaobnbjkhgcmlaa
open Go.RowKit

def rwErr (proto : Int) (l f t : List Int) : Int := if proto ≠ 6 ∧ proto ≠ 17 then 64 else if l.length < 4 then 60 else if ¬ (f.length = t.length ∧ t.length % 2 = 0) then 10 else 0
def rwAt (proto : Int) : Nat := if proto = 6 then 16 else 6
def rwPorts (src dst : Int) : List Int := [src / 256, src % 256, dst / 256, dst % 256]
def rwOut (l : List Int) (src dst : Int) : List Int := rwPorts src dst ++ l.drop 4
def rwNone (proto : Int) (l : List Int) : Prop := l.length < rwAt proto + 2 ∨ (proto = 17 ∧ be2 l (rwAt proto) = 0)
def rwSum1 (proto : Int) (l f t : List Int) (src dst : Int) : Int := (updateS (updateS (be2 l (rwAt proto)) f t).1 (l.take 4) (rwPorts src dst)).1
def rwSum (proto : Int) (l f t : List Int) (src dst : Int) : Int := if rwSum1 proto l f t src dst = 0 ∧ proto = 17 then 65535 else rwSum1 proto l f t src dst
instance (proto : Int) (l : List Int) : Decidable (rwNone proto l) := by unfold rwNone; exact inferInstance
def rwBytes (proto : Int) (l f t : List Int) (src dst : Int) : List Int :=
  if rwErr proto l f t ≠ 0 then [] else if rwNone proto l then rwOut l src dst else set2 (rwOut l src dst) (rwAt proto) (rwSum proto l f t src dst)
theorem rwOut_len {l : List Int} (h : 4 ≤ l.length) (src dst : Int) : (rwOut l src dst).length = l.length := by simp [rwOut, rwPorts]; omega
theorem rwOut_set {l : List Int} (h : 4 ≤ l.length) (src dst : Int) : set2 (set2 l 0 src) 2 dst = rwOut l src dst := by
  match l, h with
  | a :: b :: c :: d :: r, _ => rfl
theorem rwOut_take {l : List Int} (src dst : Int) : (rwOut l src dst).take 4 = rwPorts src dst := rfl
theorem rwPorts_rng {src dst : Int} (hs : 0 ≤ src ∧ src < 65536) (hd : 0 ≤ dst ∧ dst < 65536) : InB (rwPorts src dst) := by
  intro x hx
  simp only [rwPorts, List.mem_cons, List.not_mem_nil, or_false] at hx
  omega
theorem rwSum1_rng {proto : Int} {l f t : List Int} {src dst : Int} (hl : InB l) (hf : InB f) (ht : InB t) (hs : 0 ≤ src ∧ src < 65536) (hd : 0 ≤ dst ∧ dst < 65536) : 0 ≤ rwSum1 proto l f t src dst ∧ rwSum1 proto l f t src dst < 65536 :=
  updateS_rng _ (updateS_rng _ (be2_rng hl _) f t hf ht) _ _ (hl.take 4) (rwPorts_rng hs hd)
end Go.Proofs.Ytaobnbjkhgcmlaa
