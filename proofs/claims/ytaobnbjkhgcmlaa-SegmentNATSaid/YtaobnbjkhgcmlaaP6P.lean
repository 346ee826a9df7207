/-
  What bytes are as a datagram or a segment: in plain numbers.
-/
import Derived.Test.YtaobnbjkhgcmlaaTw6
namespace Go.Proofs.Ytaobnbjkhgcmlaa
open Go.RowKit Go.Shelf

def noU : DU := ⟨0, 0, []⟩
def noT : DT := ⟨0, 0, 0, 0, 0, 0, 0, [], []⟩
def noP : WT := ⟨none, 0, none, 0⟩
/-- the error of bytes as a UDP datagram under a pseudo header -/
def uErr (must : Bool) (ps l : List Int) : Int :=
  if l.length < 8 then 60 else if be2 l 4 ≠ l.length then 61 else if (be2 l 6 = 0 ∧ must = true) ∨ (be2 l 6 ≠ 0 ∧ sumw (ps ++ l) ≠ 65535) then 62 else 0
def uOf (l : List Int) : DU := ⟨be2 l 0, be2 l 2, l.drop 8⟩
def uGot (must : Bool) (ps l : List Int) : DU := if uErr must ps l = 0 then uOf l else noU
def uNone (must : Bool) (ps l : List Int) : Bool := if uErr must ps l = 0 then decide (be2 l 6 = 0) else false
/-- the error of bytes as a segment under a pseudo header -/
def tHead (l : List Int) : Int := l.getD 12 0 / 16 * 4
def tErr (ps l : List Int) : Int :=
  if l.length < 20 then 60 else if tHead l < 20 ∨ (l.length : Int) < tHead l then 61 else if 65535 < l.length then 2 else if sumw (ps ++ l) ≠ 65535 then 62 else 0
def tOf (l : List Int) : DT := ⟨be2 l 0, be2 l 2, be4 l 4, be4 l 8, l.getD 13 0 % 64, be2 l 14, be2 l 18, (l.take (tHead l).toNat).drop 20, l.drop (tHead l).toNat⟩
def tGot (ps l : List Int) : DT := if tErr ps l = 0 then tOf l else noT

/-- a datagram that is told -/
def ToldU (d : DU) (q : Bool) (s : Int) (w : World) (e : Ending) (w' : World) : Prop := ∃ A c, e = .returned (.tuple #[.agg (d.cells A c), .bool q, .int .i64 s]) ∧ d.ok ∧ OwnB w' w.heap.size (.slice A d.bl.length c) d.bl ∧ Below w.heap.size w w'
def ToldT (d : DT) (s : Int) (w : World) (e : Ending) (w' : World) : Prop := ∃ p, e = .returned (.tuple #[.agg (d.cells p), .int .i64 s]) ∧ d.ok ∧ OwnB w' w.heap.size (.slice p.oA d.ol.length p.oc) d.ol ∧ OwnB w' w.heap.size (.slice p.bA d.bl.length p.bc) d.bl ∧ Below w.heap.size w w'
theorem noU_ok : noU.ok := ⟨by decide, by decide⟩
theorem noT_ok : noT.ok := ⟨by decide, by decide, by decide, by decide, by decide, by decide, by decide⟩
theorem uOf_ok {l : List Int} (h : InB l) : (uOf l).ok := ⟨be2_rng h 0, be2_rng h 2⟩
theorem tOf_ok {l : List Int} (h : InB l) : (tOf l).ok := ⟨be2_rng h 0, be2_rng h 2, be4_rng h 4, be4_rng h 8, by have := getD_rng h 13; show 0 ≤ l.getD 13 0 % 64 ∧ l.getD 13 0 % 64 ≤ 255; omega, be2_rng h 14, be2_rng h 18⟩
theorem uGot_err {must : Bool} {ps l : List Int} (h : uErr must ps l ≠ 0) : uGot must ps l = noU ∧ uNone must ps l = false := by simp [uGot, uNone, h]
theorem uGot_ok {must : Bool} {ps l : List Int} (h : uErr must ps l = 0) : uGot must ps l = uOf l ∧ uNone must ps l = decide (be2 l 6 = 0) := by simp [uGot, uNone, h]
theorem tGot_err {ps l : List Int} (h : tErr ps l ≠ 0) : tGot ps l = noT := by simp [tGot, h]
theorem tGot_ok {ps l : List Int} (h : tErr ps l = 0) : tGot ps l = tOf l := by simp [tGot, h]
end Go.Proofs.Ytaobnbjkhgcmlaa
