/-
  The walks of icmp.WithIdent, the reference's WithIdent, the laws' cut.
-/
import Derived.Test.YtgigdaemecokbaaRRRIcC
import Derived.Test.YtgigdaemecokbaaRRRIcD
namespace Go.Proofs.YtgigdaemecokbaaRRR
open Go.RowKit Go.Shelf

/-- a message with another identifier -/
def withId (d : D7) (id : Int) : D7 := { d with rest := id * 65536 + d.rest % 65536 }
theorem withId_ok {d : D7} (hd : d.ok) {id : Int} (h : 0 ≤ id ∧ id < 65536) : (withId d id).ok := by
  have := hd.rest
  exact ⟨hd.ty, hd.code, by simp only [withId]; omega⟩
/-- a message that is told -/
def Msg7 (base : Nat) (w' : World) (d : D7) (e : Ending) : Prop := ∃ A c, e = .returned (.agg (d.cells A c)) ∧ d.ok ∧ OwnB w' base (.slice A d.bl.length c) d.bl

set_option maxRecDepth 100000 in
theorem withIdent_any (d : D7) (A : Option Addr) (c : Nat) (id : Int) (hid : 0 ≤ id ∧ id < 65536) (w : World) (hR : Rd7 w.heap.size w d A c) (hm : d.bl.length ≤ 140737488355328) :
    Calls Try.prog 7 #[.agg (d.cells A c), .int .u16 id] w fun e w' => Msg7 w.heap.size w' (withId d id) e ∧ Below w.heap.size w w' := by
  have hok := withId_ok hR.ok hid
  have rr := hR.ok.rest
  have o1 : bits .and .u32 d.rest 65535 = d.rest % 65536 := and_u32 16 _ (by decide) (by decide) rr.1 rr.2
  have o2 : bits .or .u32 (id * 65536) (d.rest % 65536) = id * 65536 + d.rest % 65536 := or_u32 16 (by omega) (by omega) (by omega) (by omega) (by omega) (by omega)
  have hH : Has ((w.alloc (.cells ((withId d id).cells A c) 25)).alloc (.cells #[.int .u8 0, .int .u8 0, .int .u32 0, .slice none 0 0] 25)) w.heap.size (.cells ((withId d id).cells A c) 25 (0, 0)) := (Has.newAt rfl).alloc
  have hN : Has ((w.alloc (.cells ((withId d id).cells A c) 25)).alloc (.cells #[.int .u8 0, .int .u8 0, .int .u32 0, .slice none 0 0] 25)) (w.heap.size + 1) (.cells #[.int .u8 0, .int .u8 0, .int .u32 0, .slice none 0 0] 25 (0, 0)) := Has.newAt (by simp)
  have hB : Below w.heap.size w ((w.alloc (.cells ((withId d id).cells A c) 25)).alloc (.cells #[.int .u8 0, .int .u8 0, .int .u32 0, .slice none 0 0] 25)) := ((Below.refl _ _).alloc (Nat.le_refl _) _).alloc (by simp) _
  have hcl := Lib.hid (clone_any A c d.bl ((w.alloc (.cells ((withId d id).cells A c) 25)).alloc (.cells #[.int .u8 0, .int .u8 0, .int .u32 0, .slice none 0 0] 25)) ((hR.body.below hB (Nat.le_refl _)).more hB.size) hm)
  unfold D7.cells
  go_enter Try.func7, Try.ntmps7
  go_wp2_with fail
  refine hcl.out.mono ?_
  rintro e w1 ⟨v, rfl, ho, hb1⟩
  obtain ⟨A', c', rfl, _⟩ := own_shape ho.own
  have hH1 := hH.below hb1 hH.lt
  have hN1 := hN.below hb1 hN.lt
  have hB1 := hB.trans (hb1.mono hB.size)
  have d3 := hH1.cell 3 (v := .slice A d.bl.length c) rfl
  have f3 := hH1.free 3
  have hH2 : Has (w1.setCell ⟨w.heap.size, 3, none⟩ (.slice A' d.bl.length c')) w.heap.size (.cells ((withId d id).cells A' c') 25 (0, 0)) := hH1.setCell 3 (.slice A' d.bl.length c')
  have hN2 := hN1.setCell_other (Nat.succ_ne_self _) 3 (.slice A' d.bl.length c')
  have hB2 := below_setCell hB1 (Nat.le_refl _) 3 (.slice A' d.bl.length c')
  have ho2 := ho.setCell (g := w.heap.size) (by have := hH.lt; exact this) 3 (.slice A' d.bl.length c')
  have hszH := Lib.hid hB.size
  have hgH := Lib.hid hH.lt
  clear hcl hb1 hH1 hN1 hB1 hH hN hB ho
  go_wp2_with (first
    | (refine wpList_load_row rfl 25 (.tmp 2) rfl w.heap.size rfl 25 ((withId d id).cells A' c') (0, 0) _ hH2 Try.underlying25 rfl icmp_info ?_)
    | (refine wpList_store_row rfl 25 (.tmp 4) (.tmp 17) rfl (w.heap.size + 1) _ rfl rfl 25 _ hN2 icmp_info rfl (by simp [D7.cells, Value.oneCell']) ?_))
  exact bodyPost_ret (res_cell Try.results7 rfl (hN2.setRow_same.load (P := Try.prog) 25 Try.underlying25 rfl icmp_info)) rfl ⟨⟨A', c', rfl, hok, (ho2.setRow (by have := hgH.out; simp at this ⊢)).more hszH.out⟩, hB2.trans (below_setRow'.mono (by omega))⟩

set_option maxRecDepth 100000 in
theorem rwithIdent_any (d : D7) (A : Option Addr) (c : Nat) (id : Int) (hid : 0 ≤ id ∧ id < 65536) (w : World) (hR : Rd7 w.heap.size w d A c) (hm : d.bl.length ≤ 140737488355328) :
    Calls Try.prog 15 #[.agg (d.cells A c), .int .u16 id] w fun e w' => Msg7 w.heap.size w' (withId d id) e ∧ Below w.heap.size w w' := by
  have hok := withId_ok hR.ok hid
  have rr := hR.ok.rest
  have hH : Has ((w.alloc (.cells ((withId d id).cells A c) 25)).alloc (.cells #[.int .u8 0, .int .u8 0, .int .u32 0, .slice none 0 0] 25)) w.heap.size (.cells ((withId d id).cells A c) 25 (0, 0)) := (Has.newAt rfl).alloc
  have hN : Has ((w.alloc (.cells ((withId d id).cells A c) 25)).alloc (.cells #[.int .u8 0, .int .u8 0, .int .u32 0, .slice none 0 0] 25)) (w.heap.size + 1) (.cells #[.int .u8 0, .int .u8 0, .int .u32 0, .slice none 0 0] 25 (0, 0)) := Has.newAt (by simp)
  have hB : Below w.heap.size w ((w.alloc (.cells ((withId d id).cells A c) 25)).alloc (.cells #[.int .u8 0, .int .u8 0, .int .u32 0, .slice none 0 0] 25)) := ((Below.refl _ _).alloc (Nat.le_refl _) _).alloc (by simp) _
  have yB := ((hR.body.below hB (Nat.le_refl _)).more hB.size).alloc (Nat.le_refl _) (.cells #[] 5)
  have own0 := OwnB.madeAt (w := ((w.alloc (.cells ((withId d id).cells A c) 25)).alloc (.cells #[.int .u8 0, .int .u8 0, .int .u32 0, .slice none 0 0] 25))) (base := (((w.alloc (.cells ((withId d id).cells A c) 25)).alloc (.cells #[.int .u8 0, .int .u8 0, .int .u32 0, .slice none 0 0] 25))).heap.size) (g := w.heap.size + 1 + 1) (by simp) (Nat.le_refl _)
  have hlt : w.heap.size < (((w.alloc (.cells ((withId d id).cells A c) 25)).alloc (.cells #[.int .u8 0, .int .u8 0, .int .u32 0, .slice none 0 0] 25))).heap.size ∧ w.heap.size + 1 < (((w.alloc (.cells ((withId d id).cells A c) 25)).alloc (.cells #[.int .u8 0, .int .u8 0, .int .u32 0, .slice none 0 0] 25))).heap.size := ⟨by simp; omega, by simp⟩
  unfold D7.cells
  go_enter Try.func15, Try.ntmps15
  go_wp2_with (first
    | (at_builtin; refine wpList_appB _ rfl _ _ _ rfl Try.underlying23 info8 (((w.alloc (.cells ((withId d id).cells A c) 25)).alloc (.cells #[.int .u8 0, .int .u8 0, .int .u32 0, .slice none 0 0] 25))).heap.size _ _ rfl own0 _ A d.bl.length c d.bl rfl yB (by simpa using hm) (by simp) ?_; intro v' w1 ho hg hat; have hb1 := below_app own0 hg (by simp); rw [List.nil_append] at ho; obtain ⟨A', c', rfl, _⟩ := own_shape ho.own; have hH1 := hH.alloc.below hb1 hlt.1; have hN1 := hN.alloc.below hb1 hlt.2; have hB1 := (hB.alloc hB.size (.cells #[] 5)).trans (hb1.mono hB.size); have d3 := hH1.cell 3 (v := .slice A d.bl.length c) rfl; have f3 := hH1.free 3;
        have hH2 : Has (w1.setCell ⟨w.heap.size, 3, none⟩ (.slice A' d.bl.length c')) w.heap.size (.cells ((withId d id).cells A' c') 25 (0, 0)) := hH1.setCell 3 (.slice A' d.bl.length c'); have hN2 := hN1.setCell_other (Nat.succ_ne_self _) 3 (.slice A' d.bl.length c'); have hB2 := below_setCell hB1 (Nat.le_refl _) 3 (.slice A' d.bl.length c'); have ho2 := ho.setCell (g := w.heap.size) hlt.1 3 (.slice A' d.bl.length c'))
    | (refine wpList_load_row rfl 25 (.tmp 2) rfl w.heap.size rfl 25 ((withId d id).cells A' c') (0, 0) _ hH2 Try.underlying25 rfl icmp_info ?_)
    | (refine wpList_store_row rfl 25 (.tmp 4) (.tmp 18) rfl (w.heap.size + 1) _ rfl rfl 25 _ hN2 icmp_info rfl (by simp [D7.cells, Value.oneCell']) ?_))
  exact bodyPost_ret (res_cell Try.results15 rfl (hN2.setRow_same.load (P := Try.prog) 25 Try.underlying25 rfl icmp_info)) rfl ⟨⟨A', c', rfl, hok, (ho2.setRow hlt.2).more hB.size⟩, hB2.trans (below_setRow'.mono (by omega))⟩

/-- how long a body is looked at -/
def cut7 (l : List Int) : List Int := l.take 70000
theorem cut7_len (l : List Int) : (cut7 l).length ≤ 70000 := by unfold cut7; rw [List.length_take]; omega
theorem cut7_any (B : Nat) (A : Option Addr) (c : Nat) (l : List Int) (w : World) (hl : By B w A l.length c l) :
    Calls Try.prog 6 #[.slice A l.length c] w fun e w' => e = .returned (.slice A (cut7 l).length c) ∧ By B w A (cut7 l).length c (cut7 l) ∧ w = w' := by
  have hbig := Nat.le_trans hl.cap hl.big
  have hcap := hl.cap
  by_cases h : 70000 < l.length
  · have e : (cut7 l).length = 70000 := by unfold cut7; rw [List.length_take]; omega
    have hy := hl.take (k := 70000) (by omega)
    rw [e]
    clear e
    have hy : By B w A 70000 c (cut7 l) := hy
    have h1 : (70000 : Int) ≤ (c : Int) := by omega
    go_enter Try.func6, Try.ntmps6
    go_wp2
    go_ret
    exact ⟨rfl, hy, rfl⟩
  · have e : cut7 l = l := List.take_of_length_le (by omega)
    rw [e]
    go_enter Try.func6, Try.ntmps6
    go_wp2
    go_ret
    exact ⟨rfl, hl, rfl⟩
end Go.Proofs.YtgigdaemecokbaaRRR
