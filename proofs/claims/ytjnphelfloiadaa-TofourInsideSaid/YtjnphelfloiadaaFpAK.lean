/-
  Lemmas and walks for the row of TofourPackets,TofourMessages,TofourInside (part 11 of 42).
-/
import Derived.Test.YtjnphelfloiadaaFpAD
import Derived.Test.YtjnphelfloiadaaFpAG
import Derived.Test.YtjnphelfloiadaaFpAH
import Derived.Test.YtjnphelfloiadaaFpAJ
set_option linter.unusedVariables false
set_option linter.unusedSimpArgs false
namespace Go.Proofs.Ytjnphelfloiadaa
open Go.RowKit Go.Shelf

def same4 (d d' : D4) : Bool := decide (d.tos = d'.tos ∧ d.id = d'.id ∧ d.df = d'.df ∧ d.mf = d'.mf ∧ d.off = d'.off ∧ d.ttl = d'.ttl ∧ d.proto = d'.proto ∧ [d.s0, d.s1, d.s2, d.s3] = [d'.s0, d'.s1, d'.s2, d'.s3] ∧ [d.d0, d.d1, d.d2, d.d3] = [d'.d0, d'.d1, d'.d2, d'.d3] ∧ d.ol = d'.ol ∧ d.bl = d'.bl)
set_option maxRecDepth 100000 in
theorem rsame4_any (B1 B2 : Nat) (d d' : D4) (p p' : W4) (w : World) (yo : By B1 w p.oA d.ol.length p.oc d.ol) (zo : By B2 w p'.oA d'.ol.length p'.oc d'.ol) (yb : By B1 w p.bA d.bl.length p.bc d.bl) (zb : By B2 w p'.bA d'.bl.length p'.bc d'.bl)
  (hB1 : B1 ≤ w.heap.size) (hB2 : B2 ≤ w.heap.size) :
  Calls Try.prog 11 #[.agg (d.cells p), .agg (d'.cells p')] w fun e w' => ∃ q : Bool, e = .returned (.bool q) ∧ Hid (q = same4 d d') ∧ Below w.heap.size w w' := by
 have hB : Below w.heap.size w ((w.alloc (.cells (d.cells p) 35)).alloc (.cells (d'.cells p') 35)) := ((Below.refl _ _).alloc (Nat.le_refl _) _).alloc (by simp) _
 have hL : Has ((w.alloc (.cells (d.cells p) 35)).alloc (.cells (d'.cells p') 35)) w.heap.size (.cells (d.cells p) 35 (0, 0)) := (Has.newAt rfl).alloc
 have hR : Has ((w.alloc (.cells (d.cells p) 35)).alloc (.cells (d'.cells p') 35)) (w.alloc (.cells (d.cells p) 35)).heap.size (.cells (d'.cells p') 35 (0, 0)) := Has.newAt rfl
 have yo := yo.below hB hB1
 have zo := zo.below hB hB2
 have yb := yb.below hB hB1
 have zb := zb.below hB hB2
 go_enter Try.func11, Try.ntmps11
 -- CHAIN ferryman/ferrymanref04.Same same4.json
 refine wp_seq (wp_region_lit ?_)
 refine wl_box 35 _ _ rfl rfl rfl ?_
 simp only [lay]
 refine wl_box 35 _ _ rfl rfl rfl ?_
 simp only [lay]
 refine wl (.bool false) (by kernel_rfl) (by exact rfl) ?_
 simp only [lay]
 refine wpList_nil ?_
 change Code.wp _ _ _ _ _
 generalize (w.alloc (.cells (d.cells p) 35)).heap.size = g2 at hR ⊢
 generalize (w.alloc (.cells (d.cells p) 35)).alloc (.cells (d'.cells p') 35) = W at hL hR hB yo zo yb zb ⊢
 refine wp_seq (wp_region_lit ?_)
 refine wl (.pointer (some ⟨w.heap.size, 0, none⟩)) (by kernel_rfl) (by exact xf9 0 0 Try.underlying35) ?_
 simp only [lay]
 refine wl (.int .u8 d.tos) (by kernel_rfl) (by exact ex_cell (by exact rfl) Try.underlying5 rfl (by exact rfl) (hL.cell 0 rfl)) ?_
 simp only [lay]
 refine wl (.pointer (some ⟨g2, 0, none⟩)) (by kernel_rfl) (by exact xf9 0 0 Try.underlying35) ?_
 simp only [lay]
 refine wl (.int .u8 d'.tos) (by kernel_rfl) (by exact ex_cell (by exact rfl) Try.underlying5 rfl (by exact rfl) (hR.cell 0 rfl)) ?_
 simp only [lay]
 by_cases htos : d.tos = d'.tos
 ·refine wl (.bool true) (by kernel_rfl) (by exact eq_int_eq (by exact rfl) (by exact rfl) (by exact rfl) htos) ?_
  simp only [lay]
  refine wl (.bool true) (by kernel_rfl) (by exact rfl) ?_
  simp only [lay]
  refine wl (.pointer (some ⟨w.heap.size, 1, none⟩)) (by kernel_rfl) (by exact xf9 1 0 Try.underlying35) ?_
  simp only [lay]
  refine wl (.int .u16 d.id) (by kernel_rfl) (by exact ex_cell (by exact rfl) Try.underlying33 rfl (by exact rfl) (hL.cell 1 rfl)) ?_
  simp only [lay]
  refine wl (.pointer (some ⟨g2, 1, none⟩)) (by kernel_rfl) (by exact xf9 1 0 Try.underlying35) ?_
  simp only [lay]
  refine wl (.int .u16 d'.id) (by kernel_rfl) (by exact ex_cell (by exact rfl) Try.underlying33 rfl (by exact rfl) (hR.cell 1 rfl)) ?_
  simp only [lay]
  by_cases hid : d.id = d'.id
  ·refine wl (.bool true) (by kernel_rfl) (by exact eq_int_eq (by exact rfl) (by exact rfl) (by exact rfl) hid) ?_
   simp only [lay]
   refine wl (.bool true) (by kernel_rfl) (by exact rfl) ?_
   simp only [lay]
   refine wl (.bool true) (by kernel_rfl) (by exact rfl) ?_
   simp only [lay]
   refine wl (.pointer (some ⟨w.heap.size, 2, none⟩)) (by kernel_rfl) (by exact xf9 2 0 Try.underlying35) ?_
   simp only [lay]
   refine wl (.bool d.df) (by kernel_rfl) (by exact ex_cell (by exact rfl) Try.underlying4 rfl (by exact rfl) (hL.cell 2 rfl)) ?_
   simp only [lay]
   refine wl (.pointer (some ⟨g2, 2, none⟩)) (by kernel_rfl) (by exact xf9 2 0 Try.underlying35) ?_
   simp only [lay]
   refine wl (.bool d'.df) (by kernel_rfl) (by exact ex_cell (by exact rfl) Try.underlying4 rfl (by exact rfl) (hR.cell 2 rfl)) ?_
   simp only [lay]
   by_cases hdf : d.df = d'.df
   ·refine wl (.bool true) (by kernel_rfl) (by exact eq_bool_eq (by exact rfl) Try.underlying4 (by exact rfl) (by exact rfl) hdf) ?_
    simp only [lay]
    refine wl (.bool true) (by kernel_rfl) (by exact rfl) ?_
    simp only [lay]
    refine wl (.bool true) (by kernel_rfl) (by exact rfl) ?_
    simp only [lay]
    refine wl (.pointer (some ⟨w.heap.size, 3, none⟩)) (by kernel_rfl) (by exact xf9 3 0 Try.underlying35) ?_
    simp only [lay]
    refine wl (.bool d.mf) (by kernel_rfl) (by exact ex_cell (by exact rfl) Try.underlying4 rfl (by exact rfl) (hL.cell 3 rfl)) ?_
    simp only [lay]
    refine wl (.pointer (some ⟨g2, 3, none⟩)) (by kernel_rfl) (by exact xf9 3 0 Try.underlying35) ?_
    simp only [lay]
    refine wl (.bool d'.mf) (by kernel_rfl) (by exact ex_cell (by exact rfl) Try.underlying4 rfl (by exact rfl) (hR.cell 3 rfl)) ?_
    simp only [lay]
    by_cases hmf : d.mf = d'.mf
    ·refine wl (.bool true) (by kernel_rfl) (by exact eq_bool_eq (by exact rfl) Try.underlying4 (by exact rfl) (by exact rfl) hmf) ?_
     simp only [lay]
     refine wl (.bool true) (by kernel_rfl) (by exact rfl) ?_
     simp only [lay]
     refine wl (.bool true) (by kernel_rfl) (by exact rfl) ?_
     simp only [lay]
     refine wl (.pointer (some ⟨w.heap.size, 4, none⟩)) (by kernel_rfl) (by exact xf9 4 0 Try.underlying35) ?_
     simp only [lay]
     refine wl (.int .i64 d.off) (by kernel_rfl) (by exact ex_cell (by exact rfl) Try.underlying3 rfl (by exact rfl) (hL.cell 4 rfl)) ?_
     simp only [lay]
     refine wl (.pointer (some ⟨g2, 4, none⟩)) (by kernel_rfl) (by exact xf9 4 0 Try.underlying35) ?_
     simp only [lay]
     refine wl (.int .i64 d'.off) (by kernel_rfl) (by exact ex_cell (by exact rfl) Try.underlying3 rfl (by exact rfl) (hR.cell 4 rfl)) ?_
     simp only [lay]
     by_cases hoff : d.off = d'.off
     ·refine wl (.bool true) (by kernel_rfl) (by exact eq_int_eq (by exact rfl) (by exact rfl) (by exact rfl) hoff) ?_
      simp only [lay]
      refine wl (.bool true) (by kernel_rfl) (by exact rfl) ?_
      simp only [lay]
      refine wl (.bool true) (by kernel_rfl) (by exact rfl) ?_
      simp only [lay]
      refine wl (.pointer (some ⟨w.heap.size, 5, none⟩)) (by kernel_rfl) (by exact xf9 5 0 Try.underlying35) ?_
      simp only [lay]
      refine wl (.int .u8 d.ttl) (by kernel_rfl) (by exact ex_cell (by exact rfl) Try.underlying5 rfl (by exact rfl) (hL.cell 5 rfl)) ?_
      simp only [lay]
      refine wl (.pointer (some ⟨g2, 5, none⟩)) (by kernel_rfl) (by exact xf9 5 0 Try.underlying35) ?_
      simp only [lay]
      refine wl (.int .u8 d'.ttl) (by kernel_rfl) (by exact ex_cell (by exact rfl) Try.underlying5 rfl (by exact rfl) (hR.cell 5 rfl)) ?_
      simp only [lay]
      by_cases httl : d.ttl = d'.ttl
      ·refine wl (.bool true) (by kernel_rfl) (by exact eq_int_eq (by exact rfl) (by exact rfl) (by exact rfl) httl) ?_
       simp only [lay]
       refine wl (.bool true) (by kernel_rfl) (by exact rfl) ?_
       simp only [lay]
       refine wl (.bool true) (by kernel_rfl) (by exact rfl) ?_
       simp only [lay]
       refine wl (.pointer (some ⟨w.heap.size, 6, none⟩)) (by kernel_rfl) (by exact xf9 6 0 Try.underlying35) ?_
       simp only [lay]
       refine wl (.int .u8 d.proto) (by kernel_rfl) (by exact ex_cell (by exact rfl) Try.underlying5 rfl (by exact rfl) (hL.cell 6 rfl)) ?_
       simp only [lay]
       refine wl (.pointer (some ⟨g2, 6, none⟩)) (by kernel_rfl) (by exact xf9 6 0 Try.underlying35) ?_
       simp only [lay]
       refine wl (.int .u8 d'.proto) (by kernel_rfl) (by exact ex_cell (by exact rfl) Try.underlying5 rfl (by exact rfl) (hR.cell 6 rfl)) ?_
       simp only [lay]
       by_cases hproto : d.proto = d'.proto
       ·refine wl (.bool true) (by kernel_rfl) (by exact eq_int_eq (by exact rfl) (by exact rfl) (by exact rfl) hproto) ?_
        simp only [lay]
        refine wl (.bool true) (by kernel_rfl) (by exact rfl) ?_
        simp only [lay]
        refine wl (.bool true) (by kernel_rfl) (by exact rfl) ?_
        simp only [lay]
        refine wl (.pointer (some ⟨w.heap.size, 7, none⟩)) (by kernel_rfl) (by exact xf9 7 3 Try.underlying35) ?_
        simp only [lay]
        refine wl (.agg #[.int .u8 d.s0, .int .u8 d.s1, .int .u8 d.s2, .int .u8 d.s3]) (by kernel_rfl) (by exact ex_loadAt (by exact rfl) (by exact rfl) (hL.loadAt 7 [.int .u8 d.s0, .int .u8 d.s1, .int .u8 d.s2, .int .u8 d.s3] (by intro j v hj; match j, hj with | 0, hj => exact hj | 1, hj => exact hj | 2, hj => exact hj | 3, hj => exact hj | k + 4, hj => simp at hj) 30 Try.underlying30 rfl (by kernel_rfl))) ?_
        simp only [lay]
        refine wl (.pointer (some ⟨g2, 7, none⟩)) (by kernel_rfl) (by exact xf9 7 3 Try.underlying35) ?_
        simp only [lay]
        refine wl (.agg #[.int .u8 d'.s0, .int .u8 d'.s1, .int .u8 d'.s2, .int .u8 d'.s3]) (by kernel_rfl) (by exact ex_loadAt (by exact rfl) (by exact rfl) (hR.loadAt 7 [.int .u8 d'.s0, .int .u8 d'.s1, .int .u8 d'.s2, .int .u8 d'.s3] (by intro j v hj; match j, hj with | 0, hj => exact hj | 1, hj => exact hj | 2, hj => exact hj | 3, hj => exact hj | k + 4, hj => simp at hj) 30 Try.underlying30 rfl (by kernel_rfl))) ?_
        simp only [lay]
        by_cases hsrc : [d.s0, d.s1, d.s2, d.s3] = [d'.s0, d'.s1, d'.s2, d'.s3]
        ·refine wl (.bool true) (by kernel_rfl) (by exact eq_arr4 (by exact rfl) Try.underlying30 Try.underlying5 (by kernel_rfl) (by kernel_rfl) (by exact rfl) (by exact rfl) (decide_eq_true hsrc)) ?_
         simp only [lay]
         refine wl (.bool true) (by kernel_rfl) (by exact rfl) ?_
         simp only [lay]
         refine wl (.bool true) (by kernel_rfl) (by exact rfl) ?_
         simp only [lay]
         refine wl (.pointer (some ⟨w.heap.size, 11, none⟩)) (by kernel_rfl) (by exact xf9 11 3 Try.underlying35) ?_
         simp only [lay]
         refine wl (.agg #[.int .u8 d.d0, .int .u8 d.d1, .int .u8 d.d2, .int .u8 d.d3]) (by kernel_rfl) (by exact ex_loadAt (by exact rfl) (by exact rfl) (hL.loadAt 11 [.int .u8 d.d0, .int .u8 d.d1, .int .u8 d.d2, .int .u8 d.d3] (by intro j v hj; match j, hj with | 0, hj => exact hj | 1, hj => exact hj | 2, hj => exact hj | 3, hj => exact hj | k + 4, hj => simp at hj) 30 Try.underlying30 rfl (by kernel_rfl))) ?_
         simp only [lay]
         refine wl (.pointer (some ⟨g2, 11, none⟩)) (by kernel_rfl) (by exact xf9 11 3 Try.underlying35) ?_
         simp only [lay]
         refine wl (.agg #[.int .u8 d'.d0, .int .u8 d'.d1, .int .u8 d'.d2, .int .u8 d'.d3]) (by kernel_rfl) (by exact ex_loadAt (by exact rfl) (by exact rfl) (hR.loadAt 11 [.int .u8 d'.d0, .int .u8 d'.d1, .int .u8 d'.d2, .int .u8 d'.d3] (by intro j v hj; match j, hj with | 0, hj => exact hj | 1, hj => exact hj | 2, hj => exact hj | 3, hj => exact hj | k + 4, hj => simp at hj) 30 Try.underlying30 rfl (by kernel_rfl))) ?_
         simp only [lay]
         by_cases hdst : [d.d0, d.d1, d.d2, d.d3] = [d'.d0, d'.d1, d'.d2, d'.d3]
         ·refine wl (.bool true) (by kernel_rfl) (by exact eq_arr4 (by exact rfl) Try.underlying30 Try.underlying5 (by kernel_rfl) (by kernel_rfl) (by exact rfl) (by exact rfl) (decide_eq_true hdst)) ?_
          simp only [lay]
          refine wl (.bool true) (by kernel_rfl) (by exact rfl) ?_
          simp only [lay]
          refine wl (.bool true) (by kernel_rfl) (by exact rfl) ?_
          simp only [lay]
          refine wl (.pointer (some ⟨w.heap.size, 15, none⟩)) (by kernel_rfl) (by exact xf9 15 0 Try.underlying35) ?_
          simp only [lay]
          refine wl (.slice p.oA d.ol.length p.oc) (by kernel_rfl) (by exact ex_cell (by exact rfl) Try.underlying26 rfl (by exact rfl) (hL.cell 15 rfl)) ?_
          simp only [lay]
          refine wl (.string (strOfNums d.ol)) (by kernel_rfl) (by exact ex_conv (by exact rfl) (by exact rfl) (yo.conv (P := Try.prog) 26 9 Try.underlying26 Try.underlying5 Try.underlying9)) ?_
          simp only [lay]
          refine wl (.pointer (some ⟨g2, 15, none⟩)) (by kernel_rfl) (by exact xf9 15 0 Try.underlying35) ?_
          simp only [lay]
          refine wl (.slice p'.oA d'.ol.length p'.oc) (by kernel_rfl) (by exact ex_cell (by exact rfl) Try.underlying26 rfl (by exact rfl) (hR.cell 15 rfl)) ?_
          simp only [lay]
          refine wl (.string (strOfNums d'.ol)) (by kernel_rfl) (by exact ex_conv (by exact rfl) (by exact rfl) (zo.conv (P := Try.prog) 26 9 Try.underlying26 Try.underlying5 Try.underlying9)) ?_
          simp only [lay]
          by_cases ho : d.ol = d'.ol
          ·refine wl (.bool true) (by kernel_rfl) (by exact eq_str_eq (by exact rfl) (by exact rfl) (by exact rfl) (by rw [ho])) ?_
           simp only [lay]
           refine wl (.bool true) (by kernel_rfl) (by exact rfl) ?_
           simp only [lay]
           refine wl (.bool true) (by kernel_rfl) (by exact rfl) ?_
           simp only [lay]
           refine wl (.pointer (some ⟨w.heap.size, 16, none⟩)) (by kernel_rfl) (by exact xf9 16 0 Try.underlying35) ?_
           simp only [lay]
           refine wl (.slice p.bA d.bl.length p.bc) (by kernel_rfl) (by exact ex_cell (by exact rfl) Try.underlying26 rfl (by exact rfl) (hL.cell 16 rfl)) ?_
           simp only [lay]
           refine wl (.string (strOfNums d.bl)) (by kernel_rfl) (by exact ex_conv (by exact rfl) (by exact rfl) (yb.conv (P := Try.prog) 26 9 Try.underlying26 Try.underlying5 Try.underlying9)) ?_
           simp only [lay]
           refine wl (.pointer (some ⟨g2, 16, none⟩)) (by kernel_rfl) (by exact xf9 16 0 Try.underlying35) ?_
           simp only [lay]
           refine wl (.slice p'.bA d'.bl.length p'.bc) (by kernel_rfl) (by exact ex_cell (by exact rfl) Try.underlying26 rfl (by exact rfl) (hR.cell 16 rfl)) ?_
           simp only [lay]
           refine wl (.string (strOfNums d'.bl)) (by kernel_rfl) (by exact ex_conv (by exact rfl) (by exact rfl) (zb.conv (P := Try.prog) 26 9 Try.underlying26 Try.underlying5 Try.underlying9)) ?_
           simp only [lay]
           by_cases hb : d.bl = d'.bl
           ·refine wl (.bool true) (by kernel_rfl) (by exact eq_str_eq (by exact rfl) (by exact rfl) (by exact rfl) (by rw [hb])) ?_
            simp only [lay]
            refine wl (.bool true) (by kernel_rfl) (by exact rfl) ?_
            simp only [lay]
            refine wl (.bool true) (by kernel_rfl) (by exact rfl) ?_
            simp only [lay]
            refine wpList_nil ?_
            change Code.wp _ Code.ret _ _ _
            refine wp_ret ?_
            exact bodyPost_ret (res_tmp Try.results11 rfl) rfl ⟨_, rfl, Lib.hid (by simp [same4, htos, hid, hdf, hmf, hoff, httl, hproto, hsrc, hdst, ho, hb]), hB⟩
           ·refine wl (.bool false) (by kernel_rfl) (by exact eq_str_ne (by exact rfl) (by exact rfl) (by exact rfl) (by rw [strOfNums_beq yb.rng zb.rng, decide_eq_false hb])) ?_
            simp only [lay]
            refine skip_ok (t' := #[.agg (d.cells p), .agg (d'.cells p'), .pointer (some ⟨w.heap.size, 0, none⟩), .pointer (some ⟨g2, 0, none⟩), .bool false, .pointer (some ⟨w.heap.size, 0, none⟩), .int .u8 d.tos, .pointer (some ⟨g2, 0, none⟩), .int .u8 d'.tos, .bool true, .bool true, .pointer (some ⟨w.heap.size, 1, none⟩), .int .u16 d.id, .pointer (some ⟨g2, 1, none⟩), .int .u16 d'.id, .bool true, .bool true, .bool true, .pointer (some ⟨w.heap.size, 2, none⟩), .bool d.df, .pointer (some ⟨g2, 2, none⟩), .bool d'.df, .bool true, .bool true, .bool true, .pointer (some ⟨w.heap.size, 3, none⟩), .bool d.mf, .pointer (some ⟨g2, 3, none⟩), .bool d'.mf, .bool true, .bool true, .bool true, .pointer (some ⟨w.heap.size, 4, none⟩), .int .i64 d.off, .pointer (some ⟨g2, 4, none⟩), .int .i64 d'.off, .bool true, .bool true, .bool true, .pointer (some ⟨w.heap.size, 5, none⟩), .int .u8 d.ttl, .pointer (some ⟨g2, 5, none⟩), .int .u8 d'.ttl, .bool true, .bool true, .bool true, .pointer (some ⟨w.heap.size, 6, none⟩), .int .u8 d.proto, .pointer (some ⟨g2, 6, none⟩), .int .u8 d'.proto, .bool true, .bool true, .bool true, .pointer (some ⟨w.heap.size, 7, none⟩), .agg #[.int .u8 d.s0, .int .u8 d.s1, .int .u8 d.s2, .int .u8 d.s3], .pointer (some ⟨g2, 7, none⟩), .agg #[.int .u8 d'.s0, .int .u8 d'.s1, .int .u8 d'.s2, .int .u8 d'.s3], .bool true, .bool true, .bool true, .pointer (some ⟨w.heap.size, 11, none⟩), .agg #[.int .u8 d.d0, .int .u8 d.d1, .int .u8 d.d2, .int .u8 d.d3], .pointer (some ⟨g2, 11, none⟩), .agg #[.int .u8 d'.d0, .int .u8 d'.d1, .int .u8 d'.d2, .int .u8 d'.d3], .bool true, .bool true, .bool true, .pointer (some ⟨w.heap.size, 15, none⟩), .slice p.oA d.ol.length p.oc, .string (strOfNums d.ol), .pointer (some ⟨g2, 15, none⟩), .slice p'.oA d'.ol.length p'.oc, .string (strOfNums d'.ol), .bool true, .bool true, .bool true, .pointer (some ⟨w.heap.size, 16, none⟩), .slice p.bA d.bl.length p.bc, .string (strOfNums d.bl), .pointer (some ⟨g2, 16, none⟩), .slice p'.bA d'.bl.length p'.bc, .string (strOfNums d'.bl), .bool false, .bool false]) _ _ (by kernel_rfl) ?_
            change Code.wp _ Code.ret _ _ _
            refine wp_ret ?_
            exact bodyPost_ret (res_tmp Try.results11 rfl) rfl ⟨_, rfl, Lib.hid (by simp [same4, htos, hid, hdf, hmf, hoff, httl, hproto, hsrc, hdst, ho, hb]), hB⟩
          ·refine wl (.bool false) (by kernel_rfl) (by exact eq_str_ne (by exact rfl) (by exact rfl) (by exact rfl) (by rw [strOfNums_beq yo.rng zo.rng, decide_eq_false ho])) ?_
           simp only [lay]
           refine skip_ok (t' := #[.agg (d.cells p), .agg (d'.cells p'), .pointer (some ⟨w.heap.size, 0, none⟩), .pointer (some ⟨g2, 0, none⟩), .bool false, .pointer (some ⟨w.heap.size, 0, none⟩), .int .u8 d.tos, .pointer (some ⟨g2, 0, none⟩), .int .u8 d'.tos, .bool true, .bool true, .pointer (some ⟨w.heap.size, 1, none⟩), .int .u16 d.id, .pointer (some ⟨g2, 1, none⟩), .int .u16 d'.id, .bool true, .bool true, .bool true, .pointer (some ⟨w.heap.size, 2, none⟩), .bool d.df, .pointer (some ⟨g2, 2, none⟩), .bool d'.df, .bool true, .bool true, .bool true, .pointer (some ⟨w.heap.size, 3, none⟩), .bool d.mf, .pointer (some ⟨g2, 3, none⟩), .bool d'.mf, .bool true, .bool true, .bool true, .pointer (some ⟨w.heap.size, 4, none⟩), .int .i64 d.off, .pointer (some ⟨g2, 4, none⟩), .int .i64 d'.off, .bool true, .bool true, .bool true, .pointer (some ⟨w.heap.size, 5, none⟩), .int .u8 d.ttl, .pointer (some ⟨g2, 5, none⟩), .int .u8 d'.ttl, .bool true, .bool true, .bool true, .pointer (some ⟨w.heap.size, 6, none⟩), .int .u8 d.proto, .pointer (some ⟨g2, 6, none⟩), .int .u8 d'.proto, .bool true, .bool true, .bool true, .pointer (some ⟨w.heap.size, 7, none⟩), .agg #[.int .u8 d.s0, .int .u8 d.s1, .int .u8 d.s2, .int .u8 d.s3], .pointer (some ⟨g2, 7, none⟩), .agg #[.int .u8 d'.s0, .int .u8 d'.s1, .int .u8 d'.s2, .int .u8 d'.s3], .bool true, .bool true, .bool true, .pointer (some ⟨w.heap.size, 11, none⟩), .agg #[.int .u8 d.d0, .int .u8 d.d1, .int .u8 d.d2, .int .u8 d.d3], .pointer (some ⟨g2, 11, none⟩), .agg #[.int .u8 d'.d0, .int .u8 d'.d1, .int .u8 d'.d2, .int .u8 d'.d3], .bool true, .bool true, .bool true, .pointer (some ⟨w.heap.size, 15, none⟩), .slice p.oA d.ol.length p.oc, .string (strOfNums d.ol), .pointer (some ⟨g2, 15, none⟩), .slice p'.oA d'.ol.length p'.oc, .string (strOfNums d'.ol), .bool false, .bool false, .bool false, undef, undef, undef, undef, undef, undef, undef, .bool false]) _ _ (by kernel_rfl) ?_
           change Code.wp _ Code.ret _ _ _
           refine wp_ret ?_
           exact bodyPost_ret (res_tmp Try.results11 rfl) rfl ⟨_, rfl, Lib.hid (by simp [same4, htos, hid, hdf, hmf, hoff, httl, hproto, hsrc, hdst, ho]), hB⟩
         ·refine wl (.bool false) (by kernel_rfl) (by exact eq_arr4 (by exact rfl) Try.underlying30 Try.underlying5 (by kernel_rfl) (by kernel_rfl) (by exact rfl) (by exact rfl) (decide_eq_false hdst)) ?_
          simp only [lay]
          refine skip_ok (t' := #[.agg (d.cells p), .agg (d'.cells p'), .pointer (some ⟨w.heap.size, 0, none⟩), .pointer (some ⟨g2, 0, none⟩), .bool false, .pointer (some ⟨w.heap.size, 0, none⟩), .int .u8 d.tos, .pointer (some ⟨g2, 0, none⟩), .int .u8 d'.tos, .bool true, .bool true, .pointer (some ⟨w.heap.size, 1, none⟩), .int .u16 d.id, .pointer (some ⟨g2, 1, none⟩), .int .u16 d'.id, .bool true, .bool true, .bool true, .pointer (some ⟨w.heap.size, 2, none⟩), .bool d.df, .pointer (some ⟨g2, 2, none⟩), .bool d'.df, .bool true, .bool true, .bool true, .pointer (some ⟨w.heap.size, 3, none⟩), .bool d.mf, .pointer (some ⟨g2, 3, none⟩), .bool d'.mf, .bool true, .bool true, .bool true, .pointer (some ⟨w.heap.size, 4, none⟩), .int .i64 d.off, .pointer (some ⟨g2, 4, none⟩), .int .i64 d'.off, .bool true, .bool true, .bool true, .pointer (some ⟨w.heap.size, 5, none⟩), .int .u8 d.ttl, .pointer (some ⟨g2, 5, none⟩), .int .u8 d'.ttl, .bool true, .bool true, .bool true, .pointer (some ⟨w.heap.size, 6, none⟩), .int .u8 d.proto, .pointer (some ⟨g2, 6, none⟩), .int .u8 d'.proto, .bool true, .bool true, .bool true, .pointer (some ⟨w.heap.size, 7, none⟩), .agg #[.int .u8 d.s0, .int .u8 d.s1, .int .u8 d.s2, .int .u8 d.s3], .pointer (some ⟨g2, 7, none⟩), .agg #[.int .u8 d'.s0, .int .u8 d'.s1, .int .u8 d'.s2, .int .u8 d'.s3], .bool true, .bool true, .bool true, .pointer (some ⟨w.heap.size, 11, none⟩), .agg #[.int .u8 d.d0, .int .u8 d.d1, .int .u8 d.d2, .int .u8 d.d3], .pointer (some ⟨g2, 11, none⟩), .agg #[.int .u8 d'.d0, .int .u8 d'.d1, .int .u8 d'.d2, .int .u8 d'.d3], .bool false, .bool false, .bool false, undef, undef, undef, undef, undef, undef, undef, .bool false, .bool false, undef, undef, undef, undef, undef, undef, undef, .bool false]) _ _ (by kernel_rfl) ?_
          change Code.wp _ Code.ret _ _ _
          refine wp_ret ?_
          exact bodyPost_ret (res_tmp Try.results11 rfl) rfl ⟨_, rfl, Lib.hid (by simp [same4, htos, hid, hdf, hmf, hoff, httl, hproto, hsrc, hdst]), hB⟩
        ·refine wl (.bool false) (by kernel_rfl) (by exact eq_arr4 (by exact rfl) Try.underlying30 Try.underlying5 (by kernel_rfl) (by kernel_rfl) (by exact rfl) (by exact rfl) (decide_eq_false hsrc)) ?_
         simp only [lay]
         refine skip_ok (t' := #[.agg (d.cells p), .agg (d'.cells p'), .pointer (some ⟨w.heap.size, 0, none⟩), .pointer (some ⟨g2, 0, none⟩), .bool false, .pointer (some ⟨w.heap.size, 0, none⟩), .int .u8 d.tos, .pointer (some ⟨g2, 0, none⟩), .int .u8 d'.tos, .bool true, .bool true, .pointer (some ⟨w.heap.size, 1, none⟩), .int .u16 d.id, .pointer (some ⟨g2, 1, none⟩), .int .u16 d'.id, .bool true, .bool true, .bool true, .pointer (some ⟨w.heap.size, 2, none⟩), .bool d.df, .pointer (some ⟨g2, 2, none⟩), .bool d'.df, .bool true, .bool true, .bool true, .pointer (some ⟨w.heap.size, 3, none⟩), .bool d.mf, .pointer (some ⟨g2, 3, none⟩), .bool d'.mf, .bool true, .bool true, .bool true, .pointer (some ⟨w.heap.size, 4, none⟩), .int .i64 d.off, .pointer (some ⟨g2, 4, none⟩), .int .i64 d'.off, .bool true, .bool true, .bool true, .pointer (some ⟨w.heap.size, 5, none⟩), .int .u8 d.ttl, .pointer (some ⟨g2, 5, none⟩), .int .u8 d'.ttl, .bool true, .bool true, .bool true, .pointer (some ⟨w.heap.size, 6, none⟩), .int .u8 d.proto, .pointer (some ⟨g2, 6, none⟩), .int .u8 d'.proto, .bool true, .bool true, .bool true, .pointer (some ⟨w.heap.size, 7, none⟩), .agg #[.int .u8 d.s0, .int .u8 d.s1, .int .u8 d.s2, .int .u8 d.s3], .pointer (some ⟨g2, 7, none⟩), .agg #[.int .u8 d'.s0, .int .u8 d'.s1, .int .u8 d'.s2, .int .u8 d'.s3], .bool false, .bool false, .bool false, undef, undef, undef, undef, undef, .bool false, .bool false, undef, undef, undef, undef, undef, undef, undef, .bool false, .bool false, undef, undef, undef, undef, undef, undef, undef, .bool false]) _ _ (by kernel_rfl) ?_
         change Code.wp _ Code.ret _ _ _
         refine wp_ret ?_
         exact bodyPost_ret (res_tmp Try.results11 rfl) rfl ⟨_, rfl, Lib.hid (by simp [same4, htos, hid, hdf, hmf, hoff, httl, hproto, hsrc]), hB⟩
       ·refine wl (.bool false) (by kernel_rfl) (by exact eq_int_ne (by exact rfl) (by exact rfl) (by exact rfl) hproto) ?_
        simp only [lay]
        refine skip_ok (t' := #[.agg (d.cells p), .agg (d'.cells p'), .pointer (some ⟨w.heap.size, 0, none⟩), .pointer (some ⟨g2, 0, none⟩), .bool false, .pointer (some ⟨w.heap.size, 0, none⟩), .int .u8 d.tos, .pointer (some ⟨g2, 0, none⟩), .int .u8 d'.tos, .bool true, .bool true, .pointer (some ⟨w.heap.size, 1, none⟩), .int .u16 d.id, .pointer (some ⟨g2, 1, none⟩), .int .u16 d'.id, .bool true, .bool true, .bool true, .pointer (some ⟨w.heap.size, 2, none⟩), .bool d.df, .pointer (some ⟨g2, 2, none⟩), .bool d'.df, .bool true, .bool true, .bool true, .pointer (some ⟨w.heap.size, 3, none⟩), .bool d.mf, .pointer (some ⟨g2, 3, none⟩), .bool d'.mf, .bool true, .bool true, .bool true, .pointer (some ⟨w.heap.size, 4, none⟩), .int .i64 d.off, .pointer (some ⟨g2, 4, none⟩), .int .i64 d'.off, .bool true, .bool true, .bool true, .pointer (some ⟨w.heap.size, 5, none⟩), .int .u8 d.ttl, .pointer (some ⟨g2, 5, none⟩), .int .u8 d'.ttl, .bool true, .bool true, .bool true, .pointer (some ⟨w.heap.size, 6, none⟩), .int .u8 d.proto, .pointer (some ⟨g2, 6, none⟩), .int .u8 d'.proto, .bool false, .bool false, .bool false, undef, undef, undef, undef, undef, .bool false, .bool false, undef, undef, undef, undef, undef, .bool false, .bool false, undef, undef, undef, undef, undef, undef, undef, .bool false, .bool false, undef, undef, undef, undef, undef, undef, undef, .bool false]) _ _ (by kernel_rfl) ?_
        change Code.wp _ Code.ret _ _ _
        refine wp_ret ?_
        exact bodyPost_ret (res_tmp Try.results11 rfl) rfl ⟨_, rfl, Lib.hid (by simp [same4, htos, hid, hdf, hmf, hoff, httl, hproto]), hB⟩
      ·refine wl (.bool false) (by kernel_rfl) (by exact eq_int_ne (by exact rfl) (by exact rfl) (by exact rfl) httl) ?_
       simp only [lay]
       refine skip_ok (t' := #[.agg (d.cells p), .agg (d'.cells p'), .pointer (some ⟨w.heap.size, 0, none⟩), .pointer (some ⟨g2, 0, none⟩), .bool false, .pointer (some ⟨w.heap.size, 0, none⟩), .int .u8 d.tos, .pointer (some ⟨g2, 0, none⟩), .int .u8 d'.tos, .bool true, .bool true, .pointer (some ⟨w.heap.size, 1, none⟩), .int .u16 d.id, .pointer (some ⟨g2, 1, none⟩), .int .u16 d'.id, .bool true, .bool true, .bool true, .pointer (some ⟨w.heap.size, 2, none⟩), .bool d.df, .pointer (some ⟨g2, 2, none⟩), .bool d'.df, .bool true, .bool true, .bool true, .pointer (some ⟨w.heap.size, 3, none⟩), .bool d.mf, .pointer (some ⟨g2, 3, none⟩), .bool d'.mf, .bool true, .bool true, .bool true, .pointer (some ⟨w.heap.size, 4, none⟩), .int .i64 d.off, .pointer (some ⟨g2, 4, none⟩), .int .i64 d'.off, .bool true, .bool true, .bool true, .pointer (some ⟨w.heap.size, 5, none⟩), .int .u8 d.ttl, .pointer (some ⟨g2, 5, none⟩), .int .u8 d'.ttl, .bool false, .bool false, .bool false, undef, undef, undef, undef, undef, .bool false, .bool false, undef, undef, undef, undef, undef, .bool false, .bool false, undef, undef, undef, undef, undef, .bool false, .bool false, undef, undef, undef, undef, undef, undef, undef, .bool false, .bool false, undef, undef, undef, undef, undef, undef, undef, .bool false]) _ _ (by kernel_rfl) ?_
       change Code.wp _ Code.ret _ _ _
       refine wp_ret ?_
       exact bodyPost_ret (res_tmp Try.results11 rfl) rfl ⟨_, rfl, Lib.hid (by simp [same4, htos, hid, hdf, hmf, hoff, httl]), hB⟩
     ·refine wl (.bool false) (by kernel_rfl) (by exact eq_int_ne (by exact rfl) (by exact rfl) (by exact rfl) hoff) ?_
      simp only [lay]
      refine skip_ok (t' := #[.agg (d.cells p), .agg (d'.cells p'), .pointer (some ⟨w.heap.size, 0, none⟩), .pointer (some ⟨g2, 0, none⟩), .bool false, .pointer (some ⟨w.heap.size, 0, none⟩), .int .u8 d.tos, .pointer (some ⟨g2, 0, none⟩), .int .u8 d'.tos, .bool true, .bool true, .pointer (some ⟨w.heap.size, 1, none⟩), .int .u16 d.id, .pointer (some ⟨g2, 1, none⟩), .int .u16 d'.id, .bool true, .bool true, .bool true, .pointer (some ⟨w.heap.size, 2, none⟩), .bool d.df, .pointer (some ⟨g2, 2, none⟩), .bool d'.df, .bool true, .bool true, .bool true, .pointer (some ⟨w.heap.size, 3, none⟩), .bool d.mf, .pointer (some ⟨g2, 3, none⟩), .bool d'.mf, .bool true, .bool true, .bool true, .pointer (some ⟨w.heap.size, 4, none⟩), .int .i64 d.off, .pointer (some ⟨g2, 4, none⟩), .int .i64 d'.off, .bool false, .bool false, .bool false, undef, undef, undef, undef, undef, .bool false, .bool false, undef, undef, undef, undef, undef, .bool false, .bool false, undef, undef, undef, undef, undef, .bool false, .bool false, undef, undef, undef, undef, undef, .bool false, .bool false, undef, undef, undef, undef, undef, undef, undef, .bool false, .bool false, undef, undef, undef, undef, undef, undef, undef, .bool false]) _ _ (by kernel_rfl) ?_
      change Code.wp _ Code.ret _ _ _
      refine wp_ret ?_
      exact bodyPost_ret (res_tmp Try.results11 rfl) rfl ⟨_, rfl, Lib.hid (by simp [same4, htos, hid, hdf, hmf, hoff]), hB⟩
    ·refine wl (.bool false) (by kernel_rfl) (by exact eq_bool_ne (by exact rfl) Try.underlying4 (by exact rfl) (by exact rfl) hmf) ?_
     simp only [lay]
     refine skip_ok (t' := #[.agg (d.cells p), .agg (d'.cells p'), .pointer (some ⟨w.heap.size, 0, none⟩), .pointer (some ⟨g2, 0, none⟩), .bool false, .pointer (some ⟨w.heap.size, 0, none⟩), .int .u8 d.tos, .pointer (some ⟨g2, 0, none⟩), .int .u8 d'.tos, .bool true, .bool true, .pointer (some ⟨w.heap.size, 1, none⟩), .int .u16 d.id, .pointer (some ⟨g2, 1, none⟩), .int .u16 d'.id, .bool true, .bool true, .bool true, .pointer (some ⟨w.heap.size, 2, none⟩), .bool d.df, .pointer (some ⟨g2, 2, none⟩), .bool d'.df, .bool true, .bool true, .bool true, .pointer (some ⟨w.heap.size, 3, none⟩), .bool d.mf, .pointer (some ⟨g2, 3, none⟩), .bool d'.mf, .bool false, .bool false, .bool false, undef, undef, undef, undef, undef, .bool false, .bool false, undef, undef, undef, undef, undef, .bool false, .bool false, undef, undef, undef, undef, undef, .bool false, .bool false, undef, undef, undef, undef, undef, .bool false, .bool false, undef, undef, undef, undef, undef, .bool false, .bool false, undef, undef, undef, undef, undef, undef, undef, .bool false, .bool false, undef, undef, undef, undef, undef, undef, undef, .bool false]) _ _ (by kernel_rfl) ?_
     change Code.wp _ Code.ret _ _ _
     refine wp_ret ?_
     exact bodyPost_ret (res_tmp Try.results11 rfl) rfl ⟨_, rfl, Lib.hid (by simp [same4, htos, hid, hdf, hmf]), hB⟩
   ·refine wl (.bool false) (by kernel_rfl) (by exact eq_bool_ne (by exact rfl) Try.underlying4 (by exact rfl) (by exact rfl) hdf) ?_
    simp only [lay]
    refine skip_ok (t' := #[.agg (d.cells p), .agg (d'.cells p'), .pointer (some ⟨w.heap.size, 0, none⟩), .pointer (some ⟨g2, 0, none⟩), .bool false, .pointer (some ⟨w.heap.size, 0, none⟩), .int .u8 d.tos, .pointer (some ⟨g2, 0, none⟩), .int .u8 d'.tos, .bool true, .bool true, .pointer (some ⟨w.heap.size, 1, none⟩), .int .u16 d.id, .pointer (some ⟨g2, 1, none⟩), .int .u16 d'.id, .bool true, .bool true, .bool true, .pointer (some ⟨w.heap.size, 2, none⟩), .bool d.df, .pointer (some ⟨g2, 2, none⟩), .bool d'.df, .bool false, .bool false, .bool false, undef, undef, undef, undef, undef, .bool false, .bool false, undef, undef, undef, undef, undef, .bool false, .bool false, undef, undef, undef, undef, undef, .bool false, .bool false, undef, undef, undef, undef, undef, .bool false, .bool false, undef, undef, undef, undef, undef, .bool false, .bool false, undef, undef, undef, undef, undef, .bool false, .bool false, undef, undef, undef, undef, undef, undef, undef, .bool false, .bool false, undef, undef, undef, undef, undef, undef, undef, .bool false]) _ _ (by kernel_rfl) ?_
    change Code.wp _ Code.ret _ _ _
    refine wp_ret ?_
    exact bodyPost_ret (res_tmp Try.results11 rfl) rfl ⟨_, rfl, Lib.hid (by simp [same4, htos, hid, hdf]), hB⟩
  ·refine wl (.bool false) (by kernel_rfl) (by exact eq_int_ne (by exact rfl) (by exact rfl) (by exact rfl) hid) ?_
   simp only [lay]
   refine skip_ok (t' := #[.agg (d.cells p), .agg (d'.cells p'), .pointer (some ⟨w.heap.size, 0, none⟩), .pointer (some ⟨g2, 0, none⟩), .bool false, .pointer (some ⟨w.heap.size, 0, none⟩), .int .u8 d.tos, .pointer (some ⟨g2, 0, none⟩), .int .u8 d'.tos, .bool true, .bool true, .pointer (some ⟨w.heap.size, 1, none⟩), .int .u16 d.id, .pointer (some ⟨g2, 1, none⟩), .int .u16 d'.id, .bool false, .bool false, .bool false, undef, undef, undef, undef, undef, .bool false, .bool false, undef, undef, undef, undef, undef, .bool false, .bool false, undef, undef, undef, undef, undef, .bool false, .bool false, undef, undef, undef, undef, undef, .bool false, .bool false, undef, undef, undef, undef, undef, .bool false, .bool false, undef, undef, undef, undef, undef, .bool false, .bool false, undef, undef, undef, undef, undef, .bool false, .bool false, undef, undef, undef, undef, undef, undef, undef, .bool false, .bool false, undef, undef, undef, undef, undef, undef, undef, .bool false]) _ _ (by kernel_rfl) ?_
   change Code.wp _ Code.ret _ _ _
   refine wp_ret ?_
   exact bodyPost_ret (res_tmp Try.results11 rfl) rfl ⟨_, rfl, Lib.hid (by simp [same4, htos, hid]), hB⟩
 ·refine wl (.bool false) (by kernel_rfl) (by exact eq_int_ne (by exact rfl) (by exact rfl) (by exact rfl) htos) ?_
  simp only [lay]
  refine skip_ok (t' := #[.agg (d.cells p), .agg (d'.cells p'), .pointer (some ⟨w.heap.size, 0, none⟩), .pointer (some ⟨g2, 0, none⟩), .bool false, .pointer (some ⟨w.heap.size, 0, none⟩), .int .u8 d.tos, .pointer (some ⟨g2, 0, none⟩), .int .u8 d'.tos, .bool false, .bool false, undef, undef, undef, undef, undef, .bool false, .bool false, undef, undef, undef, undef, undef, .bool false, .bool false, undef, undef, undef, undef, undef, .bool false, .bool false, undef, undef, undef, undef, undef, .bool false, .bool false, undef, undef, undef, undef, undef, .bool false, .bool false, undef, undef, undef, undef, undef, .bool false, .bool false, undef, undef, undef, undef, undef, .bool false, .bool false, undef, undef, undef, undef, undef, .bool false, .bool false, undef, undef, undef, undef, undef, undef, undef, .bool false, .bool false, undef, undef, undef, undef, undef, undef, undef, .bool false]) _ _ (by kernel_rfl) ?_
  change Code.wp _ Code.ret _ _ _
  refine wp_ret ?_
  exact bodyPost_ret (res_tmp Try.results11 rfl) rfl ⟨_, rfl, Lib.hid (by simp [same4, htos]), hB⟩
end Go.Proofs.Ytjnphelfloiadaa
