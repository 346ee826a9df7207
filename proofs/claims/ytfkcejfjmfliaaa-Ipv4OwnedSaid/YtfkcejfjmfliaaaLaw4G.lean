/-
  The walk of Ipv4Owned.
-/
import Derived.Test.YtfkcejfjmfliaaaK4
import Derived.Test.YtfkcejfjmfliaaaMem3
namespace Go.Proofs.Ytfkcejfjmfliaaa
open Go.RowKit Go.Shelf

/-- the first k bytes turned -/
def notd (l : List Int) (k : Nat) : List Int := (l.take k).map (255 - ·) ++ l.drop k
theorem notd_zero (l : List Int) : notd l 0 = l := rfl
theorem notd_len (l : List Int) (k : Nat) : (notd l k).length = l.length := by simp [notd]; omega
theorem notd_get {l : List Int} {k : Nat} (h : k < l.length) : (notd l k).getD k 0 = l.getD k 0 := by
  have h1 : ((l.take k).map (255 - ·)).length = k := by simp; omega
  unfold notd
  rw [List.getD_eq_getElem?_getD, List.getElem?_append_right (by omega), h1, Nat.sub_self, List.getElem?_drop, Nat.add_zero, List.getD_eq_getElem?_getD]
theorem notd_set {l : List Int} {k : Nat} (h : k < l.length) : (notd l k).set k (255 - l.getD k 0) = notd l (k + 1) := by
  have h1 : ((l.take k).map (255 - ·)).length = k := by simp; omega
  have h2 : l.drop k = l.getD k 0 :: l.drop (k + 1) := by
    rw [List.drop_eq_getElem_cons h, List.getD_eq_getElem?_getD, List.getElem?_eq_getElem h]; rfl
  have h3 : l.take (k + 1) = l.take k ++ [l.getD k 0] := by
    rw [List.take_succ_eq_append_getElem h, List.getD_eq_getElem?_getD, List.getElem?_eq_getElem h]; rfl
  unfold notd
  rw [h2, h3, List.map_append, List.set_append_right _ _ (by omega), h1, Nat.sub_self, List.append_assoc]
  rfl

set_option maxRecDepth 100000 in
set_option maxHeartbeats 4000000 in
theorem owned_walk (d : D4) (p : W4) (A : Option Addr) (c : Nat) (l : List Int) (w : World) (hR : Rd4 w.heap.size w d p) (hy : By w.heap.size w A l.length c l) (hl : l.length ≤ 140737488355328) (hol : d.ol.length ≤ 140737488355328) (hbl : d.bl.length ≤ 140737488355328) :
    Calls Try.prog 7 #[.agg (d.cells p), .slice A l.length c] w fun e w' => e = .returned (.bool true) ∧ Below w.heap.size w w' := by
  obtain ⟨K0, hB⟩ := K4.arg hR
  obtain ⟨DF, hDF⟩ : ∃ D, got4 false l = D := ⟨_, rfl⟩
  obtain ⟨aF, haF⟩ : ∃ a, pat4 (pe4 false l) = a := ⟨_, rfl⟩
  obtain ⟨sF, hsF⟩ : ∃ a, pe4 false l = a := ⟨_, rfl⟩
  have k1 := fun A' c' W (h : By W.heap.size W A' l.length c' l) => pparse_any A' c' l W h
  have k2 := fun W (h : Below w.heap.size w W) => rparse4_any A c l W ((hy.below h (Nat.le_refl _)).more h.size)
  simp only [hDF, haF] at k1 k2
  simp only [hsF] at k1 k2
  have k1 := Lib.hid k1
  have k2 := Lib.hid k2
  clear hDF haF hsF
  have y0 := ((hy.below hB (Nat.le_refl _)).more hB.size).alloc (Nat.le_refl _) (.cells #[] 5)
  have hnot := fun x (h1 : 0 ≤ x) (h2 : x < 256) => not_u8 x h1 h2
  have hsg : IntKind.u8.signed = false := rfl
  go_enter Try.func7, Try.ntmps7
  go_wp2_with (at_builtin; refine wpList_appB _ rfl _ _ _ rfl Try.underlying25 info8 (w.alloc (.cells (d.cells p) 27)).heap.size _ _ rfl (OwnB.madeAt (w := w.alloc (.cells (d.cells p) 27)) (g := w.heap.size + 1) (by simp) (Nat.le_refl _)) _ A l.length c l rfl y0 (by simpa using hl) (by simp) ?_; intro v' w1 own hg hat; have hbel := below_app (OwnB.madeAt (w := w.alloc (.cells (d.cells p) 27)) (g := w.heap.size + 1) (by simp) (Nat.le_refl (w.alloc (.cells (d.cells p) 27)).heap.size)) hg (by simp); rw [List.nil_append] at own; obtain ⟨A1, c1, rfl, hc1⟩ := own_shape own.own; clear hat hg; have hb := (((Below.refl _ _).alloc (Nat.le_refl _) _).trans hbel : Below (w.alloc (.cells (d.cells p) 27)).heap.size (w.alloc (.cells (d.cells p) 27)) w1))
  clear hbel y0 hc1
  generalize w.alloc (.cells (d.cells p) 27) = w0 at K0 hB own hb
  have hB0 := hb
  clear hb
  refine (k1.out A1 c1 w1 (own_by4 own)).mono ?_
  rintro e w2 ⟨⟨p2, a, s, rfl, ha, hs, ho2⟩, hb⟩
  obtain rfl : aF = a := ha.out.symm
  obtain rfl : sF = s := hs.out.symm
  have hbs : ∀ g, (Value.slice A1 l.length c1).ownBlock = some g → w0.heap.size ≤ g ∧ g < w1.heap.size := fun g hg => own.base g hg
  have own := own.below hb
  have hB0 := hB0.trans (hb.mono hB0.size)
  have h12 := hb.size
  have hZ : Has (w2.alloc (.cells #[.int .u8 0, .int .u16 0, .bool false, .bool false, .int .i64 0, .int .u8 0, .int .u8 0, .int .u8 0, .int .u8 0, .int .u8 0, .int .u8 0, .int .u8 0, .int .u8 0, .int .u8 0, .int .u8 0, .slice none 0 0, .slice none 0 0] 27)) w2.heap.size (.cells #[.int .u8 0, .int .u16 0, .bool false, .bool false, .int .i64 0, .int .u8 0, .int .u8 0, .int .u8 0, .int .u8 0, .int .u8 0, .int .u8 0, .int .u8 0, .int .u8 0, .int .u8 0, .int .u8 0, .slice none 0 0, .slice none 0 0] 27 (0, 0)) := Has.newAt rfl
  have hX : Below w2.heap.size w2 ((w2.alloc (.cells #[.int .u8 0, .int .u16 0, .bool false, .bool false, .int .i64 0, .int .u8 0, .int .u8 0, .int .u8 0, .int .u8 0, .int .u8 0, .int .u8 0, .int .u8 0, .int .u8 0, .int .u8 0, .int .u8 0, .slice none 0 0, .slice none 0 0] 27)).setRow w2.heap.size (DF.cells p2)) := ((Below.refl _ _).alloc (Nat.le_refl _) _).trans below_setRow'
  have x6 : Has ((w2.alloc (.cells #[.int .u8 0, .int .u16 0, .bool false, .bool false, .int .i64 0, .int .u8 0, .int .u8 0, .int .u8 0, .int .u8 0, .int .u8 0, .int .u8 0, .int .u8 0, .int .u8 0, .int .u8 0, .int .u8 0, .slice none 0 0, .slice none 0 0] 27)).setRow w2.heap.size (DF.cells p2)) w2.heap.size (.cells (DF.cells p2) 27 (0, 0)) := hZ.setRow_same
  have o6 : Own4 ((w2.alloc (.cells #[.int .u8 0, .int .u16 0, .bool false, .bool false, .int .i64 0, .int .u8 0, .int .u8 0, .int .u8 0, .int .u8 0, .int .u8 0, .int .u8 0, .int .u8 0, .int .u8 0, .int .u8 0, .int .u8 0, .slice none 0 0, .slice none 0 0] 27)).setRow w2.heap.size (DF.cells p2)) w1.heap.size DF p2 := ⟨ho2.ok, ho2.opt.below hX, ho2.body.below hX⟩
  have own := own.below hX
  have hB0 := hB0.trans (hX.mono hB0.size)
  clear hb ha hs ho2 hX k1
  have hl63 : l.length ≤ 9223372036854775807 := by omega
  go_wp2_with (refine wpList_store_row rfl 27 (.tmp 6) (.tmp 25) rfl w2.heap.size _ rfl rfl 27 _ hZ v4_info rfl (by simp [D4.cells, Value.oneCell']) ?_)
  clear hZ
  have h13 : w1.heap.size ≤ ((w2.alloc (.cells #[.int .u8 0, .int .u16 0, .bool false, .bool false, .int .i64 0, .int .u8 0, .int .u8 0, .int .u8 0, .int .u8 0, .int .u8 0, .int .u8 0, .int .u8 0, .int .u8 0, .int .u8 0, .int .u8 0, .slice none 0 0, .slice none 0 0] 27)).setRow w2.heap.size (DF.cells p2)).heap.size := Nat.le_trans h12 (Nat.le_of_lt x6.lt)
  generalize (w2.alloc (.cells #[.int .u8 0, .int .u16 0, .bool false, .bool false, .int .i64 0, .int .u8 0, .int .u8 0, .int .u8 0, .int .u8 0, .int .u8 0, .int .u8 0, .int .u8 0, .int .u8 0, .int .u8 0, .int .u8 0, .slice none 0 0, .slice none 0 0] 27)).setRow w2.heap.size (DF.cells p2) = w3 at h13 x6 o6 own hB0 ⊢
  generalize w2.heap.size = g6 at x6 h12 ⊢
  go_loopw [30] (fun i wr => ∃ k : Nat, k ≤ l.length ∧ i = .int .i64 k ∧ OwnB wr w0.heap.size (.slice A1 l.length c1) (notd l k) ∧ Has wr g6 (.cells (DF.cells p2) 27 (0, 0)) ∧ Own4 wr w1.heap.size DF p2 ∧ Below w0.heap.size w0 wr ∧ w1.heap.size ≤ wr.heap.size) (fun i _ => l.length - (intOf i).toNat)
  case atStart => exact ⟨0, Nat.zero_le _, rfl, own, x6, o6, hB0, h13⟩
  case round =>
    obtain ⟨k, hk, rfl, own, x6, o6, hB0, h1r⟩ := hrel
    have hBr := hB.trans (hB0.mono hB.size)
    by_cases hlt : k < l.length
    · obtain ⟨x, hx⟩ : ∃ x, l.getD k 0 = x := ⟨_, rfl⟩
      have rx := getD_rng4 hy.rng k
      rw [hx] at rx
      obtain ⟨b, off, rfl, hbl2, -⟩ := hy.row.at_ (by omega)
      have cb := cell_at4 hy hBr hlt
      rw [hx] at cb
      obtain ⟨g, e1, hg1, hg2, cx, fx, u1⟩ := own.byte (by rw [notd_len]) hlt
      subst e1
      obtain ⟨-, hgl⟩ := hbs g rfl
      rw [notd_get hlt, hx] at cx
      have u1 := u1 (255 - x) (by omega)
      have hst := notd_set hlt
      rw [hx] at hst
      rw [hst] at u1
      have hne : (x != x) = false := by simp
      have hkn : (k : Int) < (l.length : Int) := by omega
      have hnx := hnot x rx.1 (by omega)
      have hx6g : g6 ≠ g := by omega
      have cx' : ∀ n, (wr.drewN n).cell? ⟨g, k, none⟩ = some (.int .u8 x) := fun _ => cx
      have fx' : ∀ n, (wr.drewN n).frozen? ⟨g, k, none⟩ = false := fun _ => fx
      have hk63 : (k : Int) + 1 ≤ 9223372036854775807 := by omega
      have u1H := Lib.hid u1
      clear hst hx own u1 hnot
      go_wp2
      go_quiet (fail)
      go_wp2
      go_roundw
      case rel =>
        refine ⟨k + 1, by omega, by go_num, ?_, ?_, ?_, ?_, ?_⟩
        · exact ⟨u1H.out.own, u1H.out.rng⟩
        · exact (x6.drewN).setCell_other hx6g k _
        · exact ⟨o6.ok, (o6.opt.below (below_drewN _ _ _)).setCell hgl k _, (o6.body.below (below_drewN _ _ _)).setCell hgl k _⟩
        · exact below_setCell (hB0.trans (below_drewN _ _ _)) hg1 k _
        · simpa [World.setCell] using h1r
      case measure => simp [intOf]; omega
    · obtain rfl : k = l.length := by omega
      have K6 : K4 wr g6 DF p2 := ⟨x6, o6.rd⟩
      clear own x6 o6
      go_wp2_with fail
      refine (k2.out _ hBr).mono ?_
      rintro e w4 ⟨⟨p4, a, s, rfl, ha, hs, ho4⟩, hb⟩
      obtain rfl : aF = a := ha.out.symm
      obtain rfl : sF = s := hs.out.symm
      have hB0 := hB0.trans (hb.mono hB0.size)
      have K6 := K6.below hb
      obtain ⟨K10, hb⟩ := K4.new ho4.rd
      have hZ : Has (w4.alloc (.cells #[.int .u8 0, .int .u16 0, .bool false, .bool false, .int .i64 0, .int .u8 0, .int .u8 0, .int .u8 0, .int .u8 0, .int .u8 0, .int .u8 0, .int .u8 0, .int .u8 0, .int .u8 0, .int .u8 0, .slice none 0 0, .slice none 0 0] 27)) w4.heap.size (.cells #[.int .u8 0, .int .u16 0, .bool false, .bool false, .int .i64 0, .int .u8 0, .int .u8 0, .int .u8 0, .int .u8 0, .int .u8 0, .int .u8 0, .int .u8 0, .int .u8 0, .int .u8 0, .int .u8 0, .slice none 0 0, .slice none 0 0] 27 (0, 0)) := Has.newAt rfl
      have hB0 := hB0.trans (hb.mono hB0.size)
      have K6 := K6.below hb
      clear hb ha hs ho4 k2 hBr
      go_wp2_with (first
        | (refine wpList_store_row rfl 27 (.tmp 10) (.tmp 54) rfl w4.heap.size _ rfl rfl 27 _ hZ v4_info rfl (by simp [D4.cells, Value.oneCell']) ?_; clear hZ; generalize (w4.alloc (.cells #[.int .u8 0, .int .u16 0, .bool false, .bool false, .int .i64 0, .int .u8 0, .int .u8 0, .int .u8 0, .int .u8 0, .int .u8 0, .int .u8 0, .int .u8 0, .int .u8 0, .int .u8 0, .int .u8 0, .slice none 0 0, .slice none 0 0] 27)).setRow w4.heap.size (DF.cells p4) = w5 at K6 K10 hB0 ⊢; generalize hg10 : w4.heap.size = g10 at K10 ⊢; clear hg10; have K0 := K0.below hB0)
        | (refine wpList_load_rowG (by kernel_rfl) 27 (.tmp 2) rfl w.heap.size rfl 27 (d.cells p) (0, 0) _ K0.has Try.underlying27 rfl v4_info ?_)
        | (obtain ⟨K13, hW⟩ := K4.new K0.rd; have hZ : Has (w5.alloc (.cells #[.int .u8 0, .int .u16 0, .bool false, .bool false, .int .i64 0, .int .u8 0, .int .u8 0, .int .u8 0, .int .u8 0, .int .u8 0, .int .u8 0, .int .u8 0, .int .u8 0, .int .u8 0, .int .u8 0, .slice none 0 0, .slice none 0 0] 27)) w5.heap.size (.cells #[.int .u8 0, .int .u16 0, .bool false, .bool false, .int .i64 0, .int .u8 0, .int .u8 0, .int .u8 0, .int .u8 0, .int .u8 0, .int .u8 0, .int .u8 0, .int .u8 0, .int .u8 0, .int .u8 0, .slice none 0 0, .slice none 0 0] 27 (0, 0)) := Has.newAt rfl; refine wpList_store_row rfl 27 (.tmp 13) (.tmp 57) rfl w5.heap.size _ rfl rfl 27 _ hZ v4_info rfl (by simp [D4.cells, Value.oneCell']) ?_; clear hZ; have hlt13 := K13.has.lt; generalize (w5.alloc (.cells #[.int .u8 0, .int .u16 0, .bool false, .bool false, .int .i64 0, .int .u8 0, .int .u8 0, .int .u8 0, .int .u8 0, .int .u8 0, .int .u8 0, .int .u8 0, .int .u8 0, .int .u8 0, .int .u8 0, .slice none 0 0, .slice none 0 0] 27)).setRow w5.heap.size (d.cells p) = w6 at K13 hW hlt13 ⊢))
      have hW := hW.trans (below_drew _ _)
      have h13 := K13.has.drew
      have hlt13 : w5.heap.size < w6.drew.heap.size := hlt13
      refine wp_region_held_drew (S := fun W => Below w5.heap.size w5 W) (by kernel_rfl) hW (fun hS => ?_)
      clear K13 hW
      generalize w6.drew = w7 at hS h13 hlt13 ⊢
      have yo := K0.rd.opt
      have yb := K0.rd.body
      have h57 := hS.size
      have hb7 := Below.refl w7.heap.size w7
      have h7 := Nat.le_refl w7.heap.size
      apply wpAnyH_rest6 (R := fun A1 k1 A2 k2 _ _ W9 => Below w5.heap.size w5 W9 ∧ Has W9 w5.heap.size (.cells (d.cells ⟨A1, k1, A2, k2⟩) 27 (0, 0)) ∧ OwnB W9 w7.heap.size (.slice A1 d.ol.length k1) d.ol ∧ OwnB W9 w7.heap.size (.slice A2 d.bl.length k2) d.bl)
      case h1 =>
        intro hrest
        refine tk (i := 1) (.pointer (some ⟨w.heap.size, 15, none⟩)) hS rfl (by kernel_rfl) (by kernel_rfl) (by kernel_rfl) (fun _ _ _ h => h) (by kernel_rfl) (by intro _ _; exact ex_field 15 0 (by exact rfl) Try.underlying27 (by exact rfl) rfl (by kernel_rfl) (by exact rfl)) ?_
        simp only [Act.put, List.setIfInBounds_toArray, List.set_cons_zero, List.set_cons_succ]
        refine tk (i := 2) (.slice p.oA d.ol.length p.oc) hS rfl (by kernel_rfl) (by kernel_rfl) (by kernel_rfl) (fun _ _ _ h => h) (by kernel_rfl) (by intro _ h; exact ex_cell (by exact rfl) Try.underlying25 rfl (by exact rfl) ((K0.below h).has.cell 15 rfl)) ?_
        simp only [Act.put, List.setIfInBounds_toArray, List.set_cons_zero, List.set_cons_succ]
        refine tk (i := 5) (.pointer (some ⟨w.heap.size, 16, none⟩)) hS rfl (by kernel_rfl) (by kernel_rfl) (by kernel_rfl) (fun _ _ _ h => h) (by kernel_rfl) (by intro _ _; exact ex_field 16 0 (by exact rfl) Try.underlying27 (by exact rfl) rfl (by kernel_rfl) (by exact rfl)) ?_
        simp only [Act.put, List.setIfInBounds_toArray, List.set_cons_zero, List.set_cons_succ]
        refine tk (i := 6) (.slice p.bA d.bl.length p.bc) hS rfl (by kernel_rfl) (by kernel_rfl) (by kernel_rfl) (fun _ _ _ h => h) (by kernel_rfl) (by intro _ h; exact ex_cell (by exact rfl) Try.underlying25 rfl (by exact rfl) ((K0.below h).has.cell 16 rfl)) ?_
        simp only [Act.put, List.setIfInBounds_toArray, List.set_cons_zero, List.set_cons_succ]
        refine tk_two (by kernel_rfl) (op_build0 (i := 0) rfl (by kernel_rfl) rfl Try.underlying25 (by kernel_rfl) (fun _ hb => Below.trans hS (hb.mono (Below.size hS))) ?_) (op_build0 (i := 4) rfl (by kernel_rfl) rfl Try.underlying25 (by kernel_rfl) (fun _ hb => Below.trans hS (hb.mono (Below.size hS))) ?_)
        · intro ga W1 za hb S1
          have qa := (za.base ga rfl).1
          have za := za.more (base' := w7.heap.size) h7
          have hb7 := hb7.trans (hb.mono h7)
          have h7 := Nat.le_trans h7 hb.size
          clear hb
          simp only [Act.put, List.setIfInBounds_toArray, List.set_cons_zero, List.set_cons_succ]
          have zal := (za.base ga rfl).2
          refine tk_two (by kernel_rfl) (op_appG (i := 3) (.tmp 58) (.tmp 60) _ rfl (by kernel_rfl) rfl Try.underlying25 info8 w7.heap.size _ _ rfl za _ _ _ _ _ rfl (yo.below S1 (Nat.le_refl _)) (by simpa using hol) h7 (fun _ hb => Below.trans S1 (hb.mono h57)) ?_) (op_build0 (i := 4) rfl (by kernel_rfl) rfl Try.underlying25 (by kernel_rfl) (fun _ hb => Below.trans S1 (hb.mono (Below.size S1))) ?_)
          · intro va W2 ra hg hata S2
            rw [List.nil_append] at ra
            have hb := below_app za hg h7
            have hb7 := hb7.trans hb
            have h7 := Nat.le_trans h7 hb.size
            clear hb hg
            simp only [Act.put, List.setIfInBounds_toArray, List.set_cons_zero, List.set_cons_succ]
            refine tk (i := 8) (.pointer (some ⟨w5.heap.size, 15, none⟩)) S2 rfl (by kernel_rfl) (by kernel_rfl) (by kernel_rfl) (fun _ _ _ h => h) (by kernel_rfl) (by intro _ _; exact ex_field 15 0 (by exact rfl) Try.underlying27 (by exact rfl) rfl (by kernel_rfl) (by exact rfl)) ?_
            simp only [Act.put, List.setIfInBounds_toArray, List.set_cons_zero, List.set_cons_succ]
            have ra0 := ra.base
            refine tk_one (by kernel_rfl) (op_build0 (i := 4) rfl (by kernel_rfl) rfl Try.underlying25 (by kernel_rfl) (fun _ hb => Below.trans S2 (hb.mono (Below.size S2))) ?_)
            intro gb W3 zb hb S3
            have qb := (zb.base gb rfl).1
            have zb := zb.more (base' := w7.heap.size) h7
            have ra := ra.below hb
            have hb7 := hb7.trans (hb.mono h7)
            have h7 := Nat.le_trans h7 hb.size
            clear hb
            simp only [Act.put, List.setIfInBounds_toArray, List.set_cons_zero, List.set_cons_succ]
            refine tk_one (by kernel_rfl) (op_appG (i := 7) (.tmp 62) (.tmp 64) _ rfl (by kernel_rfl) rfl Try.underlying25 info8 w7.heap.size _ _ rfl zb _ _ _ _ _ rfl (yb.below S3 (Nat.le_refl _)) (by simpa using hbl) h7 (fun _ hb => Below.trans S3 (hb.mono h57)) ?_)
            intro vb W4 rb hg hatb S4
            rw [List.nil_append] at rb
            have ra := ra.grown hg (.inr (fun e => absurd (ra0 gb e).2 (by omega)))
            have hb := below_app zb hg h7
            have hb7 := hb7.trans hb
            have h7 := Nat.le_trans h7 hb.size
            clear hb hg
            simp only [Act.put, List.setIfInBounds_toArray, List.set_cons_zero, List.set_cons_succ]
            obtain ⟨Ao, ko, rfl, _⟩ := own_shape ra.own
            obtain ⟨Ab, kb, rfl, _⟩ := own_shape rb.own
            have h13 := h13.below hb7 h13.lt
            have T1 := below_setCell S4 (Nat.le_refl _) 15 (.slice Ao d.ol.length ko)
            refine tk_store1 (i := 9) (v := .slice Ao d.ol.length ko) (by kernel_rfl) rfl (by kernel_rfl) rfl rfl rfl rfl (by kernel_rfl) (h13.cell 15 (v := .slice p.oA d.ol.length p.oc) rfl) (h13.free 15) rfl T1 ?_
            simp only [Act.put]
            have h13 : Has (W4.setCell ⟨w5.heap.size, 15, none⟩ (.slice Ao d.ol.length ko)) w5.heap.size (.cells (d.cells ⟨Ao, ko, p.bA, p.bc⟩) 27 (0, 0)) := h13.setCell 15 (.slice Ao d.ol.length ko)
            have ra := ra.setCell hlt13 15 (.slice Ao d.ol.length ko)
            have rb := rb.setCell hlt13 15 (.slice Ao d.ol.length ko)
            refine tk (i := 10) (.pointer (some ⟨w5.heap.size, 16, none⟩)) T1 rfl (by kernel_rfl) (by kernel_rfl) (by kernel_rfl) (fun _ _ _ h => h) (by kernel_rfl) (by intro _ _; exact ex_field 16 0 (by exact rfl) Try.underlying27 (by exact rfl) rfl (by kernel_rfl) (by exact rfl)) ?_
            simp only [Act.put, List.setIfInBounds_toArray, List.set_cons_zero, List.set_cons_succ]
            have T2 := below_setCell T1 (Nat.le_refl _) 16 (.slice Ab d.bl.length kb)
            refine tk_store1 (i := 11) (v := .slice Ab d.bl.length kb) (by kernel_rfl) rfl (by kernel_rfl) rfl rfl rfl rfl (by kernel_rfl) (h13.cell 16 (v := .slice p.bA d.bl.length p.bc) rfl) (h13.free 16) rfl T2 ?_
            simp only [Act.put]
            have h13 : Has ((W4.setCell ⟨w5.heap.size, 15, none⟩ (.slice Ao d.ol.length ko)).setCell ⟨w5.heap.size, 16, none⟩ (.slice Ab d.bl.length kb)) w5.heap.size (.cells (d.cells ⟨Ao, ko, Ab, kb⟩) 27 (0, 0)) := h13.setCell 16 (.slice Ab d.bl.length kb)
            have ra := ra.setCell hlt13 16 (.slice Ab d.bl.length kb)
            have rb := rb.setCell hlt13 16 (.slice Ab d.bl.length kb)
            refine wpAnyH_done (by kernel_rfl) ?_ _
            exact hrest _ _ _ _ ga gb _ ⟨T2, h13, ra, rb⟩
          · intro gb W2 zb hb S2
            have qb := (zb.base gb rfl).1
            have zb := zb.more (base' := w7.heap.size) h7
            have za := za.below hb
            have hb7 := hb7.trans (hb.mono h7)
            have h7 := Nat.le_trans h7 hb.size
            clear hb
            simp only [Act.put, List.setIfInBounds_toArray, List.set_cons_zero, List.set_cons_succ]
            have zbl2 := (zb.base gb rfl).2
            refine tk_one (by kernel_rfl) (op_appG (i := 3) (.tmp 58) (.tmp 60) _ rfl (by kernel_rfl) rfl Try.underlying25 info8 w7.heap.size _ _ rfl za _ _ _ _ _ rfl (yo.below S2 (Nat.le_refl _)) (by simpa using hol) h7 (fun _ hb => Below.trans S2 (hb.mono h57)) ?_)
            intro va W3 ra hg hata S3
            rw [List.nil_append] at ra
            have zb := zb.grown hg (.inr (fun e => by have e2 : some gb = some ga := e; injection e2 with e3; omega))
            have hb := below_app za hg h7
            have hb7 := hb7.trans hb
            have h7 := Nat.le_trans h7 hb.size
            clear hb hg
            simp only [Act.put, List.setIfInBounds_toArray, List.set_cons_zero, List.set_cons_succ]
            refine tk (i := 8) (.pointer (some ⟨w5.heap.size, 15, none⟩)) S3 rfl (by kernel_rfl) (by kernel_rfl) (by kernel_rfl) (fun _ _ _ h => h) (by kernel_rfl) (by intro _ _; exact ex_field 15 0 (by exact rfl) Try.underlying27 (by exact rfl) rfl (by kernel_rfl) (by exact rfl)) ?_
            simp only [Act.put, List.setIfInBounds_toArray, List.set_cons_zero, List.set_cons_succ]
            refine tk_one (by kernel_rfl) (op_appG (i := 7) (.tmp 62) (.tmp 64) _ rfl (by kernel_rfl) rfl Try.underlying25 info8 w7.heap.size _ _ rfl zb _ _ _ _ _ rfl (yb.below S3 (Nat.le_refl _)) (by simpa using hbl) h7 (fun _ hb => Below.trans S3 (hb.mono h57)) ?_)
            intro vb W4 rb hg hatb S4
            rw [List.nil_append] at rb
            have ra := ra.grown hg (.inr (fun e => by rcases hata with h | h; (have e2 : some ga = some gb := h.symm.trans e; injection e2 with e3; omega); (have e2 : some W2.heap.size = some gb := h.symm.trans e; injection e2 with e3; omega)))
            have hb := below_app zb hg h7
            have hb7 := hb7.trans hb
            have h7 := Nat.le_trans h7 hb.size
            clear hb hg
            simp only [Act.put, List.setIfInBounds_toArray, List.set_cons_zero, List.set_cons_succ]
            obtain ⟨Ao, ko, rfl, _⟩ := own_shape ra.own
            obtain ⟨Ab, kb, rfl, _⟩ := own_shape rb.own
            have h13 := h13.below hb7 h13.lt
            have T1 := below_setCell S4 (Nat.le_refl _) 15 (.slice Ao d.ol.length ko)
            refine tk_store1 (i := 9) (v := .slice Ao d.ol.length ko) (by kernel_rfl) rfl (by kernel_rfl) rfl rfl rfl rfl (by kernel_rfl) (h13.cell 15 (v := .slice p.oA d.ol.length p.oc) rfl) (h13.free 15) rfl T1 ?_
            simp only [Act.put]
            have h13 : Has (W4.setCell ⟨w5.heap.size, 15, none⟩ (.slice Ao d.ol.length ko)) w5.heap.size (.cells (d.cells ⟨Ao, ko, p.bA, p.bc⟩) 27 (0, 0)) := h13.setCell 15 (.slice Ao d.ol.length ko)
            have ra := ra.setCell hlt13 15 (.slice Ao d.ol.length ko)
            have rb := rb.setCell hlt13 15 (.slice Ao d.ol.length ko)
            refine tk (i := 10) (.pointer (some ⟨w5.heap.size, 16, none⟩)) T1 rfl (by kernel_rfl) (by kernel_rfl) (by kernel_rfl) (fun _ _ _ h => h) (by kernel_rfl) (by intro _ _; exact ex_field 16 0 (by exact rfl) Try.underlying27 (by exact rfl) rfl (by kernel_rfl) (by exact rfl)) ?_
            simp only [Act.put, List.setIfInBounds_toArray, List.set_cons_zero, List.set_cons_succ]
            have T2 := below_setCell T1 (Nat.le_refl _) 16 (.slice Ab d.bl.length kb)
            refine tk_store1 (i := 11) (v := .slice Ab d.bl.length kb) (by kernel_rfl) rfl (by kernel_rfl) rfl rfl rfl rfl (by kernel_rfl) (h13.cell 16 (v := .slice p.bA d.bl.length p.bc) rfl) (h13.free 16) rfl T2 ?_
            simp only [Act.put]
            have h13 : Has ((W4.setCell ⟨w5.heap.size, 15, none⟩ (.slice Ao d.ol.length ko)).setCell ⟨w5.heap.size, 16, none⟩ (.slice Ab d.bl.length kb)) w5.heap.size (.cells (d.cells ⟨Ao, ko, Ab, kb⟩) 27 (0, 0)) := h13.setCell 16 (.slice Ab d.bl.length kb)
            have ra := ra.setCell hlt13 16 (.slice Ab d.bl.length kb)
            have rb := rb.setCell hlt13 16 (.slice Ab d.bl.length kb)
            refine wpAnyH_done (by kernel_rfl) ?_ _
            exact hrest _ _ _ _ ga gb _ ⟨T2, h13, ra, rb⟩
        · intro gb W1 zb hb S1
          have qb := (zb.base gb rfl).1
          have zb := zb.more (base' := w7.heap.size) h7
          have hb7 := hb7.trans (hb.mono h7)
          have h7 := Nat.le_trans h7 hb.size
          clear hb
          simp only [Act.put, List.setIfInBounds_toArray, List.set_cons_zero, List.set_cons_succ]
          have zbl := (zb.base gb rfl).2
          refine tk_one (by kernel_rfl) (op_build0 (i := 0) rfl (by kernel_rfl) rfl Try.underlying25 (by kernel_rfl) (fun _ hb => Below.trans S1 (hb.mono (Below.size S1))) ?_)
          intro ga W2 za hb S2
          have qa := (za.base ga rfl).1
          have za := za.more (base' := w7.heap.size) h7
          have zb := zb.below hb
          have hb7 := hb7.trans (hb.mono h7)
          have h7 := Nat.le_trans h7 hb.size
          clear hb
          simp only [Act.put, List.setIfInBounds_toArray, List.set_cons_zero, List.set_cons_succ]
          have zbl2 := (zb.base gb rfl).2
          refine tk_one (by kernel_rfl) (op_appG (i := 3) (.tmp 58) (.tmp 60) _ rfl (by kernel_rfl) rfl Try.underlying25 info8 w7.heap.size _ _ rfl za _ _ _ _ _ rfl (yo.below S2 (Nat.le_refl _)) (by simpa using hol) h7 (fun _ hb => Below.trans S2 (hb.mono h57)) ?_)
          intro va W3 ra hg hata S3
          rw [List.nil_append] at ra
          have zb := zb.grown hg (.inr (fun e => by have e2 : some gb = some ga := e; injection e2 with e3; omega))
          have hb := below_app za hg h7
          have hb7 := hb7.trans hb
          have h7 := Nat.le_trans h7 hb.size
          clear hb hg
          simp only [Act.put, List.setIfInBounds_toArray, List.set_cons_zero, List.set_cons_succ]
          refine tk (i := 8) (.pointer (some ⟨w5.heap.size, 15, none⟩)) S3 rfl (by kernel_rfl) (by kernel_rfl) (by kernel_rfl) (fun _ _ _ h => h) (by kernel_rfl) (by intro _ _; exact ex_field 15 0 (by exact rfl) Try.underlying27 (by exact rfl) rfl (by kernel_rfl) (by exact rfl)) ?_
          simp only [Act.put, List.setIfInBounds_toArray, List.set_cons_zero, List.set_cons_succ]
          refine tk_one (by kernel_rfl) (op_appG (i := 7) (.tmp 62) (.tmp 64) _ rfl (by kernel_rfl) rfl Try.underlying25 info8 w7.heap.size _ _ rfl zb _ _ _ _ _ rfl (yb.below S3 (Nat.le_refl _)) (by simpa using hbl) h7 (fun _ hb => Below.trans S3 (hb.mono h57)) ?_)
          intro vb W4 rb hg hatb S4
          rw [List.nil_append] at rb
          have ra := ra.grown hg (.inr (fun e => by rcases hata with h | h; (have e2 : some ga = some gb := h.symm.trans e; injection e2 with e3; omega); (have e2 : some W2.heap.size = some gb := h.symm.trans e; injection e2 with e3; omega)))
          have hb := below_app zb hg h7
          have hb7 := hb7.trans hb
          have h7 := Nat.le_trans h7 hb.size
          clear hb hg
          simp only [Act.put, List.setIfInBounds_toArray, List.set_cons_zero, List.set_cons_succ]
          obtain ⟨Ao, ko, rfl, _⟩ := own_shape ra.own
          obtain ⟨Ab, kb, rfl, _⟩ := own_shape rb.own
          have h13 := h13.below hb7 h13.lt
          have T1 := below_setCell S4 (Nat.le_refl _) 15 (.slice Ao d.ol.length ko)
          refine tk_store1 (i := 9) (v := .slice Ao d.ol.length ko) (by kernel_rfl) rfl (by kernel_rfl) rfl rfl rfl rfl (by kernel_rfl) (h13.cell 15 (v := .slice p.oA d.ol.length p.oc) rfl) (h13.free 15) rfl T1 ?_
          simp only [Act.put]
          have h13 : Has (W4.setCell ⟨w5.heap.size, 15, none⟩ (.slice Ao d.ol.length ko)) w5.heap.size (.cells (d.cells ⟨Ao, ko, p.bA, p.bc⟩) 27 (0, 0)) := h13.setCell 15 (.slice Ao d.ol.length ko)
          have ra := ra.setCell hlt13 15 (.slice Ao d.ol.length ko)
          have rb := rb.setCell hlt13 15 (.slice Ao d.ol.length ko)
          refine tk (i := 10) (.pointer (some ⟨w5.heap.size, 16, none⟩)) T1 rfl (by kernel_rfl) (by kernel_rfl) (by kernel_rfl) (fun _ _ _ h => h) (by kernel_rfl) (by intro _ _; exact ex_field 16 0 (by exact rfl) Try.underlying27 (by exact rfl) rfl (by kernel_rfl) (by exact rfl)) ?_
          simp only [Act.put, List.setIfInBounds_toArray, List.set_cons_zero, List.set_cons_succ]
          have T2 := below_setCell T1 (Nat.le_refl _) 16 (.slice Ab d.bl.length kb)
          refine tk_store1 (i := 11) (v := .slice Ab d.bl.length kb) (by kernel_rfl) rfl (by kernel_rfl) rfl rfl rfl rfl (by kernel_rfl) (h13.cell 16 (v := .slice p.bA d.bl.length p.bc) rfl) (h13.free 16) rfl T2 ?_
          simp only [Act.put]
          have h13 : Has ((W4.setCell ⟨w5.heap.size, 15, none⟩ (.slice Ao d.ol.length ko)).setCell ⟨w5.heap.size, 16, none⟩ (.slice Ab d.bl.length kb)) w5.heap.size (.cells (d.cells ⟨Ao, ko, Ab, kb⟩) 27 (0, 0)) := h13.setCell 16 (.slice Ab d.bl.length kb)
          have ra := ra.setCell hlt13 16 (.slice Ab d.bl.length kb)
          have rb := rb.setCell hlt13 16 (.slice Ab d.bl.length kb)
          refine wpAnyH_done (by kernel_rfl) ?_ _
          exact hrest _ _ _ _ ga gb _ ⟨T2, h13, ra, rb⟩
      case h2 =>
        rintro A3 k3 A4 k4 ga gb W9 ⟨hW, h13, ra, rb⟩
        have K13 : K4 W9 w5.heap.size d ⟨A3, k3, A4, k4⟩ := ⟨h13, hR.ok, own_by4 ra, own_by4 rb⟩
        have hb13 : ∀ g, (Value.slice A4 d.bl.length k4).ownBlock = some g → w7.heap.size ≤ g ∧ g < W9.heap.size := fun g hg => rb.base g hg
        clear ra h13
        go_wp2_with (refine wpList_load_rowG (by kernel_rfl) 27 (.tmp 13) rfl w5.heap.size rfl 27 (d.cells ⟨A3, k3, A4, k4⟩) (0, 0) _ K13.has Try.underlying27 rfl v4_info ?_)
        refine (write_any d ⟨A3, k3, A4, k4⟩ W9 K13.rd).mono ?_
        rintro e w10 ⟨v14, s, rfl, hs, o14, hb⟩
        have K13 := K13.below hb
        have rb := rb.below hb
        have hW := hW.trans (hb.mono hW.size)
        have K0d := K0.below hW
        clear hb
        go_wp2_with (first
          | (refine wpList_load_rowG (by kernel_rfl) 27 (.tmp 2) rfl w.heap.size rfl 27 (d.cells p) (0, 0) _ K0d.has Try.underlying27 rfl v4_info ?_)
          | (refine wpList_load_rowG (by kernel_rfl) 27 (.tmp 13) rfl w5.heap.size rfl 27 (d.cells ⟨A3, k3, A4, k4⟩) (0, 0) _ K13.has Try.underlying27 rfl v4_info ?_))
        refine (K0d.same K13).mono ?_
        rintro e w11 ⟨q, rfl, hq, hb⟩
        obtain rfl : q = true := hq.out.trans (same4_self _)
        have h13 := K13.has.below hb K13.has.lt
        have rb := rb.below hb
        have o14 := o14.below hb
        have hW := hW.trans (hb.mono hW.size)
        clear hb hq K13 K0d
        have c16 := h13.cell 16 (v := .slice A4 d.bl.length k4) rfl
        have hbl63 : d.bl.length ≤ 9223372036854775807 := by omega
        go_wp2
        go_loopw [80] (fun i wr => ∃ k : Nat, k ≤ d.bl.length ∧ i = .int .i64 k ∧ OwnB wr w7.heap.size (.slice A4 d.bl.length k4) (notd d.bl k) ∧ Has wr w5.heap.size (.cells (d.cells ⟨A3, k3, A4, k4⟩) 27 (0, 0)) ∧ OwnB wr W9.heap.size v14 d.write ∧ Below w5.heap.size w5 wr) (fun i _ => d.bl.length - (intOf i).toNat)
        case atStart => exact ⟨0, Nat.zero_le _, rfl, rb, h13, o14, hW⟩
        case round =>
          obtain ⟨k, hk, rfl, rb, h13, o14, hW⟩ := hrel
          by_cases hlt : k < d.bl.length
          · obtain ⟨x, hx⟩ : ∃ x, d.bl.getD k 0 = x := ⟨_, rfl⟩
            have rx := getD_rng4 hR.body.rng k
            rw [hx] at rx
            obtain ⟨g, e1, hg1, hg2, cx, fx, u1⟩ := rb.byte (by rw [notd_len]) hlt
            subst e1
            obtain ⟨-, hgl⟩ := hb13 g rfl
            rw [notd_get hlt, hx] at cx
            have u1 := u1 (255 - x) (by omega)
            have hst := notd_set hlt
            rw [hx] at hst
            rw [hst] at u1
            have hkn : (k : Int) < (d.bl.length : Int) := by omega
            have hx5g : w5.heap.size ≠ g := by omega
            have hg5 : w5.heap.size ≤ g := by omega
            have hk63 : (k : Int) + 1 ≤ 9223372036854775807 := by omega
            have u1H := Lib.hid u1
            have hxH := Lib.hid rx
            have c16 := h13.drew.cell 16 (v := .slice (some ⟨g, 0, none⟩) d.bl.length k4) rfl
            have cxd : wr.drew.cell? ⟨g, k, none⟩ = some (.int .u8 x) := cx
            have fxd : wr.drew.frozen? ⟨g, k, none⟩ = false := fx
            have cxH := Lib.hid cxd
            have fxH := Lib.hid fxd
            have c16H := Lib.hid c16
            have hltH := Lib.hid hlt
            clear hst hx rb u1 rx cx fx cxd fxd c16
            go_wp2
            refine wp_region_still_tail 10 (by kernel_rfl) (by kernel_rfl) ?_
            simp only [List.take_succ_cons, List.take_zero, List.drop_succ_cons, List.drop_zero]
            show wpStill _ _ wr.drew _ _ _
            refine st (.pointer (some ⟨w5.heap.size, 16, none⟩)) (by kernel_rfl) (by exact ex_field 16 0 (by exact rfl) Try.underlying27 (by exact rfl) rfl (by kernel_rfl) (by exact rfl)) ?_
            simp only [Act.put, List.setIfInBounds_toArray, List.set_cons_zero, List.set_cons_succ]
            refine st (.slice (some ⟨g, 0, none⟩) d.bl.length k4) (by kernel_rfl) (by exact ex_cell (by exact rfl) Try.underlying25 rfl (by exact rfl) c16H.out) ?_
            simp only [Act.put, List.setIfInBounds_toArray, List.set_cons_zero, List.set_cons_succ]
            refine st (.int .i64 (k : Int)) (by kernel_rfl) (by exact rfl) ?_
            simp only [Act.put, List.setIfInBounds_toArray, List.set_cons_zero, List.set_cons_succ]
            refine st (.pointer (some ⟨w5.heap.size, 16, none⟩)) (by kernel_rfl) (by exact ex_field 16 0 (by exact rfl) Try.underlying27 (by exact rfl) rfl (by kernel_rfl) (by exact rfl)) ?_
            simp only [Act.put, List.setIfInBounds_toArray, List.set_cons_zero, List.set_cons_succ]
            refine st (.slice (some ⟨g, 0, none⟩) d.bl.length k4) (by kernel_rfl) (by exact ex_cell (by exact rfl) Try.underlying25 rfl (by exact rfl) c16H.out) ?_
            simp only [Act.put, List.setIfInBounds_toArray, List.set_cons_zero, List.set_cons_succ]
            refine st (.int .i64 (k : Int)) (by kernel_rfl) (by exact rfl) ?_
            simp only [Act.put, List.setIfInBounds_toArray, List.set_cons_zero, List.set_cons_succ]
            refine st (.pointer (some ⟨g, k, none⟩)) (by kernel_rfl) (by exact ex_index0 (by exact rfl) Try.underlying25 (by kernel_rfl) (by exact rfl) (by exact rfl) hltH.out) ?_
            simp only [Act.put, List.setIfInBounds_toArray, List.set_cons_zero, List.set_cons_succ]
            refine st (.int .u8 x) (by kernel_rfl) (by exact ex_cell (by exact rfl) Try.underlying5 rfl (by exact rfl) cxH.out) ?_
            simp only [Act.put, List.setIfInBounds_toArray, List.set_cons_zero, List.set_cons_succ]
            refine st (.int .u8 (255 - x)) (by kernel_rfl) (by exact ex_not8 (by exact rfl) (by exact rfl) ⟨hxH.out.1, by have := hxH.out.2; omega⟩) ?_
            simp only [Act.put, List.setIfInBounds_toArray, List.set_cons_zero, List.set_cons_succ]
            refine st (.pointer (some ⟨g, k, none⟩)) (by kernel_rfl) (by exact ex_index0 (by exact rfl) Try.underlying25 (by kernel_rfl) (by exact rfl) (by exact rfl) hltH.out) ?_
            simp only [Act.put, List.setIfInBounds_toArray, List.set_cons_zero, List.set_cons_succ]
            refine wpStill_nil ?_
            change wpList _ _ _ _ _ wr.drew
            have cx := cxH.out
            have fx := fxH.out
            generalize hwd : wr.drew = wd at cx fx ⊢
            go_wp2
            subst hwd
            go_roundw
            case rel => exact ⟨k + 1, by omega, by go_num, ⟨u1H.out.own, u1H.out.rng⟩, h13.drew.setCell_other hx5g k _, o14.drew.setCell hgl k _, below_setCell (hW.trans (below_drew _ _)) hg5 k _⟩
            case measure => simp [intOf]; omega
          · obtain rfl : k = d.bl.length := by omega
            have K0d := K0.below hW
            have hsH := Lib.hid hs.out
            have s14 := Lib.hid hs.out
            clear rb h13
            go_wp2_with (refine wpList_load_rowG (by kernel_rfl) 27 (.tmp 2) rfl w.heap.size rfl 27 (d.cells p) (0, 0) _ K0d.has Try.underlying27 rfl v4_info ?_)
            refine (rwrite_any d p _ K0d.rd).mono ?_
            rintro e w12 ⟨v17, s', rfl, hs', o17, hb⟩
            obtain rfl : s = s' := hs.out.trans hs'.out.symm
            have o14 := o14.below hb
            have hW := hW.trans (hb.mono hW.size)
            have K6 := K6.below hW
            have K10 := K10.below hW
            clear hb K0d hs hs' hsH s14
            obtain ⟨A14, c14, rfl, x14⟩ := o14.by_
            obtain ⟨A17, c17, rfl, x17⟩ := o17.by_
            obtain ⟨L, hL⟩ : ∃ L, d.write = L := ⟨_, rfl⟩
            rw [hL] at x14 x17 ⊢
            clear hL o14 o17
            go_wp2_with (first
              | (refine wpList_load_rowG (by kernel_rfl) 27 (.tmp 6) rfl g6 rfl 27 (DF.cells p2) (0, 0) _ K6.has Try.underlying27 rfl v4_info ?_)
              | (refine wpList_load_rowG (by kernel_rfl) 27 (.tmp 10) rfl g10 rfl 27 (DF.cells p4) (0, 0) _ K10.has Try.underlying27 rfl v4_info ?_))
            refine (K6.same K10).mono ?_
            rintro e w13 ⟨q, rfl, hq, hb⟩
            obtain rfl : q = true := hq.out.trans (same4_self _)
            have hW := hW.trans (hb.mono hW.size)
            have q14 := ((x14.below hb (Nat.le_refl _)).more hb.size).conv (P := Try.prog) 25 9 Try.underlying25 Try.underlying5 Try.underlying9
            have q17 := ((x17.below hb (Nat.le_refl _)).more hb.size).conv (P := Try.prog) 25 9 Try.underlying25 Try.underlying5 Try.underlying9
            clear hb hq x14 x17 K6 K10
            go_wp2_with fail
            refine (awake_any _).mono ?_
            rintro e w14 ⟨rfl, hb⟩
            have hW := hW.trans (hb.mono hW.size)
            have hBf := hB.trans ((hB0.mono (Nat.le_refl _)).mono hB.size)
            have hBf := hBf.trans (hW.mono hBf.size)
            go_wp2
            go_ret
            exact ⟨rfl, hBf⟩
end Go.Proofs.Ytfkcejfjmfliaaa
