/-
  Lemmas and walks for the row of TosixTells (part 39 of 39).
-/
import Derived.Test.YtijnifbpbgckgaaTtAF
import Derived.Test.YtijnifbpbgckgaaTtBG
import Derived.Test.YtijnifbpbgckgaaTtBL
import Derived.Stop.BytesEq
set_option linter.unusedVariables false
set_option linter.unusedSimpArgs false
namespace Go.Proofs.Ytijnifbpbgckgaa
open Go.RowKit Go.Shelf
theorem eql_arr4 {P : Program} (w : World) (d : Nat) (t e : TypeId) (a0 a1 a2 a3 : Int) (ht : P.underlying t = some (.array 4 e)) (he : P.underlying e = some (.int .u8)) (hz : (P.info? e).map (·.size) = some 1) :
    (Op.equalIn (d + 2) t (.agg #[.int .u8 a0, .int .u8 a1, .int .u8 a2, .int .u8 a3]) (.agg #[.int .u8 a0, .int .u8 a1, .int .u8 a2, .int .u8 a3])).run P w = .ok true w := by
  have hs : ∀ w, (sizeOf e).run P w = .ok 1 w := by
    intro w
    cases hq : P.info? e with
    | none => simp [hq] at hz
    | some i => simp [hq] at hz; simp [sizeOf, typeInfo, hq, hz]
  rw [Op.equalIn]
  simp only [Sem.run_bind, run_underlying ht, Result.andThen_ok, hs, Std.Legacy.Range.forIn_eq_forIn_range', Std.Legacy.Range.size, Nat.sub_zero, Nat.add_sub_cancel, Nat.div_one]
  simp [List.range', part, isAgg, run_underlying he, run_equalIn_int w d e .u8 .u8 _ _ he]
theorem size_of {P : Program} (w : World) (t : TypeId) (n : Nat) (hz : (P.info? t).map (·.size) = some n) : (sizeOf t).run P w = .ok n w := by
  cases hq : P.info? t with
  | none => simp [hq] at hz
  | some i => simp [hq] at hz; simp [sizeOf, typeInfo, hq, hz]
theorem part_arr4 {P : Program} (w : World) (t : TypeId) (xs : Array Value) (off : Nat) (ys : Array Value) (ha : (isAgg t).run P w = .ok true w) (hz : (sizeOf t).run P w = .ok 4 w) (h : xs.extract off (off + 4) = ys) :
    (part t xs off).run P w = .ok (.agg ys) w := by
  subst h
  simp [part, ha, hz]
theorem eql_ends4 (w : World) (s t : List Int) : (binOp .eql 68 (.agg (ends4 s t)) (.agg (ends4 s t))).run Try.prog w = .ok (.bool true) w := by
  have hs : ∀ w, (sizeOf 24).run Try.prog w = .ok 4 w := fun w => size_of w _ 4 (by kernel_rfl)
  have ha : ∀ w, (isAgg 24).run Try.prog w = .ok true w := fun w => by simp [isAgg, run_underlying Try.underlying24]
  have hf : (Try.prog.fieldsOf 68).toList = [{ name := "Src", type := 24, offset := 0, embedded := false, tag := "", pkgPath := "", byteOffset := 0 }, { name := "Dst", type := 24, offset := 4, embedded := false, tag := "", pkgPath := "", byteOffset := 4 }] := by kernel_rfl
  rw [run_eql_struct, run_equalIn_struct w 9999 68 _ _ (by kernel_rfl) (by kernel_rfl), hf]
  have p0 := fun w => part_arr4 w 24 (ends4 s t) 0 #[.int .u8 (s.getD 0 0), .int .u8 (s.getD 1 0), .int .u8 (s.getD 2 0), .int .u8 (s.getD 3 0)] (ha w) (hs w) (by simp [ends4])
  have p4 := fun w => part_arr4 w 24 (ends4 s t) 4 #[.int .u8 (t.getD 0 0), .int .u8 (t.getD 1 0), .int .u8 (t.getD 2 0), .int .u8 (t.getD 3 0)] (ha w) (hs w) (by simp [ends4])
  have q := fun w a0 a1 a2 a3 => eql_arr4 (P := Try.prog) w 9997 24 5 a0 a1 a2 a3 Try.underlying24 Try.underlying5 (by kernel_rfl)
  simp only [Op.eqFields, Sem.run_bind, Sem.run_ite, p0, p4, Result.andThen_ok]
  simp [q]
theorem ex_eq_ends4 {ρ : Operand → Value} {o : Oper} {z : TypeId} {x y : Operand} {w : World} (s t : List Int) (ho : o.op = .binOp .eql 68 x y z) (hx : ρ x = .agg (ends4 s t)) (hy : ρ y = .agg (ends4 s t)) : (execOp ρ o).run Try.prog w = .ok (.value (.bool true)) w := by
  unfold execOp
  simp only [ho, hx, hy, Sem.run_bind, run_eqGuard_agg (P := Try.prog) w .eql 68 x y _ _ (by kernel_rfl), Result.andThen_ok, eql_ends4, Sem.run_pure]
end Go.Proofs.Ytijnifbpbgckgaa
namespace Go.Proofs.Ytijnifbpbgckgaa
open Go.RowKit Go.Shelf
attribute [local irreducible] wpList Code.wp Oper.wp wpOp wpAnyH

set_option maxRecDepth 100000 in
set_option maxHeartbeats 4000000 in
theorem tells17_walk (d : D4) (p : W4) (n m : Int) (w : World) (hR : Rd4 w.heap.size w d p) (hn0 : 0 ≤ n) (hn1 : n ≤ 255) (hm0 : 0 ≤ m) (hm1 : m < 65536) :
  Calls Try.prog 8 #[.agg (d.cells p), .int .u8 n, .int .u16 m] w fun e w' => e = .returned (.bool true) ∧ Below w.heap.size w w' := by
 obtain ⟨C, hC⟩ : ∃ x, cut17 d = x := ⟨_, rfl⟩
 have hRC := cut17_rd hR
 rw [hC] at hRC
 have yoC := hRC.opt
 have ybC := hRC.body
 go_enter Try.func8, Try.ntmps8
 refine wp_sr ?_
 refine lz (ow_box 27 (.tmp 0) _ rfl rfl ?_)
 intro g1 W2 hg3 ge4 sz5 hb6
 have z7 := hb6.size
 simp only [lay]
 refine lv (.bool false) (by exact xa) ?_
 simp only [lay]
 refine wn ?_
 refine wp_sr ?_
 refine lv (.agg (d.cells p)) (by exact xo (hg3.load (P := Try.prog) 27 Try.underlying27 rfl (by kernel_rfl))) ?_
 simp only [lay]
 have rd8 := hR.to hb6
 refine lz (ow_call (fun v w' => v = .agg (C.cells p) ∧ Below W2.heap.size W2 w') (by exact xk Try.func9) ((cut17_any d p W2 rd8).mono fun e w' h => ⟨_, h.1, by rw [hC], h.2⟩) ?_)
 rintro _ W9 ⟨rfl, hb10⟩
 have z11 := hb10.size
 simp only [lay]
 have has16 := hg3.to hb10
 refine lz (ow_st 27 (.tmp 3) (.tmp 18) g1 (C.cells p) _ _ rfl (by exact rfl) (by exact rfl) has16 (by kernel_rfl) rfl (by kernel_rfl) ?_)
 intro W12 hg13 bs14 hb15
 have z17 := hb15.size
 simp only [lay]
 refine wn ?_
 refine wp_sr ?_
 refine lv (.agg (C.cells p)) (by exact xo (hg13.load (P := Try.prog) 27 Try.underlying27 rfl (by kernel_rfl))) ?_
 simp only [lay]
 have b18 := bt hb6 hb10
 have l19 : w.heap.size ≤ g1 := Nat.le_of_eq ge4.symm
 have b20 := b18.trans (hb15.mono l19)
 have rd21 := hRC.to b20
 refine lz (ow_call (fun v w' => v = .tuple #[.agg (ends4 (tells17 C).1.1 (tells17 C).1.2), .bool (tells17 C).2.1, .int .i64 (tells17 C).2.2] ∧ Below W12.heap.size W12 w') (by exact xk Try.func26) ((tells17_any C p W12 rd21).mono fun e w' h => ⟨_, h.1, rfl, h.2⟩) ?_)
 rintro _ W22 ⟨rfl, hb23⟩
 have z24 := hb23.size
 simp only [lay]
 refine lv (.tuple #[.agg (ends4 (tells17 C).1.1 (tells17 C).1.2), .bool ((tells17 C).2.1), .int .i64 ((tells17 C).2.2)]) (by exact xm) ?_
 simp only [lay]
 refine lv (.agg (ends4 (tells17 C).1.1 (tells17 C).1.2)) (by exact xe) ?_
 simp only [lay]
 refine lv (.bool ((tells17 C).2.1)) (by exact xe) ?_
 simp only [lay]
 refine lv (.int .i64 ((tells17 C).2.2)) (by exact xe) ?_
 simp only [lay]
 refine lz (oa #[.int .u8 0, .int .u8 0, .int .u8 0, .int .u8 0, .int .u8 0, .int .u8 0, .int .u8 0, .int .u8 0] ?_)
 intro g25 W26 hg27 ge28 sz29 hb30
 have z31 := hb30.size
 simp only [lay]
 refine lz (ow_st 68 (.tmp 7) (.tmp 22) g25 (ends4 (tells17 C).1.1 (tells17 C).1.2) _ _ rfl (by exact rfl) (by exact rfl) hg27 (by kernel_rfl) rfl (by kernel_rfl) ?_)
 intro W32 hg33 bs34 hb35
 have z36 := hb35.size
 simp only [lay]
 refine lv (.bool ((tells17 C).2.1)) (by exact xa) ?_
 simp only [lay]
 refine lv (.int .i64 ((tells17 C).2.2)) (by exact xa) ?_
 simp only [lay]
 refine wn ?_
 refine wp_sr ?_
 have b37 := bt hb23 hb30
 have l38 := lq hb23 ge28
 have b39 := b37.trans (hb35.mono l38)
 have has40 := hg13.to b39
 refine lv (.agg (C.cells p)) (by exact xo (has40.load (P := Try.prog) 27 Try.underlying27 rfl (by kernel_rfl))) ?_
 simp only [lay]
 have b41 := bt b20 hb23
 have b42 := bt b41 hb30
 have l43 := lq b41 ge28
 have b44 := b42.trans (hb35.mono l43)
 have rd45 := hRC.to b44
 refine lz (ow_call (fun v w' => v = .tuple #[.agg (ends4 (tells17 C).1.1 (tells17 C).1.2), .bool (tells17 C).2.1, .int .i64 (tells17 C).2.2] ∧ Below W32.heap.size W32 w') (by exact xk Try.func27) ((rtells17_any C p W32 rd45).mono fun e w' h => ⟨_, h.1, rfl, h.2⟩) ?_)
 rintro _ W46 ⟨rfl, hb47⟩
 have z48 := hb47.size
 simp only [lay]
 refine lv (.tuple #[.agg (ends4 (tells17 C).1.1 (tells17 C).1.2), .bool ((tells17 C).2.1), .int .i64 ((tells17 C).2.2)]) (by exact xm) ?_
 simp only [lay]
 refine lv (.agg (ends4 (tells17 C).1.1 (tells17 C).1.2)) (by exact xe) ?_
 simp only [lay]
 refine lv (.bool ((tells17 C).2.1)) (by exact xe) ?_
 simp only [lay]
 refine lv (.int .i64 ((tells17 C).2.2)) (by exact xe) ?_
 simp only [lay]
 refine lz (oa #[.int .u8 0, .int .u8 0, .int .u8 0, .int .u8 0, .int .u8 0, .int .u8 0, .int .u8 0, .int .u8 0] ?_)
 intro g49 W50 hg51 ge52 sz53 hb54
 have z55 := hb54.size
 simp only [lay]
 refine lz (ow_st 68 (.tmp 10) (.tmp 28) g49 (ends4 (tells17 C).1.1 (tells17 C).1.2) _ _ rfl (by exact rfl) (by exact rfl) hg51 (by kernel_rfl) rfl (by kernel_rfl) ?_)
 intro W56 hg57 bs58 hb59
 have z60 := hb59.size
 simp only [lay]
 refine lv (.bool ((tells17 C).2.1)) (by exact xa) ?_
 simp only [lay]
 refine lv (.int .i64 ((tells17 C).2.2)) (by exact xa) ?_
 simp only [lay]
 refine wn ?_
 refine wp_sr ?_
 refine lv (.int .u8 n) (by exact xm) ?_
 simp only [lay]
 refine lz (ow_same (.tuple #[.int .u32 ((ptr17 n).1), .bool ((ptr17 n).2)]) (by exact xk Try.func28) (ptr17_any n (by omega) W56) ?_)
 simp only [lay]
 refine lv (.tuple #[.int .u32 ((ptr17 n).1), .bool ((ptr17 n).2)]) (by exact xm) ?_
 simp only [lay]
 refine lv (.int .u32 ((ptr17 n).1)) (by exact xe) ?_
 simp only [lay]
 refine lv (.bool ((ptr17 n).2)) (by exact xe) ?_
 simp only [lay]
 refine lv (.int .u32 ((ptr17 n).1)) (by exact xa) ?_
 simp only [lay]
 refine lv (.bool ((ptr17 n).2)) (by exact xa) ?_
 simp only [lay]
 refine wn ?_
 refine wp_sr ?_
 refine lv (.int .u8 n) (by exact xm) ?_
 simp only [lay]
 refine lz (ow_same (.tuple #[.int .u32 ((ptr17 n).1), .bool ((ptr17 n).2)]) (by exact xk Try.func29) (rptr17_any n (by omega) W56) ?_)
 simp only [lay]
 refine lv (.tuple #[.int .u32 ((ptr17 n).1), .bool ((ptr17 n).2)]) (by exact xm) ?_
 simp only [lay]
 refine lv (.int .u32 ((ptr17 n).1)) (by exact xe) ?_
 simp only [lay]
 refine lv (.bool ((ptr17 n).2)) (by exact xe) ?_
 simp only [lay]
 refine lv (.int .u32 ((ptr17 n).1)) (by exact xa) ?_
 simp only [lay]
 refine lv (.bool ((ptr17 n).2)) (by exact xa) ?_
 simp only [lay]
 refine wn ?_
 refine wp_sr ?_
 have b61 := bt hb47 hb54
 have l62 := lq hb47 ge52
 have b63 := b61.trans (hb59.mono l62)
 have has64 := hg33.to b63
 refine lv (.agg (ends4 (tells17 C).1.1 (tells17 C).1.2)) (by exact xo (has64.load (P := Try.prog) 68 Try.underlying68 rfl (by kernel_rfl))) ?_
 simp only [lay]
 refine lv (.agg (ends4 (tells17 C).1.1 (tells17 C).1.2)) (by exact xo (hg57.load (P := Try.prog) 68 Try.underlying68 rfl (by kernel_rfl))) ?_
 simp only [lay]
 refine lv (.bool true) (by exact ex_eq_ends4 _ _ (by exact rfl) (by exact rfl) (by exact rfl)) ?_
 simp only [lay]
 refine lv (.bool true) (by exact xm) ?_
 simp only [lay]
 refine lv (.bool ((tells17 C).2.1)) (by exact xm) ?_
 simp only [lay]
 refine lv (.bool ((tells17 C).2.1)) (by exact xm) ?_
 simp only [lay]
 refine lv (.bool true) (by exact eq_bool_eq (by exact rfl) Try.underlying4 (by exact rfl) (by exact rfl) rfl) ?_
 simp only [lay]
 refine lv (.bool true) (by exact xp (b := true)) ?_
 simp only [lay]
 refine lv (.bool true) (by exact xm) ?_
 simp only [lay]
 refine lv (.int .i64 ((tells17 C).2.2)) (by exact xm) ?_
 simp only [lay]
 refine lv (.int .i64 ((tells17 C).2.2)) (by exact xm) ?_
 simp only [lay]
 refine lv (.bool true) (by exact yq (h := rfl)) ?_
 simp only [lay]
 refine lv (.bool true) (by exact xp (b := true)) ?_
 simp only [lay]
 refine lv (.bool true) (by exact xm) ?_
 simp only [lay]
 refine lv (.int .u32 ((ptr17 n).1)) (by exact xm) ?_
 simp only [lay]
 refine lv (.int .u32 ((ptr17 n).1)) (by exact xm) ?_
 simp only [lay]
 refine lv (.bool true) (by exact yq (h := rfl)) ?_
 simp only [lay]
 refine lv (.bool true) (by exact xp (b := true)) ?_
 simp only [lay]
 refine lv (.bool true) (by exact xm) ?_
 simp only [lay]
 refine lv (.bool ((ptr17 n).2)) (by exact xm) ?_
 simp only [lay]
 refine lv (.bool ((ptr17 n).2)) (by exact xm) ?_
 simp only [lay]
 refine lv (.bool true) (by exact eq_bool_eq (by exact rfl) Try.underlying4 (by exact rfl) (by exact rfl) rfl) ?_
 simp only [lay]
 refine lv (.bool true) (by exact xp (b := true)) ?_
 simp only [lay]
 refine lv (.bool true) (by exact xm) ?_
 simp only [lay]
 refine lv (.int .u16 m) (by exact xm) ?_
 simp only [lay]
 refine lz (ow_same (.int .u32 (mtu17 m)) (by exact xk Try.func30) (mtu17_any m (by omega) W56) ?_)
 simp only [lay]
 refine lv (.int .u16 m) (by exact xm) ?_
 simp only [lay]
 refine lz (ow_same (.int .u32 (mtu17 m)) (by exact xk Try.func31) (rmtu17_any m (by omega) W56) ?_)
 simp only [lay]
 refine lv (.bool true) (by exact yq (h := rfl)) ?_
 simp only [lay]
 refine lv (.bool true) (by exact xp (b := true)) ?_
 simp only [lay]
 refine lv (.bool true) (by exact xm) ?_
 simp only [lay]
 refine lz (ow_call (fun v w' => v = .bool true ∧ Below W56.heap.size W56 w') (by exact xk Try.func13) ((alive17_any W56).mono fun e w' h => ⟨_, h.1, rfl, h.2⟩) ?_)
 rintro _ W65 ⟨rfl, hb66⟩
 have z67 := hb66.size
 simp only [lay]
 refine lv (.bool true) (by exact xp (b := true)) ?_
 simp only [lay]
 refine lv (.bool true) (by exact xa) ?_
 simp only [lay]
 refine wn ?_
 refine wp_ret ?_
 try simp only [Exit.then]
 have b68 := bt b44 hb47
 have b69 := bt b68 hb54
 have l70 := lq b68 ge52
 have b71 := b69.trans (hb59.mono l70)
 have b72 := bt b71 hb66
 exact bodyPost_ret (res_one Try.results8 rfl) rfl ⟨rfl, b72⟩
end Go.Proofs.Ytijnifbpbgckgaa
