/- The value of an operation that is no input. -/
import Derived.Test.YtlimabbeaimdgaaGreatZ12Evalua
set_option linter.unusedSimpArgs false
set_option linter.unusedVariables false
namespace Go.Proofs.YtlimabbeaimdgaaGreat
open Go.RowKit
set_option maxRecDepth 100000 in
set_option maxHeartbeats 4000000 in
theorem value_4 (a b z : Nat) (oc : List Value) (p : Option Addr) (n cp : Nat) (css : List (List Value)) (vs : List shTensor.T) (ca cb : List Value) (sa sb : Nat × Nat) (va vb : shTensor.T) (w : World) (T : Tens w p n css vs) (han : a < n) (hbn : b < n) (hca : css[a]? = some ca) (hcb : css[b]? = some cb) (hva : TenAt w ca sa va) (hvb : TenAt w cb sb vb) (hsa : SideOk sa) (hsb : SideOk sb) (hs : sb = (1, sa.2)) (ho : Rep w shOp oc (mkOp 4 a b z t0)) :
 Calls Tryz.prog 83 #[ofCs shOp oc, .slice p n cp] w (RetTen w (opV 4 z va vb).1 (opV 4 z va vb).2.1 (opV 4 z va vb).2.2.1) := by
 obtain ⟨zb, ct, rfl, hz, ht⟩ := mkOp_vals ho
 obtain ⟨qt, ct', ut, rfl, hpt, _⟩ := ten_vals ht
 obtain ⟨qa, ka, ua, xs, rfl, rfl, la, h1, h2, h3, h4⟩ := hva
 obtain ⟨qb, kb, ub, ys, rfl, rfl, lb, g1, g2, g3, g4⟩ := hvb
 obtain ⟨ra, cca⟩ := sa
 obtain ⟨rb, ccb⟩ := sb
 obtain ⟨i1, i2, i3, i4⟩ := hsa
 obtain ⟨j1, j2, j3, j4⟩ := hsb
 dsimp only at la lb h3 h4 g3 g4 i1 i2 i3 i4 j1 j2 j3 j4 hca hcb ⊢
 obtain ⟨Na, hNa⟩ : ∃ N, N = ra * cca := ⟨_, rfl⟩
 obtain ⟨Nb, hNb⟩ : ∃ N, N = rb * ccb := ⟨_, rfl⟩
 have hNa2 : Na ≤ 256 := by rw [hNa]; exact Nat.mul_le_mul i2 i4
 have hNb2 : Nb ≤ 256 := by rw [hNb]; exact Nat.mul_le_mul j2 j4
 rw [← hNa] at la h3 hca
 rw [← hNb] at lb g3 hcb
 simp only [ofCs, Sh.agg, if_true, List.cons_append, List.nil_append, t0, List.length_nil]
 obtain ⟨W0, hW0⟩ : ∃ W0, W0 = (w.alloc (.cells #[.int .i64 4, .int .i64 a, .int .i64 b, .float .f32 zb, .int .i64 0, .int .i64 0, .slice qt 0 ct'] 79)).alloc (.cells #[.int .i64 0, .int .i64 0, .slice none 0 0] 37) := ⟨_, rfl⟩
 obtain ⟨E0, s0, b0, b1⟩ := box2 hW0
 have b0 : HB W0 w.heap.size #[.int .i64 4, .int .i64 a, .int .i64 b, .float .f32 zb, .int .i64 0, .int .i64 0, .slice qt 0 ct'] 79 := b0
 have b1 : HB W0 (w.heap.size + 1) #[.int .i64 0, .int .i64 0, .slice none 0 0] 37 := b1
 have hps : p.isSome = true := T.cs.some_of (s := 3) (i := a) T.size (by decide) (by have := T.cnt; omega)
 have hm1 : 1 ≤ Nb := by rw [hNb]; exact Nat.mul_le_mul j1 j3
 have hNc : Nb = cca := by rw [hNb, show rb = 1 from congrArg Prod.fst hs, show ccb = cca from congrArg Prod.snd hs]; omega
 have K := hid (fun W (hW : Ext W0 W) => mulRow_any ra cca qa qb Na Nb ka kb ua ub xs ys W la (by omega) (h1.ext (E0.trans hW)) h2 lb (by omega) hm1 (g1.ext (E0.trans hW)) g2)
 have HX : Hid ((mulRX Na Nb xs ys).length = Na) := ntab_len _ _
 have HV : Hid ((opV 4 z (tn ra cca xs) (tn rb ccb ys)) = ((ra : Int), (cca : Int), mulRX Na Nb xs ys, ())) := hid (by simp only [opV]; simp only [tn, la, hNc, Int.toNat_natCast]; (try rfl))
 rw [HV.out]
 generalize mulRX Na Nb xs ys = res at *
 have KT := hid T
 have HCA := hid hca
 have HCB := hid hcb
 have HZ := hid hz
 have HNa := hid hNa
 have HNb := hid hNb
 clear ho ht hpt T hca hcb hz hNa hNb h1 h2 h3 h4 g1 g2 g3 g4 HV hs hNc
 go_enter Tryz.func83, Tryz.ntmps83
 go_wp2_with fail
 rw [← hW0]
 clear hW0
 have eD := Ext.drew W0
 have TD := KT.out.ext (E0.trans eD)
 have c0 := b0.ext eD
 have hsd := eD.size
 refine wp_region_T (n := 13) (S := fun W => Ext W0.drew W) (by kernel_rfl) rfl ?_
 have hS0 : Ext W0.drew W0.drew := Ext.refl _
 refine hs_take (k := 0) (.slice p n cp) (by kernel_rfl) rfl rfl (fun _ _ _ h => h) hS0 (fun W hW => by go_simp) ?_
 simp only [Act.put, ev_tmp, pu1, pu2, pu3, pu4, pu5]
 refine hs_take (k := 1) (.pointer (some ⟨w.heap.size, 1, none⟩)) (by kernel_rfl) rfl rfl (fun _ _ _ h => h) hS0 (fun W hW => by go_simp) ?_
 simp only [Act.put, ev_tmp, pu1, pu2, pu3, pu4, pu5]
 refine hs_take (k := 2) (.int .i64 (a : Int)) (by kernel_rfl) rfl rfl (fun _ _ _ h => h) hS0 (fun W hW => by have y := (c0.ext hW).cell 1 rfl; go_simp) ?_
 simp only [Act.put, ev_tmp, pu1, pu2, pu3, pu4, pu5]
 refine hs_idx (k := 3) (p := p) (m := n) (c := cp) (kk := .i64) (j := a) (i := (a : Int)) (by kernel_rfl) rfl rfl (fun _ _ _ h => h) hS0 rfl (by simp [Act.eval]) (by simp [Act.eval]) rfl hps han ?_
 simp only [Act.put, ev_tmp, pu1, pu2, pu3, pu4, pu5]
 refine hs_ldE (k := 4) (q := adr p (a * shTensor.sz)) (s := shTensor) (cs := [.int .i64 ra, .int .i64 cca, .slice qa Na ka]) (by kernel_rfl) rfl rfl (fun _ _ _ h => h) hS0 rfl (by simp [Act.eval]) rfl (fun W hW => by have h := (TD.ext hW).cs.elem TD.size (i := a) (by rw [TD.cnt]; exact han); have h' := HCA.out; rw [List.getElem?_eq_getElem (by rw [TD.cnt]; exact han)] at h'; simp only [Option.some.injEq] at h'; rw [h'] at h; exact h) ?_
 simp only [Act.put, ev_tmp, pu1, pu2, pu3, pu4, pu5]
 refine hs_take (k := 5) (.slice p n cp) (by kernel_rfl) rfl rfl (fun _ _ _ h => h) hS0 (fun W hW => by go_simp) ?_
 simp only [Act.put, ev_tmp, pu1, pu2, pu3, pu4, pu5]
 refine hs_take (k := 6) (.pointer (some ⟨w.heap.size, 2, none⟩)) (by kernel_rfl) rfl rfl (fun _ _ _ h => h) hS0 (fun W hW => by go_simp) ?_
 simp only [Act.put, ev_tmp, pu1, pu2, pu3, pu4, pu5]
 refine hs_take (k := 7) (.int .i64 (b : Int)) (by kernel_rfl) rfl rfl (fun _ _ _ h => h) hS0 (fun W hW => by have y := (c0.ext hW).cell 2 rfl; go_simp) ?_
 simp only [Act.put, ev_tmp, pu1, pu2, pu3, pu4, pu5]
 refine hs_idx (k := 8) (p := p) (m := n) (c := cp) (kk := .i64) (j := b) (i := (b : Int)) (by kernel_rfl) rfl rfl (fun _ _ _ h => h) hS0 rfl (by simp [Act.eval]) (by simp [Act.eval]) rfl hps hbn ?_
 simp only [Act.put, ev_tmp, pu1, pu2, pu3, pu4, pu5]
 refine hs_ldE (k := 9) (q := adr p (b * shTensor.sz)) (s := shTensor) (cs := [.int .i64 rb, .int .i64 ccb, .slice qb Nb kb]) (by kernel_rfl) rfl rfl (fun _ _ _ h => h) hS0 rfl (by simp [Act.eval]) rfl (fun W hW => by have h := (TD.ext hW).cs.elem TD.size (i := b) (by rw [TD.cnt]; exact hbn); have h' := HCB.out; rw [List.getElem?_eq_getElem (by rw [TD.cnt]; exact hbn)] at h'; simp only [Option.some.injEq] at h'; rw [h'] at h; exact h) ?_
 simp only [Act.put, ev_tmp, pu1, pu2, pu3, pu4, pu5]
 refine hs_two (k := 10) (l := 11) (dk := 5) (dl := 6) (Zk := #[.int .i64 0, .int .i64 0, .slice none 0 0]) (Zl := #[.int .i64 0, .int .i64 0, .slice none 0 0]) (tk := 37) (tl := 37) (by kernel_rfl) rfl rfl rfl rfl rfl rfl (by decide) (fun W b => by go_simp) (fun W b => by go_simp) (fun W hW => hW) ?_
 intro b5 b6 W1 eW hb5 hb6 hne B5 B6
 simp only [Act.put, ev_tmp, pu1, pu2, pu3, pu4, pu5]
 refine hs_only (k := 12) (by kernel_rfl) ?_
 obtain ⟨W2, hr2, B5', ch5⟩ := run_st3 (y0 := .int .i64 ra) (y1 := .int .i64 cca) (y2 := .slice qa Na ka) B5 rfl rfl rfl
 refine wpOp_skip (w' := W2) rfl rfl (by simp [execOp, Act.eval, ofCs, Sh.agg, hr2]) ?_
 have eW2 : Ext W0.drew W2 := eW.chg ch5 (fun k hk => by have hk : k = b5 := hk; omega)
 have B6' := B6.chg ch5 (fun h => hne h.symm)
 refine ⟨eW2, ?_⟩
 simp only [Act.put, ev_tmp, pu1, pu2, pu3, pu4, pu5]
 refine hs_last (k := 13) (by kernel_rfl) rfl ?_
 obtain ⟨W3, hr3, B6'', ch6⟩ := run_st3 (y0 := .int .i64 rb) (y1 := .int .i64 ccb) (y2 := .slice qb Nb kb) B6' rfl rfl rfl
 refine wl_skip rfl (w' := W3) (by simp [execOp, Act.eval, ofCs, Sh.agg, hr3]) ?_
 have eW3 : Ext W0 W3 := eD.trans (eW2.chg ch6 (fun k hk => by have hk : k = b6 := hk; omega))
 have B5'' := B5'.chg ch6 (fun h => hne h)
 have d0 := b0.ext eW3
 have d1 := b1.ext eW3
 clear ch5 ch6 hr2 hr3 B5 B5' B6 B6' eW eW2 TD c0 hS0
 have t1 := d0.cell 0 rfl; have t2 := d0.cell 3 rfl
 have f0 := B5''.cell 0 rfl; have f1 := B5''.cell 1 rfl; have f2 := B5''.cell 2 rfl
 have k0 := B6''.cell 0 rfl; have k1 := B6''.cell 1 rfl; have k2 := B6''.cell 2 rfl
 have C5 := hid B5''; have C6 := hid B6''
 clear B5'' B6''
 have hb5n : b5 ≠ w.heap.size + 1 := by omega
 go_wp2_with fail
 refine (K.out W3 eW3).mono ?_
 rintro e w1 ⟨q', k, ws, rfl, own, hf3, e1⟩
 rw [HX.out] at own ⊢
 have d1' := d1.ext e1
 have n0 := d1'.cell 0 rfl; have n1 := d1'.cell 1 rfl; have n2 := d1'.cell 2 rfl
 have m0 := d1'.froz 0; have m1 := d1'.froz 1; have m2 := d1'.froz 2
 have eT := E0.trans (eW3.trans e1)
 have hsT := eT.size
 have hlt := d1.lt
 clear t1 t2 f0 f1 f2 k0 k1 k2
 go_wp2
 refine bodyPost_ret (v := .agg #[.int .i64 ra, .int .i64 cca, .slice q' Na k]) (by simp [results, Tryz.results83, go_sem, n0, n1, n2, m0, m1, m2]) rfl ?_
 exact RetTen.of (HX.out) (own_base (own_chgB (S := fun k => k = w.heap.size + 1) own (by (repeat (first | with_reducible exact Chg.refl _ _ | (with_reducible exact Chg.of_ext (by with_reducible assumption)) | with_reducible assumption | ((with_reducible refine Chg.setCell ?_ ?_ _); rotate_left; focus (first | (simp; done) | (simp; omega))) | (with_reducible refine Chg.alloc ?_ _) | (with_reducible refine Chg.drew ?_) | (with_reducible refine Chg.trans ?_ (Chg.of_ext (by with_reducible assumption)))))) (fun k hk => by omega)) (by have := eW3.size; omega)) hf3 rfl (Ext.chg (S := fun k => k = w.heap.size + 1) eT (by (repeat (first | with_reducible exact Chg.refl _ _ | (with_reducible exact Chg.of_ext (by with_reducible assumption)) | with_reducible assumption | ((with_reducible refine Chg.setCell ?_ ?_ _); rotate_left; focus (first | (simp; done) | (simp; omega))) | (with_reducible refine Chg.alloc ?_ _) | (with_reducible refine Chg.drew ?_) | (with_reducible refine Chg.trans ?_ (Chg.of_ext (by with_reducible assumption)))))) (fun k hk => by omega))
set_option maxRecDepth 100000 in
set_option maxHeartbeats 4000000 in
theorem value_5 (a b z : Nat) (oc : List Value) (p : Option Addr) (n cp : Nat) (css : List (List Value)) (vs : List shTensor.T) (ca cb : List Value) (sa sb : Nat × Nat) (va vb : shTensor.T) (w : World) (T : Tens w p n css vs) (han : a < n) (hbn : b < n) (hca : css[a]? = some ca) (hcb : css[b]? = some cb) (hva : TenAt w ca sa va) (hvb : TenAt w cb sb vb) (hsa : SideOk sa) (hsb : SideOk sb)  (ho : Rep w shOp oc (mkOp 5 a b z t0)) :
 Calls Tryz.prog 83 #[ofCs shOp oc, .slice p n cp] w (RetTen w (opV 5 z va vb).1 (opV 5 z va vb).2.1 (opV 5 z va vb).2.2.1) := by
 obtain ⟨zb, ct, rfl, hz, ht⟩ := mkOp_vals ho
 obtain ⟨qt, ct', ut, rfl, hpt, _⟩ := ten_vals ht
 obtain ⟨qa, ka, ua, xs, rfl, rfl, la, h1, h2, h3, h4⟩ := hva
 obtain ⟨qb, kb, ub, ys, rfl, rfl, lb, g1, g2, g3, g4⟩ := hvb
 obtain ⟨ra, cca⟩ := sa
 obtain ⟨rb, ccb⟩ := sb
 obtain ⟨i1, i2, i3, i4⟩ := hsa
 obtain ⟨j1, j2, j3, j4⟩ := hsb
 dsimp only at la lb h3 h4 g3 g4 i1 i2 i3 i4 j1 j2 j3 j4 hca hcb ⊢
 obtain ⟨Na, hNa⟩ : ∃ N, N = ra * cca := ⟨_, rfl⟩
 obtain ⟨Nb, hNb⟩ : ∃ N, N = rb * ccb := ⟨_, rfl⟩
 have hNa2 : Na ≤ 256 := by rw [hNa]; exact Nat.mul_le_mul i2 i4
 have hNb2 : Nb ≤ 256 := by rw [hNb]; exact Nat.mul_le_mul j2 j4
 rw [← hNa] at la h3 hca
 rw [← hNb] at lb g3 hcb
 simp only [ofCs, Sh.agg, if_true, List.cons_append, List.nil_append, t0, List.length_nil]
 obtain ⟨W0, hW0⟩ : ∃ W0, W0 = (w.alloc (.cells #[.int .i64 5, .int .i64 a, .int .i64 b, .float .f32 zb, .int .i64 0, .int .i64 0, .slice qt 0 ct'] 79)).alloc (.cells #[.int .i64 0, .int .i64 0, .slice none 0 0] 37) := ⟨_, rfl⟩
 obtain ⟨E0, s0, b0, b1⟩ := box2 hW0
 have b0 : HB W0 w.heap.size #[.int .i64 5, .int .i64 a, .int .i64 b, .float .f32 zb, .int .i64 0, .int .i64 0, .slice qt 0 ct'] 79 := b0
 have b1 : HB W0 (w.heap.size + 1) #[.int .i64 0, .int .i64 0, .slice none 0 0] 37 := b1
 have hps : p.isSome = true := T.cs.some_of (s := 3) (i := a) T.size (by decide) (by have := T.cnt; omega)
 have K := hid (fun W (hW : Ext W0 W) => scaleTensor_any ra cca qa Na ka zb ua xs W la (by omega) (h1.ext (E0.trans hW)) h2)
 have HX : Hid ((sclX Na xs (cn .f32 zb)).length = Na) := ntab_len _ _
 have HV : Hid ((opV 5 z (tn ra cca xs) (tn rb ccb ys)) = ((ra : Int), (cca : Int), sclX Na xs (cn .f32 zb), ())) := hid (by simp only [opV]; simp only [tn, la, hz]; (try rfl))
 rw [HV.out]
 generalize sclX Na xs (cn .f32 zb) = res at *
 have KT := hid T
 have HCA := hid hca
 have HCB := hid hcb
 have HZ := hid hz
 have HNa := hid hNa
 have HNb := hid hNb
 clear ho ht hpt T hca hcb hz hNa hNb h1 h2 h3 h4 g1 g2 g3 g4 HV
 go_enter Tryz.func83, Tryz.ntmps83
 go_wp2_with fail
 rw [← hW0]
 clear hW0
 have eD := Ext.drew W0
 have TD := KT.out.ext (E0.trans eD)
 have c0 := b0.ext eD
 have hsd := eD.size
 refine wp_region_T (n := 13) (S := fun W => Ext W0.drew W) (by kernel_rfl) rfl ?_
 have hS0 : Ext W0.drew W0.drew := Ext.refl _
 refine hs_take (k := 0) (.slice p n cp) (by kernel_rfl) rfl rfl (fun _ _ _ h => h) hS0 (fun W hW => by go_simp) ?_
 simp only [Act.put, ev_tmp, pu1, pu2, pu3, pu4, pu5]
 refine hs_take (k := 1) (.pointer (some ⟨w.heap.size, 1, none⟩)) (by kernel_rfl) rfl rfl (fun _ _ _ h => h) hS0 (fun W hW => by go_simp) ?_
 simp only [Act.put, ev_tmp, pu1, pu2, pu3, pu4, pu5]
 refine hs_take (k := 2) (.int .i64 (a : Int)) (by kernel_rfl) rfl rfl (fun _ _ _ h => h) hS0 (fun W hW => by have y := (c0.ext hW).cell 1 rfl; go_simp) ?_
 simp only [Act.put, ev_tmp, pu1, pu2, pu3, pu4, pu5]
 refine hs_idx (k := 3) (p := p) (m := n) (c := cp) (kk := .i64) (j := a) (i := (a : Int)) (by kernel_rfl) rfl rfl (fun _ _ _ h => h) hS0 rfl (by simp [Act.eval]) (by simp [Act.eval]) rfl hps han ?_
 simp only [Act.put, ev_tmp, pu1, pu2, pu3, pu4, pu5]
 refine hs_ldE (k := 4) (q := adr p (a * shTensor.sz)) (s := shTensor) (cs := [.int .i64 ra, .int .i64 cca, .slice qa Na ka]) (by kernel_rfl) rfl rfl (fun _ _ _ h => h) hS0 rfl (by simp [Act.eval]) rfl (fun W hW => by have h := (TD.ext hW).cs.elem TD.size (i := a) (by rw [TD.cnt]; exact han); have h' := HCA.out; rw [List.getElem?_eq_getElem (by rw [TD.cnt]; exact han)] at h'; simp only [Option.some.injEq] at h'; rw [h'] at h; exact h) ?_
 simp only [Act.put, ev_tmp, pu1, pu2, pu3, pu4, pu5]
 refine hs_take (k := 5) (.slice p n cp) (by kernel_rfl) rfl rfl (fun _ _ _ h => h) hS0 (fun W hW => by go_simp) ?_
 simp only [Act.put, ev_tmp, pu1, pu2, pu3, pu4, pu5]
 refine hs_take (k := 6) (.pointer (some ⟨w.heap.size, 2, none⟩)) (by kernel_rfl) rfl rfl (fun _ _ _ h => h) hS0 (fun W hW => by go_simp) ?_
 simp only [Act.put, ev_tmp, pu1, pu2, pu3, pu4, pu5]
 refine hs_take (k := 7) (.int .i64 (b : Int)) (by kernel_rfl) rfl rfl (fun _ _ _ h => h) hS0 (fun W hW => by have y := (c0.ext hW).cell 2 rfl; go_simp) ?_
 simp only [Act.put, ev_tmp, pu1, pu2, pu3, pu4, pu5]
 refine hs_idx (k := 8) (p := p) (m := n) (c := cp) (kk := .i64) (j := b) (i := (b : Int)) (by kernel_rfl) rfl rfl (fun _ _ _ h => h) hS0 rfl (by simp [Act.eval]) (by simp [Act.eval]) rfl hps hbn ?_
 simp only [Act.put, ev_tmp, pu1, pu2, pu3, pu4, pu5]
 refine hs_ldE (k := 9) (q := adr p (b * shTensor.sz)) (s := shTensor) (cs := [.int .i64 rb, .int .i64 ccb, .slice qb Nb kb]) (by kernel_rfl) rfl rfl (fun _ _ _ h => h) hS0 rfl (by simp [Act.eval]) rfl (fun W hW => by have h := (TD.ext hW).cs.elem TD.size (i := b) (by rw [TD.cnt]; exact hbn); have h' := HCB.out; rw [List.getElem?_eq_getElem (by rw [TD.cnt]; exact hbn)] at h'; simp only [Option.some.injEq] at h'; rw [h'] at h; exact h) ?_
 simp only [Act.put, ev_tmp, pu1, pu2, pu3, pu4, pu5]
 refine hs_two (k := 10) (l := 11) (dk := 5) (dl := 6) (Zk := #[.int .i64 0, .int .i64 0, .slice none 0 0]) (Zl := #[.int .i64 0, .int .i64 0, .slice none 0 0]) (tk := 37) (tl := 37) (by kernel_rfl) rfl rfl rfl rfl rfl rfl (by decide) (fun W b => by go_simp) (fun W b => by go_simp) (fun W hW => hW) ?_
 intro b5 b6 W1 eW hb5 hb6 hne B5 B6
 simp only [Act.put, ev_tmp, pu1, pu2, pu3, pu4, pu5]
 refine hs_only (k := 12) (by kernel_rfl) ?_
 obtain ⟨W2, hr2, B5', ch5⟩ := run_st3 (y0 := .int .i64 ra) (y1 := .int .i64 cca) (y2 := .slice qa Na ka) B5 rfl rfl rfl
 refine wpOp_skip (w' := W2) rfl rfl (by simp [execOp, Act.eval, ofCs, Sh.agg, hr2]) ?_
 have eW2 : Ext W0.drew W2 := eW.chg ch5 (fun k hk => by have hk : k = b5 := hk; omega)
 have B6' := B6.chg ch5 (fun h => hne h.symm)
 refine ⟨eW2, ?_⟩
 simp only [Act.put, ev_tmp, pu1, pu2, pu3, pu4, pu5]
 refine hs_last (k := 13) (by kernel_rfl) rfl ?_
 obtain ⟨W3, hr3, B6'', ch6⟩ := run_st3 (y0 := .int .i64 rb) (y1 := .int .i64 ccb) (y2 := .slice qb Nb kb) B6' rfl rfl rfl
 refine wl_skip rfl (w' := W3) (by simp [execOp, Act.eval, ofCs, Sh.agg, hr3]) ?_
 have eW3 : Ext W0 W3 := eD.trans (eW2.chg ch6 (fun k hk => by have hk : k = b6 := hk; omega))
 have B5'' := B5'.chg ch6 (fun h => hne h)
 have d0 := b0.ext eW3
 have d1 := b1.ext eW3
 clear ch5 ch6 hr2 hr3 B5 B5' B6 B6' eW eW2 TD c0 hS0
 have t1 := d0.cell 0 rfl; have t2 := d0.cell 3 rfl
 have f0 := B5''.cell 0 rfl; have f1 := B5''.cell 1 rfl; have f2 := B5''.cell 2 rfl
 have k0 := B6''.cell 0 rfl; have k1 := B6''.cell 1 rfl; have k2 := B6''.cell 2 rfl
 have C5 := hid B5''; have C6 := hid B6''
 clear B5'' B6''
 have hb5n : b5 ≠ w.heap.size + 1 := by omega
 go_wp2_with fail
 refine (K.out W3 eW3).mono ?_
 rintro e w1 ⟨q', k, ws, rfl, own, hf3, e1⟩
 rw [HX.out] at own ⊢
 have d1' := d1.ext e1
 have n0 := d1'.cell 0 rfl; have n1 := d1'.cell 1 rfl; have n2 := d1'.cell 2 rfl
 have m0 := d1'.froz 0; have m1 := d1'.froz 1; have m2 := d1'.froz 2
 have eT := E0.trans (eW3.trans e1)
 have hsT := eT.size
 have hlt := d1.lt
 clear t1 t2 f0 f1 f2 k0 k1 k2
 go_wp2
 refine bodyPost_ret (v := .agg #[.int .i64 ra, .int .i64 cca, .slice q' Na k]) (by simp [results, Tryz.results83, go_sem, n0, n1, n2, m0, m1, m2]) rfl ?_
 exact RetTen.of (HX.out) (own_base (own_chgB (S := fun k => k = w.heap.size + 1) own (by (repeat (first | with_reducible exact Chg.refl _ _ | (with_reducible exact Chg.of_ext (by with_reducible assumption)) | with_reducible assumption | ((with_reducible refine Chg.setCell ?_ ?_ _); rotate_left; focus (first | (simp; done) | (simp; omega))) | (with_reducible refine Chg.alloc ?_ _) | (with_reducible refine Chg.drew ?_) | (with_reducible refine Chg.trans ?_ (Chg.of_ext (by with_reducible assumption)))))) (fun k hk => by omega)) (by have := eW3.size; omega)) hf3 rfl (Ext.chg (S := fun k => k = w.heap.size + 1) eT (by (repeat (first | with_reducible exact Chg.refl _ _ | (with_reducible exact Chg.of_ext (by with_reducible assumption)) | with_reducible assumption | ((with_reducible refine Chg.setCell ?_ ?_ _); rotate_left; focus (first | (simp; done) | (simp; omega))) | (with_reducible refine Chg.alloc ?_ _) | (with_reducible refine Chg.drew ?_) | (with_reducible refine Chg.trans ?_ (Chg.of_ext (by with_reducible assumption)))))) (fun k hk => by omega))
set_option maxRecDepth 100000 in
set_option maxHeartbeats 4000000 in
theorem value_6 (a b z : Nat) (oc : List Value) (p : Option Addr) (n cp : Nat) (css : List (List Value)) (vs : List shTensor.T) (ca cb : List Value) (sa sb : Nat × Nat) (va vb : shTensor.T) (w : World) (T : Tens w p n css vs) (han : a < n) (hbn : b < n) (hca : css[a]? = some ca) (hcb : css[b]? = some cb) (hva : TenAt w ca sa va) (hvb : TenAt w cb sb vb) (hsa : SideOk sa) (hsb : SideOk sb) (hs : sb.1 = sa.2) (ho : Rep w shOp oc (mkOp 6 a b z t0)) :
 Calls Tryz.prog 83 #[ofCs shOp oc, .slice p n cp] w (RetTen w (opV 6 z va vb).1 (opV 6 z va vb).2.1 (opV 6 z va vb).2.2.1) := by
 obtain ⟨zb, ct, rfl, hz, ht⟩ := mkOp_vals ho
 obtain ⟨qt, ct', ut, rfl, hpt, _⟩ := ten_vals ht
 obtain ⟨qa, ka, ua, xs, rfl, rfl, la, h1, h2, h3, h4⟩ := hva
 obtain ⟨qb, kb, ub, ys, rfl, rfl, lb, g1, g2, g3, g4⟩ := hvb
 obtain ⟨ra, cca⟩ := sa
 obtain ⟨rb, ccb⟩ := sb
 obtain ⟨i1, i2, i3, i4⟩ := hsa
 obtain ⟨j1, j2, j3, j4⟩ := hsb
 dsimp only at la lb h3 h4 g3 g4 i1 i2 i3 i4 j1 j2 j3 j4 hca hcb ⊢
 obtain ⟨Na, hNa⟩ : ∃ N, N = ra * cca := ⟨_, rfl⟩
 obtain ⟨Nb, hNb⟩ : ∃ N, N = rb * ccb := ⟨_, rfl⟩
 have hNa2 : Na ≤ 256 := by rw [hNa]; exact Nat.mul_le_mul i2 i4
 have hNb2 : Nb ≤ 256 := by rw [hNb]; exact Nat.mul_le_mul j2 j4
 rw [← hNa] at la h3 hca
 rw [← hNb] at lb g3 hcb
 simp only [ofCs, Sh.agg, if_true, List.cons_append, List.nil_append, t0, List.length_nil]
 obtain ⟨W0, hW0⟩ : ∃ W0, W0 = (w.alloc (.cells #[.int .i64 6, .int .i64 a, .int .i64 b, .float .f32 zb, .int .i64 0, .int .i64 0, .slice qt 0 ct'] 79)).alloc (.cells #[.int .i64 0, .int .i64 0, .slice none 0 0] 37) := ⟨_, rfl⟩
 obtain ⟨E0, s0, b0, b1⟩ := box2 hW0
 have b0 : HB W0 w.heap.size #[.int .i64 6, .int .i64 a, .int .i64 b, .float .f32 zb, .int .i64 0, .int .i64 0, .slice qt 0 ct'] 79 := b0
 have b1 : HB W0 (w.heap.size + 1) #[.int .i64 0, .int .i64 0, .slice none 0 0] 37 := b1
 have hps : p.isSome = true := T.cs.some_of (s := 3) (i := a) T.size (by decide) (by have := T.cnt; omega)
 have hrc : rb = cca := hs
 have K : Hid (∀ W, Ext W0 W → Calls Tryz.prog 108 #[.agg #[.int .i64 ra, .int .i64 cca, .slice qa Na ka], .agg #[.int .i64 rb, .int .i64 ccb, .slice qb Nb kb]] W (RetTen W ra ccb (mmX ra cca ccb xs ys))) := hid (fun W hW => by
  have h := matMul_any ra cca ccb qa qb Na ka Nb kb ua ub xs ys W la hNa lb (by rw [hNb, hrc]) (by omega) (by omega) (by omega) h3 g3 (h1.ext (E0.trans hW)) h2 (g1.ext (E0.trans hW)) g2
  rw [hrc]; exact h)
 have HX : Hid ((mmX ra cca ccb xs ys).length = ra * ccb) := ntab_len _ _
 have HV : Hid ((opV 6 z (tn ra cca xs) (tn rb ccb ys)) = ((ra : Int), (ccb : Int), mmX ra cca ccb xs ys, ())) := hid (by simp only [opV]; simp only [tn, Int.toNat_natCast]; (try rfl))
 rw [HV.out]
 generalize mmX ra cca ccb xs ys = res at *
 obtain ⟨M, hM⟩ : ∃ M, M = ra * ccb := ⟨_, rfl⟩
 rw [← hM] at HX
 have KT := hid T
 have HCA := hid hca
 have HCB := hid hcb
 have HZ := hid hz
 have HNa := hid hNa
 have HNb := hid hNb
 clear ho ht hpt T hca hcb hz hNa hNb h1 h2 h3 h4 g1 g2 g3 g4 HV hM hs hrc
 go_enter Tryz.func83, Tryz.ntmps83
 go_wp2_with fail
 rw [← hW0]
 clear hW0
 have eD := Ext.drew W0
 have TD := KT.out.ext (E0.trans eD)
 have c0 := b0.ext eD
 have hsd := eD.size
 refine wp_region_T (n := 13) (S := fun W => Ext W0.drew W) (by kernel_rfl) rfl ?_
 have hS0 : Ext W0.drew W0.drew := Ext.refl _
 refine hs_take (k := 0) (.slice p n cp) (by kernel_rfl) rfl rfl (fun _ _ _ h => h) hS0 (fun W hW => by go_simp) ?_
 simp only [Act.put, ev_tmp, pu1, pu2, pu3, pu4, pu5]
 refine hs_take (k := 1) (.pointer (some ⟨w.heap.size, 1, none⟩)) (by kernel_rfl) rfl rfl (fun _ _ _ h => h) hS0 (fun W hW => by go_simp) ?_
 simp only [Act.put, ev_tmp, pu1, pu2, pu3, pu4, pu5]
 refine hs_take (k := 2) (.int .i64 (a : Int)) (by kernel_rfl) rfl rfl (fun _ _ _ h => h) hS0 (fun W hW => by have y := (c0.ext hW).cell 1 rfl; go_simp) ?_
 simp only [Act.put, ev_tmp, pu1, pu2, pu3, pu4, pu5]
 refine hs_idx (k := 3) (p := p) (m := n) (c := cp) (kk := .i64) (j := a) (i := (a : Int)) (by kernel_rfl) rfl rfl (fun _ _ _ h => h) hS0 rfl (by simp [Act.eval]) (by simp [Act.eval]) rfl hps han ?_
 simp only [Act.put, ev_tmp, pu1, pu2, pu3, pu4, pu5]
 refine hs_ldE (k := 4) (q := adr p (a * shTensor.sz)) (s := shTensor) (cs := [.int .i64 ra, .int .i64 cca, .slice qa Na ka]) (by kernel_rfl) rfl rfl (fun _ _ _ h => h) hS0 rfl (by simp [Act.eval]) rfl (fun W hW => by have h := (TD.ext hW).cs.elem TD.size (i := a) (by rw [TD.cnt]; exact han); have h' := HCA.out; rw [List.getElem?_eq_getElem (by rw [TD.cnt]; exact han)] at h'; simp only [Option.some.injEq] at h'; rw [h'] at h; exact h) ?_
 simp only [Act.put, ev_tmp, pu1, pu2, pu3, pu4, pu5]
 refine hs_take (k := 5) (.slice p n cp) (by kernel_rfl) rfl rfl (fun _ _ _ h => h) hS0 (fun W hW => by go_simp) ?_
 simp only [Act.put, ev_tmp, pu1, pu2, pu3, pu4, pu5]
 refine hs_take (k := 6) (.pointer (some ⟨w.heap.size, 2, none⟩)) (by kernel_rfl) rfl rfl (fun _ _ _ h => h) hS0 (fun W hW => by go_simp) ?_
 simp only [Act.put, ev_tmp, pu1, pu2, pu3, pu4, pu5]
 refine hs_take (k := 7) (.int .i64 (b : Int)) (by kernel_rfl) rfl rfl (fun _ _ _ h => h) hS0 (fun W hW => by have y := (c0.ext hW).cell 2 rfl; go_simp) ?_
 simp only [Act.put, ev_tmp, pu1, pu2, pu3, pu4, pu5]
 refine hs_idx (k := 8) (p := p) (m := n) (c := cp) (kk := .i64) (j := b) (i := (b : Int)) (by kernel_rfl) rfl rfl (fun _ _ _ h => h) hS0 rfl (by simp [Act.eval]) (by simp [Act.eval]) rfl hps hbn ?_
 simp only [Act.put, ev_tmp, pu1, pu2, pu3, pu4, pu5]
 refine hs_ldE (k := 9) (q := adr p (b * shTensor.sz)) (s := shTensor) (cs := [.int .i64 rb, .int .i64 ccb, .slice qb Nb kb]) (by kernel_rfl) rfl rfl (fun _ _ _ h => h) hS0 rfl (by simp [Act.eval]) rfl (fun W hW => by have h := (TD.ext hW).cs.elem TD.size (i := b) (by rw [TD.cnt]; exact hbn); have h' := HCB.out; rw [List.getElem?_eq_getElem (by rw [TD.cnt]; exact hbn)] at h'; simp only [Option.some.injEq] at h'; rw [h'] at h; exact h) ?_
 simp only [Act.put, ev_tmp, pu1, pu2, pu3, pu4, pu5]
 refine hs_two (k := 10) (l := 11) (dk := 5) (dl := 6) (Zk := #[.int .i64 0, .int .i64 0, .slice none 0 0]) (Zl := #[.int .i64 0, .int .i64 0, .slice none 0 0]) (tk := 37) (tl := 37) (by kernel_rfl) rfl rfl rfl rfl rfl rfl (by decide) (fun W b => by go_simp) (fun W b => by go_simp) (fun W hW => hW) ?_
 intro b5 b6 W1 eW hb5 hb6 hne B5 B6
 simp only [Act.put, ev_tmp, pu1, pu2, pu3, pu4, pu5]
 refine hs_only (k := 12) (by kernel_rfl) ?_
 obtain ⟨W2, hr2, B5', ch5⟩ := run_st3 (y0 := .int .i64 ra) (y1 := .int .i64 cca) (y2 := .slice qa Na ka) B5 rfl rfl rfl
 refine wpOp_skip (w' := W2) rfl rfl (by simp [execOp, Act.eval, ofCs, Sh.agg, hr2]) ?_
 have eW2 : Ext W0.drew W2 := eW.chg ch5 (fun k hk => by have hk : k = b5 := hk; omega)
 have B6' := B6.chg ch5 (fun h => hne h.symm)
 refine ⟨eW2, ?_⟩
 simp only [Act.put, ev_tmp, pu1, pu2, pu3, pu4, pu5]
 refine hs_last (k := 13) (by kernel_rfl) rfl ?_
 obtain ⟨W3, hr3, B6'', ch6⟩ := run_st3 (y0 := .int .i64 rb) (y1 := .int .i64 ccb) (y2 := .slice qb Nb kb) B6' rfl rfl rfl
 refine wl_skip rfl (w' := W3) (by simp [execOp, Act.eval, ofCs, Sh.agg, hr3]) ?_
 have eW3 : Ext W0 W3 := eD.trans (eW2.chg ch6 (fun k hk => by have hk : k = b6 := hk; omega))
 have B5'' := B5'.chg ch6 (fun h => hne h)
 have d0 := b0.ext eW3
 have d1 := b1.ext eW3
 clear ch5 ch6 hr2 hr3 B5 B5' B6 B6' eW eW2 TD c0 hS0
 have t1 := d0.cell 0 rfl; have t2 := d0.cell 3 rfl
 have f0 := B5''.cell 0 rfl; have f1 := B5''.cell 1 rfl; have f2 := B5''.cell 2 rfl
 have k0 := B6''.cell 0 rfl; have k1 := B6''.cell 1 rfl; have k2 := B6''.cell 2 rfl
 have C5 := hid B5''; have C6 := hid B6''
 clear B5'' B6''
 have hb5n : b5 ≠ w.heap.size + 1 := by omega
 go_wp2_with fail
 refine (K.out W3 eW3).mono ?_
 rintro e w1 ⟨q', k, ws, rfl, own, hf3, e1⟩
 rw [HX.out] at own ⊢
 have d1' := d1.ext e1
 have n0 := d1'.cell 0 rfl; have n1 := d1'.cell 1 rfl; have n2 := d1'.cell 2 rfl
 have m0 := d1'.froz 0; have m1 := d1'.froz 1; have m2 := d1'.froz 2
 have eT := E0.trans (eW3.trans e1)
 have hsT := eT.size
 have hlt := d1.lt
 clear t1 t2 f0 f1 f2 k0 k1 k2
 go_wp2
 refine bodyPost_ret (v := .agg #[.int .i64 ra, .int .i64 ccb, .slice q' M k]) (by simp [results, Tryz.results83, go_sem, n0, n1, n2, m0, m1, m2]) rfl ?_
 exact RetTen.of (HX.out) (own_base (own_chgB (S := fun k => k = w.heap.size + 1) own (by (repeat (first | with_reducible exact Chg.refl _ _ | (with_reducible exact Chg.of_ext (by with_reducible assumption)) | with_reducible assumption | ((with_reducible refine Chg.setCell ?_ ?_ _); rotate_left; focus (first | (simp; done) | (simp; omega))) | (with_reducible refine Chg.alloc ?_ _) | (with_reducible refine Chg.drew ?_) | (with_reducible refine Chg.trans ?_ (Chg.of_ext (by with_reducible assumption)))))) (fun k hk => by omega)) (by have := eW3.size; omega)) hf3 rfl (Ext.chg (S := fun k => k = w.heap.size + 1) eT (by (repeat (first | with_reducible exact Chg.refl _ _ | (with_reducible exact Chg.of_ext (by with_reducible assumption)) | with_reducible assumption | ((with_reducible refine Chg.setCell ?_ ?_ _); rotate_left; focus (first | (simp; done) | (simp; omega))) | (with_reducible refine Chg.alloc ?_ _) | (with_reducible refine Chg.drew ?_) | (with_reducible refine Chg.trans ?_ (Chg.of_ext (by with_reducible assumption)))))) (fun k hk => by omega))
end Go.Proofs.YtlimabbeaimdgaaGreat
