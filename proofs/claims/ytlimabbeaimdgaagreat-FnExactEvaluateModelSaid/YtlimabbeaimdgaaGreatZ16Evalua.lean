/- A part of the proofs: TnL3, TnL4, TnL5. -/
import Derived.Test.YtlimabbeaimdgaaGreatZ15Evalua
set_option linter.unusedSimpArgs false
set_option linter.unusedVariables false
namespace Go.Proofs.YtlimabbeaimdgaaGreat
open Go.RowKit
set_option maxRecDepth 100000 in
set_option maxHeartbeats 4000000 in
theorem parts_3 (fg : List Nat) (a b z : Nat) (oc : List Value) (cg' cv' cw' : List Value) (sg sv sw : Nat × Nat) (g v u : shTensor.T) (w : World) (hg : TenAtB fg w cg' sg g) (hv : TenAt w cv' sv v) (hw : TenAt w cw' sw u) (hsg : SideOk sg) (hsv : SideOk sv) (hsw : SideOk sw) (hs : sg = sv) (hs2 : sg = sw) (ho : Rep w shOp oc (mkOp 3 a b z t0)) :
 Calls Tryz.prog 87 #[ofCs shOp oc, ofCs shTensor cg', ofCs shTensor cv', ofCs shTensor cw'] w (PartsOut fg w (partA 3 z g v u) (partB 3 g v u)) := by
 obtain ⟨zb, ct, rfl, hz, ht⟩ := mkOp_vals ho
 obtain ⟨qt, ct', ut, rfl, hpt, _⟩ := ten_vals ht
 obtain ⟨qg, kg, ug, gs, rfl, rfl, lg, h1B, h2, h3, h4⟩ := hg
 have h1 : Cs w qg ug := h1B w (fun _ => False) (fun _ _ h => h.elim) (Chg.refl _ _)
 obtain ⟨qv, kv, uv, xs, rfl, rfl, lv, g1, g2, g3, g4⟩ := hv
 obtain ⟨qw, kw, uw, ys, rfl, rfl, lw, f1, f2, f3, f4⟩ := hw
 obtain ⟨rg, cg⟩ := sg
 obtain ⟨rv, cv⟩ := sv
 obtain ⟨rw, cw⟩ := sw
 obtain ⟨i1, i2, i3, i4⟩ := hsg
 obtain ⟨j1, j2, j3, j4⟩ := hsv
 obtain ⟨l1, l2, l3, l4⟩ := hsw
 dsimp only at lg lv lw h3 g3 f3 i1 i2 i3 i4 j1 j2 j3 j4 l1 l2 l3 l4 ⊢
 obtain ⟨Ng, hNg⟩ : ∃ N, N = rg * cg := ⟨_, rfl⟩
 obtain ⟨Nv, hNv⟩ : ∃ N, N = rv * cv := ⟨_, rfl⟩
 obtain ⟨Nw, hNw⟩ : ∃ N, N = rw * cw := ⟨_, rfl⟩
 have hNg2 : Ng ≤ 256 := by rw [hNg]; exact Nat.mul_le_mul i2 i4
 have hNv2 : Nv ≤ 256 := by rw [hNv]; exact Nat.mul_le_mul j2 j4
 have hNw2 : Nw ≤ 256 := by rw [hNw]; exact Nat.mul_le_mul l2 l4
 have hNg1 : 1 ≤ Ng := by rw [hNg]; exact Nat.mul_le_mul i1 i3
 have hNw1 : 1 ≤ Nw := by rw [hNw]; exact Nat.mul_le_mul l1 l3
 rw [← hNg] at lg h3
 rw [← hNv] at lv g3
 rw [← hNw] at lw f3
 simp only [ofCs, Sh.agg, if_true, List.cons_append, List.nil_append, t0, List.length_nil, ← hNg, ← hNv, ← hNw]
 have hgv : Ng ≤ Nv := by rw [hNg, hNv, show rg = rv from congrArg Prod.fst hs, show cg = cv from congrArg Prod.snd hs]; exact Nat.le_refl _
 have hgw : Ng ≤ Nw := by rw [hNg, hNw, show rg = rw from congrArg Prod.fst hs2, show cg = cw from congrArg Prod.snd hs2]; exact Nat.le_refl _
 obtain ⟨pa, hpa⟩ : ∃ l, l = mulX Ng gs ys := ⟨_, rfl⟩
 have HLpa : Hid (pa.length = Ng) := hid (by rw [hpa]; exact ntab_len _ _)
 have HEpa := hid hpa
 obtain ⟨pb, hpb⟩ : ∃ l, l = mulX Ng gs xs := ⟨_, rfl⟩
 have HLpb : Hid (pb.length = Ng) := hid (by rw [hpb]; exact ntab_len _ _)
 have HEpb := hid hpb
 have K1 : Hid (∀ W, Ext w W → Calls Tryz.prog 105 #[.agg #[.int .i64 rg, .int .i64 cg, .slice qg Ng kg], .agg #[.int .i64 rw, .int .i64 cw, .slice qw Nw kw]] W (RetTen W rg cg pa)) := hid (fun W hW => by rw [hpa]; exact mulTensors_any rg cg rw cw qg qw Ng Nw kg kw ug uw gs ys W lg (by omega) (h1.ext hW) h2 lw (by omega) (f1.ext hW) f2 hgw)
 have K2 : Hid (∀ W, Ext w W → Calls Tryz.prog 105 #[.agg #[.int .i64 rg, .int .i64 cg, .slice qg Ng kg], .agg #[.int .i64 rv, .int .i64 cv, .slice qv Nv kv]] W (RetTen W rg cg pb)) := hid (fun W hW => by rw [hpb]; exact mulTensors_any rg cg rv cv qg qv Ng Nv kg kv ug uv gs xs W lg (by omega) (h1.ext hW) h2 lv (by omega) (g1.ext hW) g2 hgv)
 obtain ⟨W0, hW0⟩ : ∃ W0, W0 = (((((w.alloc (.cells #[.int .i64 3, .int .i64 a, .int .i64 b, .float .f32 zb, .int .i64 0, .int .i64 0, .slice qt 0 ct'] 79)).alloc (.cells #[.int .i64 rg, .int .i64 cg, .slice qg Ng kg] 37)).alloc (.cells #[.int .i64 rv, .int .i64 cv, .slice qv Nv kv] 37)).alloc (.cells #[.int .i64 rw, .int .i64 cw, .slice qw Nw kw] 37)).alloc (.cells #[.int .i64 0, .int .i64 0, .slice none 0 0] 37)).alloc (.cells #[.int .i64 0, .int .i64 0, .slice none 0 0] 37) := ⟨_, rfl⟩
 obtain ⟨W3, hW3⟩ : ∃ W3, W3 = ((w.alloc (.cells #[.int .i64 3, .int .i64 a, .int .i64 b, .float .f32 zb, .int .i64 0, .int .i64 0, .slice qt 0 ct'] 79)).alloc (.cells #[.int .i64 rg, .int .i64 cg, .slice qg Ng kg] 37)).alloc (.cells #[.int .i64 rv, .int .i64 cv, .slice qv Nv kv] 37) := ⟨_, rfl⟩
 obtain ⟨E3, s3, b0, b1, b2⟩ := box3 hW3
 have hW6 : W0 = ((W3.alloc (.cells #[.int .i64 rw, .int .i64 cw, .slice qw Nw kw] 37)).alloc (.cells #[.int .i64 0, .int .i64 0, .slice none 0 0] 37)).alloc (.cells #[.int .i64 0, .int .i64 0, .slice none 0 0] 37) := by rw [hW0, ← hW3]
 obtain ⟨E6, s6, b3, b4, b5⟩ := box3 hW6
 rw [s3] at b3 b4 b5
 have B0 : HB W0 w.heap.size #[.int .i64 3, .int .i64 a, .int .i64 b, .float .f32 zb, .int .i64 0, .int .i64 0, .slice qt 0 ct'] 79 := HB.ext b0 E6
 have B1 : HB W0 (w.heap.size + 1) #[.int .i64 rg, .int .i64 cg, .slice qg Ng kg] 37 := HB.ext b1 E6
 have B2 : HB W0 (w.heap.size + 1 + 1) #[.int .i64 rv, .int .i64 cv, .slice qv Nv kv] 37 := HB.ext b2 E6
 have B3 : HB W0 (w.heap.size + 1 + 1 + 1) #[.int .i64 rw, .int .i64 cw, .slice qw Nw kw] 37 := b3
 have B4 : HB W0 (w.heap.size + 1 + 1 + 1 + 1) #[.int .i64 0, .int .i64 0, .slice none 0 0] 37 := b4
 have B5 : HB W0 (w.heap.size + 1 + 1 + 1 + 1 + 1) #[.int .i64 0, .int .i64 0, .slice none 0 0] 37 := b5
 have E0 := E3.trans E6
 clear hW3 hW6 E3 E6 s3 s6 b0 b1 b2 b3 b4 b5
 have HZ := hid hz
 have HNg := hid hNg
 have HNv := hid hNv
 have HNw := hid hNw
 clear ho ht hpt hz hNg hNv hNw hpa hpb hs hs2
 go_enter Tryz.func87, Tryz.ntmps87
 have z0 := B0.cell 0 rfl
 go_wp2_with fail
 rw [← hW0]
 clear hW0 z0
 generalize hH5 : w.heap.size + 1 + 1 + 1 + 1 + 1 = H5 at *
 generalize hH4 : w.heap.size + 1 + 1 + 1 + 1 = H4 at *
 generalize hH3 : w.heap.size + 1 + 1 + 1 = H3 at *
 generalize hH2 : w.heap.size + 1 + 1 = H2 at *
 generalize hH1 : w.heap.size + 1 = H1 at *
 obtain ⟨H0, hH0⟩ : ∃ H, H = w.heap.size := ⟨_, rfl⟩
 rw [← hH0] at B0 ⊢
 have P0 : w.heap.size ≤ H0 := by omega
 have P1 : H0 < H1 := by omega
 have P2 : H1 < H2 := by omega
 have P3 : H2 < H3 := by omega
 have P4 : H3 < H4 := by omega
 have P5 : H4 < H5 := by omega
 clear hH0 hH1 hH2 hH3 hH4 hH5
 have eD := Ext.drew W0
 have B1 := B1.ext eD; have B2 := B2.ext eD; have B3 := B3.ext eD; have B4 := B4.ext eD; have B5 := B5.ext eD
 have E0 := E0.trans eD
 clear B0
 refine wp_region_T (n := 7) (S := fun W => HB W H1 #[.int .i64 rg, .int .i64 cg, .slice qg Ng kg] 37 ∧ HB W H2 #[.int .i64 rv, .int .i64 cv, .slice qv Nv kv] 37 ∧ HB W H3 #[.int .i64 rw, .int .i64 cw, .slice qw Nw kw] 37) (by kernel_rfl) rfl ?_
 clear eD
 generalize W0.drew = W0 at *
 have hS : HB W0 H1 #[.int .i64 rg, .int .i64 cg, .slice qg Ng kg] 37 ∧ HB W0 H2 #[.int .i64 rv, .int .i64 cv, .slice qv Nv kv] 37 ∧ HB W0 H3 #[.int .i64 rw, .int .i64 cw, .slice qw Nw kw] 37 := ⟨B1, B2, B3⟩
 refine hs_take (k := 0) (.agg #[.int .i64 rg, .int .i64 cg, .slice qg Ng kg]) (by kernel_rfl) rfl rfl (fun _ _ _ h => h) hS (fun W hW => by have y0 := (hW.1).cell 0 rfl; have y1 := (hW.1).cell 1 rfl; have y2 := (hW.1).cell 2 rfl; go_simp) ?_
 (try simp only [List.getElem_toArray, List.getElem_cons_succ, List.getElem_cons_zero])
 simp only [Act.put, ev_tmp, pu1, pu2, pu3, pu4, pu5]
 refine hs_take (k := 1) (.agg #[.int .i64 rw, .int .i64 cw, .slice qw Nw kw]) (by kernel_rfl) rfl rfl (fun _ _ _ h => h) hS (fun W hW => by have y0 := (hW.2.2).cell 0 rfl; have y1 := (hW.2.2).cell 1 rfl; have y2 := (hW.2.2).cell 2 rfl; go_simp) ?_
 (try simp only [List.getElem_toArray, List.getElem_cons_succ, List.getElem_cons_zero])
 simp only [Act.put, ev_tmp, pu1, pu2, pu3, pu4, pu5]
 refine hs_take (k := 3) (.agg #[.int .i64 rg, .int .i64 cg, .slice qg Ng kg]) (by kernel_rfl) rfl rfl (fun _ _ _ h => h) hS (fun W hW => by have y0 := (hW.1).cell 0 rfl; have y1 := (hW.1).cell 1 rfl; have y2 := (hW.1).cell 2 rfl; go_simp) ?_
 (try simp only [List.getElem_toArray, List.getElem_cons_succ, List.getElem_cons_zero])
 simp only [Act.put, ev_tmp, pu1, pu2, pu3, pu4, pu5]
 refine hs_take (k := 4) (.agg #[.int .i64 rv, .int .i64 cv, .slice qv Nv kv]) (by kernel_rfl) rfl rfl (fun _ _ _ h => h) hS (fun W hW => by have y0 := (hW.2.1).cell 0 rfl; have y1 := (hW.2.1).cell 1 rfl; have y2 := (hW.2.1).cell 2 rfl; go_simp) ?_
 (try simp only [List.getElem_toArray, List.getElem_cons_succ, List.getElem_cons_zero])
 simp only [Act.put, ev_tmp, pu1, pu2, pu3, pu4, pu5]
 refine hs_only (k := 2) (by kernel_rfl) ?_
 refine wpOp_call (f := 105) (args := #[.agg #[.int .i64 rg, .int .i64 cg, .slice qg Ng kg], .agg #[.int .i64 rw, .int .i64 cw, .slice qw Nw kw]]) rfl rfl rfl Tryz.func105 rfl (by kernel_rfl) (by simp [Act.eval]) (K1.out W0 E0) ?_
 rintro e w1 ⟨q0, k0, vs0, rfl, own0, hf0, eX⟩
 rw [HLpa.out] at own0 ⊢
 have hb0 : H5 < W0.heap.size := B5.lt
 have B4 := B4.ext eX; have B5 := B5.ext eX
 have E0 := E0.trans eX
 have hS := And.intro (hS.1.ext eX) (And.intro (hS.2.1.ext eX) (hS.2.2.ext eX))
 refine ⟨_, rfl, hS, ?_⟩
 clear eX
 (try simp only [List.getElem_toArray, List.getElem_cons_succ, List.getElem_cons_zero])
 simp only [Act.put, ev_tmp, pu1, pu2, pu3, pu4, pu5]
 refine hs_only (k := 5) (by kernel_rfl) ?_
 refine wpOp_call (f := 105) (args := #[.agg #[.int .i64 rg, .int .i64 cg, .slice qg Ng kg], .agg #[.int .i64 rv, .int .i64 cv, .slice qv Nv kv]]) rfl rfl rfl Tryz.func105 rfl (by kernel_rfl) (by simp [Act.eval]) (K2.out w1 E0) ?_
 rintro e w2 ⟨q1, k1, vs1, rfl, own1, hf1, eX⟩
 rw [HLpb.out] at own1 ⊢
 have own0 := own_ext own0 eX
 have hb1 : H5 < w1.heap.size := B5.lt
 have B4 := B4.ext eX; have B5 := B5.ext eX
 have E0 := E0.trans eX
 have hS := And.intro (hS.1.ext eX) (And.intro (hS.2.1.ext eX) (hS.2.2.ext eX))
 refine ⟨_, rfl, hS, ?_⟩
 clear eX
 (try simp only [List.getElem_toArray, List.getElem_cons_succ, List.getElem_cons_zero])
 simp only [Act.put, ev_tmp, pu1, pu2, pu3, pu4, pu5]
 refine hs_only (k := 6) (by kernel_rfl) ?_
 obtain ⟨V1, hr1, B4', ch1⟩ := run_st3 (y0 := .int .i64 rg) (y1 := .int .i64 cg) (y2 := .slice q0 Ng k0) B4 rfl rfl rfl
 refine wpOp_skip (w' := V1) rfl rfl (by simp [execOp, Act.eval, ofCs, Sh.agg, hr1]) ?_
 refine ⟨⟨hS.1.chg ch1 (fun h => by have h : H1 = H4 := h; omega), hS.2.1.chg ch1 (fun h => by have h : H2 = H4 := h; omega), hS.2.2.chg ch1 (fun h => by have h : H3 = H4 := h; omega)⟩, ?_⟩
 have B5' := B5.chg ch1 (fun h => by have h : H5 = H4 := h; omega)
 (try simp only [List.getElem_toArray, List.getElem_cons_succ, List.getElem_cons_zero])
 simp only [Act.put, ev_tmp, pu1, pu2, pu3, pu4, pu5]
 refine hs_last (k := 7) (by kernel_rfl) rfl ?_
 obtain ⟨V2, hr2, B5'', ch2⟩ := run_st3 (y0 := .int .i64 rg) (y1 := .int .i64 cg) (y2 := .slice q1 Ng k1) B5' rfl rfl rfl
 refine wl_skip rfl (w' := V2) (by simp [execOp, Act.eval, ofCs, Sh.agg, hr2]) ?_
 have B4'' := B4'.chg ch2 (fun h => by have h : H4 = H5 := h; omega)
 have EF : Ext w V2 := (E0.chg ch1 (fun k hk => by have hk : k = H4 := hk; omega)).chg ch2 (fun k hk => by have hk : k = H5 := hk; omega)
 have n0 := B4''.cell 0 rfl; have n1 := B4''.cell 1 rfl; have n2 := B4''.cell 2 rfl
 have n3 := B5''.cell 0 rfl; have n4 := B5''.cell 1 rfl; have n5 := B5''.cell 2 rfl
 have own0 := own_chgB (own_chgB own0 ch1 (fun k hk => by have hk : k = H4 := hk; omega)) ch2 (fun k hk => by have hk : k = H5 := hk; omega)
 have own1 := own_chgB (own_chgB own1 ch1 (fun k hk => by have hk : k = H4 := hk; omega)) ch2 (fun k hk => by have hk : k = H5 := hk; omega)
 have RA := hid (RepF.own (w := V2) (r := rg) (c := cg) HLpa.out own0 hf0)
 have RB := hid (RepF.own (w := V2) (r := rg) (c := cg) HLpb.out own1 hf1)
 clear hr1 hr2 B4 B5 B4' B5' B4'' B5'' ch1 ch2
 go_wp2
 refine bodyPost_ret (v := .tuple #[.agg #[.int .i64 rg, .int .i64 cg, .slice q0 Ng k0], .agg #[.int .i64 rg, .int .i64 cg, .slice q1 Ng k1]]) (by simp [results, Tryz.results87, go_sem, n0, n1, n2, n3, n4, n5]) rfl ?_
 exact PartsOut.of rfl RA.out RB.out (by simp only [partA, tMul, tn, lg]; rw [HEpa.out]) (by simp only [partB, tMul, tn, lg]; rw [HEpb.out]) (fun b hb => .inr (by have := own_fs own0 b hb; omega)) (fun b hb => .inr (by have := own_fs own1 b hb; omega)) EF
set_option maxRecDepth 100000 in
set_option maxHeartbeats 4000000 in
theorem parts_4 (fg : List Nat) (a b z : Nat) (oc : List Value) (cg' cv' cw' : List Value) (sg sv sw : Nat × Nat) (g v u : shTensor.T) (w : World) (hg : TenAtB fg w cg' sg g) (hv : TenAt w cv' sv v) (hw : TenAt w cw' sw u) (hsg : SideOk sg) (hsv : SideOk sv) (hsw : SideOk sw) (hs : sg = sv) (hs2 : sw = (1, sg.2)) (ho : Rep w shOp oc (mkOp 4 a b z t0)) :
 Calls Tryz.prog 87 #[ofCs shOp oc, ofCs shTensor cg', ofCs shTensor cv', ofCs shTensor cw'] w (PartsOut fg w (partA 4 z g v u) (partB 4 g v u)) := by
 obtain ⟨zb, ct, rfl, hz, ht⟩ := mkOp_vals ho
 obtain ⟨qt, ct', ut, rfl, hpt, _⟩ := ten_vals ht
 obtain ⟨qg, kg, ug, gs, rfl, rfl, lg, h1B, h2, h3, h4⟩ := hg
 have h1 : Cs w qg ug := h1B w (fun _ => False) (fun _ _ h => h.elim) (Chg.refl _ _)
 obtain ⟨qv, kv, uv, xs, rfl, rfl, lv, g1, g2, g3, g4⟩ := hv
 obtain ⟨qw, kw, uw, ys, rfl, rfl, lw, f1, f2, f3, f4⟩ := hw
 obtain ⟨rg, cg⟩ := sg
 obtain ⟨rv, cv⟩ := sv
 obtain ⟨rw, cw⟩ := sw
 obtain ⟨i1, i2, i3, i4⟩ := hsg
 obtain ⟨j1, j2, j3, j4⟩ := hsv
 obtain ⟨l1, l2, l3, l4⟩ := hsw
 dsimp only at lg lv lw h3 g3 f3 i1 i2 i3 i4 j1 j2 j3 j4 l1 l2 l3 l4 ⊢
 obtain ⟨Ng, hNg⟩ : ∃ N, N = rg * cg := ⟨_, rfl⟩
 obtain ⟨Nv, hNv⟩ : ∃ N, N = rv * cv := ⟨_, rfl⟩
 obtain ⟨Nw, hNw⟩ : ∃ N, N = rw * cw := ⟨_, rfl⟩
 have hNg2 : Ng ≤ 256 := by rw [hNg]; exact Nat.mul_le_mul i2 i4
 have hNv2 : Nv ≤ 256 := by rw [hNv]; exact Nat.mul_le_mul j2 j4
 have hNw2 : Nw ≤ 256 := by rw [hNw]; exact Nat.mul_le_mul l2 l4
 have hNg1 : 1 ≤ Ng := by rw [hNg]; exact Nat.mul_le_mul i1 i3
 have hNw1 : 1 ≤ Nw := by rw [hNw]; exact Nat.mul_le_mul l1 l3
 rw [← hNg] at lg h3
 rw [← hNv] at lv g3
 rw [← hNw] at lw f3
 simp only [ofCs, Sh.agg, if_true, List.cons_append, List.nil_append, t0, List.length_nil, ← hNg, ← hNv, ← hNw]
 have hgv : Ng ≤ Nv := by rw [hNg, hNv, show rg = rv from congrArg Prod.fst hs, show cg = cv from congrArg Prod.snd hs]; exact Nat.le_refl _
 have hwc : Nw = cg := by rw [hNw, show rw = 1 from congrArg Prod.fst hs2, show cw = cg from congrArg Prod.snd hs2]; omega
 obtain ⟨pa, hpa⟩ : ∃ l, l = mulRX Ng Nw gs ys := ⟨_, rfl⟩
 have HLpa : Hid (pa.length = Ng) := hid (by rw [hpa]; exact ntab_len _ _)
 have HEpa := hid hpa
 obtain ⟨pm, hpm⟩ : ∃ l, l = mulX Ng gs xs := ⟨_, rfl⟩
 have HLpm : Hid (pm.length = Ng) := hid (by rw [hpm]; exact ntab_len _ _)
 have HEpm := hid hpm
 obtain ⟨pb, hpb⟩ : ∃ l, l = sumRX cg pm := ⟨_, rfl⟩
 have HLpb : Hid (pb.length = cg) := hid (by rw [hpb]; exact ntab_len _ _)
 have HEpb := hid hpb
 have K1 : Hid (∀ W, Ext w W → Calls Tryz.prog 106 #[.agg #[.int .i64 rg, .int .i64 cg, .slice qg Ng kg], .slice qw Nw kw] W (RetTen W rg cg pa)) := hid (fun W hW => by rw [hpa]; exact mulRow_any rg cg qg qw Ng Nw kg kw ug uw gs ys W lg (by omega) (h1.ext hW) h2 lw (by omega) hNw1 (f1.ext hW) f2)
 have K2 : Hid (∀ W, Ext w W → Calls Tryz.prog 105 #[.agg #[.int .i64 rg, .int .i64 cg, .slice qg Ng kg], .agg #[.int .i64 rv, .int .i64 cv, .slice qv Nv kv]] W (RetTen W rg cg pm)) := hid (fun W hW => by rw [hpm]; exact mulTensors_any rg cg rv cv qg qv Ng Nv kg kv ug uv gs xs W lg (by omega) (h1.ext hW) h2 lv (by omega) (g1.ext hW) g2 hgv)
 have K3 : Hid (∀ W (q : Option Addr) (k : Nat) (ts : List Value), Cs W q ts → F32s ts pm → Calls Tryz.prog 115 #[.agg #[.int .i64 rg, .int .i64 cg, .slice q Ng k]] W (RetFl W pb)) := hid (fun W q k ts hc hf => by rw [hpb]; exact sumRows_any rg cg q Ng k ts pm W HLpm.out (by omega) i3 (by omega) hc hf)
 have HWC := hid hwc
 obtain ⟨W0, hW0⟩ : ∃ W0, W0 = (((((w.alloc (.cells #[.int .i64 4, .int .i64 a, .int .i64 b, .float .f32 zb, .int .i64 0, .int .i64 0, .slice qt 0 ct'] 79)).alloc (.cells #[.int .i64 rg, .int .i64 cg, .slice qg Ng kg] 37)).alloc (.cells #[.int .i64 rv, .int .i64 cv, .slice qv Nv kv] 37)).alloc (.cells #[.int .i64 rw, .int .i64 cw, .slice qw Nw kw] 37)).alloc (.cells #[.int .i64 0, .int .i64 0, .slice none 0 0] 37)).alloc (.cells #[.int .i64 0, .int .i64 0, .slice none 0 0] 37) := ⟨_, rfl⟩
 obtain ⟨W3, hW3⟩ : ∃ W3, W3 = ((w.alloc (.cells #[.int .i64 4, .int .i64 a, .int .i64 b, .float .f32 zb, .int .i64 0, .int .i64 0, .slice qt 0 ct'] 79)).alloc (.cells #[.int .i64 rg, .int .i64 cg, .slice qg Ng kg] 37)).alloc (.cells #[.int .i64 rv, .int .i64 cv, .slice qv Nv kv] 37) := ⟨_, rfl⟩
 obtain ⟨E3, s3, b0, b1, b2⟩ := box3 hW3
 have hW6 : W0 = ((W3.alloc (.cells #[.int .i64 rw, .int .i64 cw, .slice qw Nw kw] 37)).alloc (.cells #[.int .i64 0, .int .i64 0, .slice none 0 0] 37)).alloc (.cells #[.int .i64 0, .int .i64 0, .slice none 0 0] 37) := by rw [hW0, ← hW3]
 obtain ⟨E6, s6, b3, b4, b5⟩ := box3 hW6
 rw [s3] at b3 b4 b5
 have B0 : HB W0 w.heap.size #[.int .i64 4, .int .i64 a, .int .i64 b, .float .f32 zb, .int .i64 0, .int .i64 0, .slice qt 0 ct'] 79 := HB.ext b0 E6
 have B1 : HB W0 (w.heap.size + 1) #[.int .i64 rg, .int .i64 cg, .slice qg Ng kg] 37 := HB.ext b1 E6
 have B2 : HB W0 (w.heap.size + 1 + 1) #[.int .i64 rv, .int .i64 cv, .slice qv Nv kv] 37 := HB.ext b2 E6
 have B3 : HB W0 (w.heap.size + 1 + 1 + 1) #[.int .i64 rw, .int .i64 cw, .slice qw Nw kw] 37 := b3
 have B4 : HB W0 (w.heap.size + 1 + 1 + 1 + 1) #[.int .i64 0, .int .i64 0, .slice none 0 0] 37 := b4
 have B5 : HB W0 (w.heap.size + 1 + 1 + 1 + 1 + 1) #[.int .i64 0, .int .i64 0, .slice none 0 0] 37 := b5
 have E0 := E3.trans E6
 clear hW3 hW6 E3 E6 s3 s6 b0 b1 b2 b3 b4 b5
 have HZ := hid hz
 have HNg := hid hNg
 have HNv := hid hNv
 have HNw := hid hNw
 clear ho ht hpt hz hNg hNv hNw hpa hpb hpm hs hs2 hwc
 go_enter Tryz.func87, Tryz.ntmps87
 have z0 := B0.cell 0 rfl
 go_wp2_with fail
 rw [← hW0]
 clear hW0 z0
 generalize hH5 : w.heap.size + 1 + 1 + 1 + 1 + 1 = H5 at *
 generalize hH4 : w.heap.size + 1 + 1 + 1 + 1 = H4 at *
 generalize hH3 : w.heap.size + 1 + 1 + 1 = H3 at *
 generalize hH2 : w.heap.size + 1 + 1 = H2 at *
 generalize hH1 : w.heap.size + 1 = H1 at *
 obtain ⟨H0, hH0⟩ : ∃ H, H = w.heap.size := ⟨_, rfl⟩
 rw [← hH0] at B0 ⊢
 have P0 : w.heap.size ≤ H0 := by omega
 have P1 : H0 < H1 := by omega
 have P2 : H1 < H2 := by omega
 have P3 : H2 < H3 := by omega
 have P4 : H3 < H4 := by omega
 have P5 : H4 < H5 := by omega
 clear hH0 hH1 hH2 hH3 hH4 hH5
 have eD := Ext.drew W0
 have B1 := B1.ext eD; have B2 := B2.ext eD; have B3 := B3.ext eD; have B4 := B4.ext eD; have B5 := B5.ext eD
 have E0 := E0.trans eD
 clear B0
 refine wp_region_T (n := 10) (S := fun W => HB W H1 #[.int .i64 rg, .int .i64 cg, .slice qg Ng kg] 37 ∧ HB W H2 #[.int .i64 rv, .int .i64 cv, .slice qv Nv kv] 37 ∧ HB W H3 #[.int .i64 rw, .int .i64 cw, .slice qw Nw kw] 37) (by kernel_rfl) rfl ?_
 clear eD
 generalize W0.drew = W0 at *
 have hS : HB W0 H1 #[.int .i64 rg, .int .i64 cg, .slice qg Ng kg] 37 ∧ HB W0 H2 #[.int .i64 rv, .int .i64 cv, .slice qv Nv kv] 37 ∧ HB W0 H3 #[.int .i64 rw, .int .i64 cw, .slice qw Nw kw] 37 := ⟨B1, B2, B3⟩
 refine hs_take (k := 0) (.agg #[.int .i64 rg, .int .i64 cg, .slice qg Ng kg]) (by kernel_rfl) rfl rfl (fun _ _ _ h => h) hS (fun W hW => by have y0 := (hW.1).cell 0 rfl; have y1 := (hW.1).cell 1 rfl; have y2 := (hW.1).cell 2 rfl; go_simp) ?_
 (try simp only [List.getElem_toArray, List.getElem_cons_succ, List.getElem_cons_zero])
 simp only [Act.put, ev_tmp, pu1, pu2, pu3, pu4, pu5]
 refine hs_take (k := 1) (.pointer (some ⟨H3, 2, none⟩)) (by kernel_rfl) rfl rfl (fun _ _ _ h => h) hS (fun W hW => by go_simp) ?_
 (try simp only [List.getElem_toArray, List.getElem_cons_succ, List.getElem_cons_zero])
 simp only [Act.put, ev_tmp, pu1, pu2, pu3, pu4, pu5]
 refine hs_take (k := 2) (.slice qw Nw kw) (by kernel_rfl) rfl rfl (fun _ _ _ h => h) hS (fun W hW => by have y := (hW.2.2).cell 2 rfl; go_simp) ?_
 (try simp only [List.getElem_toArray, List.getElem_cons_succ, List.getElem_cons_zero])
 simp only [Act.put, ev_tmp, pu1, pu2, pu3, pu4, pu5]
 refine hs_take (k := 4) (.agg #[.int .i64 rg, .int .i64 cg, .slice qg Ng kg]) (by kernel_rfl) rfl rfl (fun _ _ _ h => h) hS (fun W hW => by have y0 := (hW.1).cell 0 rfl; have y1 := (hW.1).cell 1 rfl; have y2 := (hW.1).cell 2 rfl; go_simp) ?_
 (try simp only [List.getElem_toArray, List.getElem_cons_succ, List.getElem_cons_zero])
 simp only [Act.put, ev_tmp, pu1, pu2, pu3, pu4, pu5]
 refine hs_take (k := 5) (.agg #[.int .i64 rv, .int .i64 cv, .slice qv Nv kv]) (by kernel_rfl) rfl rfl (fun _ _ _ h => h) hS (fun W hW => by have y0 := (hW.2.1).cell 0 rfl; have y1 := (hW.2.1).cell 1 rfl; have y2 := (hW.2.1).cell 2 rfl; go_simp) ?_
 (try simp only [List.getElem_toArray, List.getElem_cons_succ, List.getElem_cons_zero])
 simp only [Act.put, ev_tmp, pu1, pu2, pu3, pu4, pu5]
 refine hs_only (k := 3) (by kernel_rfl) ?_
 refine wpOp_call (f := 106) (args := #[.agg #[.int .i64 rg, .int .i64 cg, .slice qg Ng kg], .slice qw Nw kw]) rfl rfl rfl Tryz.func106 rfl (by kernel_rfl) (by simp [Act.eval]) (K1.out W0 E0) ?_
 rintro e w1 ⟨q0, k0, vs0, rfl, own0, hf0, eX⟩
 rw [HLpa.out] at own0 ⊢
 have hb0 : H5 < W0.heap.size := B5.lt
 have B4 := B4.ext eX; have B5 := B5.ext eX
 have E0 := E0.trans eX
 have hS := And.intro (hS.1.ext eX) (And.intro (hS.2.1.ext eX) (hS.2.2.ext eX))
 refine ⟨_, rfl, hS, ?_⟩
 clear eX
 (try simp only [List.getElem_toArray, List.getElem_cons_succ, List.getElem_cons_zero])
 simp only [Act.put, ev_tmp, pu1, pu2, pu3, pu4, pu5]
 refine hs_only (k := 6) (by kernel_rfl) ?_
 refine wpOp_call (f := 105) (args := #[.agg #[.int .i64 rg, .int .i64 cg, .slice qg Ng kg], .agg #[.int .i64 rv, .int .i64 cv, .slice qv Nv kv]]) rfl rfl rfl Tryz.func105 rfl (by kernel_rfl) (by simp [Act.eval]) (K2.out w1 E0) ?_
 rintro e w2 ⟨q1, k1, vs1, rfl, own1, hf1, eX⟩
 rw [HLpm.out] at own1 ⊢
 have own0 := own_ext own0 eX
 have hb1 : H5 < w1.heap.size := B5.lt
 have B4 := B4.ext eX; have B5 := B5.ext eX
 have E0 := E0.trans eX
 have hS := And.intro (hS.1.ext eX) (And.intro (hS.2.1.ext eX) (hS.2.2.ext eX))
 refine ⟨_, rfl, hS, ?_⟩
 clear eX
 (try simp only [List.getElem_toArray, List.getElem_cons_succ, List.getElem_cons_zero])
 simp only [Act.put, ev_tmp, pu1, pu2, pu3, pu4, pu5]
 refine hs_only (k := 7) (by kernel_rfl) ?_
 refine wpOp_call (f := 115) (args := #[.agg #[.int .i64 rg, .int .i64 cg, .slice q1 Ng k1]]) rfl rfl rfl Tryz.func115 rfl (by kernel_rfl) (by simp [Act.eval]) (K3.out w2 q1 k1 vs1 (own_Cs own1) hf1) ?_
 rintro e w3 ⟨q2, k2, vs2, rfl, own2, hf2, eX⟩
 rw [HLpb.out] at own2 ⊢
 have own0 := own_ext own0 eX
 have own1 := own_ext own1 eX
 have hb2 : H5 < w2.heap.size := B5.lt
 have B4 := B4.ext eX; have B5 := B5.ext eX
 have E0 := E0.trans eX
 have hS := And.intro (hS.1.ext eX) (And.intro (hS.2.1.ext eX) (hS.2.2.ext eX))
 refine ⟨_, rfl, hS, ?_⟩
 clear eX
 (try simp only [List.getElem_toArray, List.getElem_cons_succ, List.getElem_cons_zero])
 simp only [Act.put, ev_tmp, pu1, pu2, pu3, pu4, pu5]
 refine hs_only (k := 8) (by kernel_rfl) ?_
 refine wpOp_call (f := 63) (args := #[.slice q2 cg k2]) rfl rfl rfl Tryz.func63 rfl (by kernel_rfl) (by simp [Act.eval]) (rowTensor_any q2 cg k2 vs2 pb w3 HLpb.out (by omega) (own_cap own2).1 (own_Cs own2) hf2) ?_
 rintro e w4 ⟨q3, k3, vs3, rfl, own3, hf3, eX⟩
 rw [HLpb.out] at own3 ⊢
 have own0 := own_ext own0 eX
 have own1 := own_ext own1 eX
 have own2 := own_ext own2 eX
 have hb3 : H5 < w3.heap.size := B5.lt
 have B4 := B4.ext eX; have B5 := B5.ext eX
 have E0 := E0.trans eX
 have hS := And.intro (hS.1.ext eX) (And.intro (hS.2.1.ext eX) (hS.2.2.ext eX))
 refine ⟨_, rfl, hS, ?_⟩
 clear eX
 (try simp only [List.getElem_toArray, List.getElem_cons_succ, List.getElem_cons_zero])
 simp only [Act.put, ev_tmp, pu1, pu2, pu3, pu4, pu5]
 refine hs_only (k := 9) (by kernel_rfl) ?_
 obtain ⟨V1, hr1, B4', ch1⟩ := run_st3 (y0 := .int .i64 rg) (y1 := .int .i64 cg) (y2 := .slice q0 Ng k0) B4 rfl rfl rfl
 refine wpOp_skip (w' := V1) rfl rfl (by simp [execOp, Act.eval, ofCs, Sh.agg, hr1]) ?_
 refine ⟨⟨hS.1.chg ch1 (fun h => by have h : H1 = H4 := h; omega), hS.2.1.chg ch1 (fun h => by have h : H2 = H4 := h; omega), hS.2.2.chg ch1 (fun h => by have h : H3 = H4 := h; omega)⟩, ?_⟩
 have B5' := B5.chg ch1 (fun h => by have h : H5 = H4 := h; omega)
 (try simp only [List.getElem_toArray, List.getElem_cons_succ, List.getElem_cons_zero])
 simp only [Act.put, ev_tmp, pu1, pu2, pu3, pu4, pu5]
 refine hs_last (k := 10) (by kernel_rfl) rfl ?_
 obtain ⟨V2, hr2, B5'', ch2⟩ := run_st3 (y0 := .int .i64 1) (y1 := .int .i64 cg) (y2 := .slice q3 cg k3) B5' rfl rfl rfl
 refine wl_skip rfl (w' := V2) (by simp [execOp, Act.eval, ofCs, Sh.agg, hr2]) ?_
 have B4'' := B4'.chg ch2 (fun h => by have h : H4 = H5 := h; omega)
 have EF : Ext w V2 := (E0.chg ch1 (fun k hk => by have hk : k = H4 := hk; omega)).chg ch2 (fun k hk => by have hk : k = H5 := hk; omega)
 have n0 := B4''.cell 0 rfl; have n1 := B4''.cell 1 rfl; have n2 := B4''.cell 2 rfl
 have n3 := B5''.cell 0 rfl; have n4 := B5''.cell 1 rfl; have n5 := B5''.cell 2 rfl
 have own0 := own_chgB (own_chgB own0 ch1 (fun k hk => by have hk : k = H4 := hk; omega)) ch2 (fun k hk => by have hk : k = H5 := hk; omega)
 have own1 := own_chgB (own_chgB own1 ch1 (fun k hk => by have hk : k = H4 := hk; omega)) ch2 (fun k hk => by have hk : k = H5 := hk; omega)
 have own2 := own_chgB (own_chgB own2 ch1 (fun k hk => by have hk : k = H4 := hk; omega)) ch2 (fun k hk => by have hk : k = H5 := hk; omega)
 have own3 := own_chgB (own_chgB own3 ch1 (fun k hk => by have hk : k = H4 := hk; omega)) ch2 (fun k hk => by have hk : k = H5 := hk; omega)
 have RA := hid (RepF.own (w := V2) (r := rg) (c := cg) HLpa.out own0 hf0)
 have RB := hid (RepF.own (w := V2) (r := 1) (c := cg) HLpb.out own3 hf3)
 clear hr1 hr2 B4 B5 B4' B5' B4'' B5'' ch1 ch2
 go_wp2
 refine bodyPost_ret (v := .tuple #[.agg #[.int .i64 rg, .int .i64 cg, .slice q0 Ng k0], .agg #[.int .i64 1, .int .i64 cg, .slice q3 cg k3]]) (by simp [results, Tryz.results87, go_sem, n0, n1, n2, n3, n4, n5]) rfl ?_
 exact PartsOut.of rfl RA.out RB.out (by simp only [partA, tn, lg, Int.toNat_natCast]; rw [HEpa.out, HWC.out]) (by simp only [partB, tMul, tn, lg, Int.toNat_natCast]; rw [HEpb.out, HEpm.out]) (fun b hb => .inr (by have := own_fs own0 b hb; omega)) (fun b hb => .inr (by have := own_fs own3 b hb; omega)) EF
set_option maxRecDepth 100000 in
set_option maxHeartbeats 4000000 in
theorem parts_5 (fg : List Nat) (a b z : Nat) (oc : List Value) (cg' cv' cw' : List Value) (sg sv sw : Nat × Nat) (g v u : shTensor.T) (w : World) (hg : TenAtB fg w cg' sg g) (hv : TenAt w cv' sv v) (hw : TenAt w cw' sw u) (hsg : SideOk sg) (hsv : SideOk sv) (hsw : SideOk sw)  (ho : Rep w shOp oc (mkOp 5 a b z t0)) :
 Calls Tryz.prog 87 #[ofCs shOp oc, ofCs shTensor cg', ofCs shTensor cv', ofCs shTensor cw'] w (PartsOut fg w (partA 5 z g v u) (partB 5 g v u)) := by
 obtain ⟨zb, ct, rfl, hz, ht⟩ := mkOp_vals ho
 obtain ⟨qt, ct', ut, rfl, hpt, _⟩ := ten_vals ht
 obtain ⟨qg, kg, ug, gs, rfl, rfl, lg, h1B, h2, h3, h4⟩ := hg
 have h1 : Cs w qg ug := h1B w (fun _ => False) (fun _ _ h => h.elim) (Chg.refl _ _)
 obtain ⟨qv, kv, uv, xs, rfl, rfl, lv, g1, g2, g3, g4⟩ := hv
 obtain ⟨qw, kw, uw, ys, rfl, rfl, lw, f1, f2, f3, f4⟩ := hw
 obtain ⟨rg, cg⟩ := sg
 obtain ⟨rv, cv⟩ := sv
 obtain ⟨rw, cw⟩ := sw
 obtain ⟨i1, i2, i3, i4⟩ := hsg
 obtain ⟨j1, j2, j3, j4⟩ := hsv
 obtain ⟨l1, l2, l3, l4⟩ := hsw
 dsimp only at lg lv lw h3 g3 f3 i1 i2 i3 i4 j1 j2 j3 j4 l1 l2 l3 l4 ⊢
 obtain ⟨Ng, hNg⟩ : ∃ N, N = rg * cg := ⟨_, rfl⟩
 obtain ⟨Nv, hNv⟩ : ∃ N, N = rv * cv := ⟨_, rfl⟩
 obtain ⟨Nw, hNw⟩ : ∃ N, N = rw * cw := ⟨_, rfl⟩
 have hNg2 : Ng ≤ 256 := by rw [hNg]; exact Nat.mul_le_mul i2 i4
 have hNv2 : Nv ≤ 256 := by rw [hNv]; exact Nat.mul_le_mul j2 j4
 have hNw2 : Nw ≤ 256 := by rw [hNw]; exact Nat.mul_le_mul l2 l4
 have hNg1 : 1 ≤ Ng := by rw [hNg]; exact Nat.mul_le_mul i1 i3
 have hNw1 : 1 ≤ Nw := by rw [hNw]; exact Nat.mul_le_mul l1 l3
 rw [← hNg] at lg h3
 rw [← hNv] at lv g3
 rw [← hNw] at lw f3
 simp only [ofCs, Sh.agg, if_true, List.cons_append, List.nil_append, t0, List.length_nil, ← hNg, ← hNv, ← hNw]
 obtain ⟨pa, hpa⟩ : ∃ l, l = sclX Ng gs (cn .f32 zb) := ⟨_, rfl⟩
 have HLpa : Hid (pa.length = Ng) := hid (by rw [hpa]; exact ntab_len _ _)
 have HEpa := hid hpa
 have K1 : Hid (∀ W, Ext w W → Calls Tryz.prog 107 #[.agg #[.int .i64 rg, .int .i64 cg, .slice qg Ng kg], .float .f32 zb] W (RetTen W rg cg pa)) := hid (fun W hW => by rw [hpa]; exact scaleTensor_any rg cg qg Ng kg zb ug gs W lg (by omega) (h1.ext hW) h2)
 obtain ⟨W0, hW0⟩ : ∃ W0, W0 = (((((w.alloc (.cells #[.int .i64 5, .int .i64 a, .int .i64 b, .float .f32 zb, .int .i64 0, .int .i64 0, .slice qt 0 ct'] 79)).alloc (.cells #[.int .i64 rg, .int .i64 cg, .slice qg Ng kg] 37)).alloc (.cells #[.int .i64 rv, .int .i64 cv, .slice qv Nv kv] 37)).alloc (.cells #[.int .i64 rw, .int .i64 cw, .slice qw Nw kw] 37)).alloc (.cells #[.int .i64 0, .int .i64 0, .slice none 0 0] 37)).alloc (.cells #[.int .i64 0, .int .i64 0, .slice none 0 0] 37) := ⟨_, rfl⟩
 obtain ⟨W3, hW3⟩ : ∃ W3, W3 = ((w.alloc (.cells #[.int .i64 5, .int .i64 a, .int .i64 b, .float .f32 zb, .int .i64 0, .int .i64 0, .slice qt 0 ct'] 79)).alloc (.cells #[.int .i64 rg, .int .i64 cg, .slice qg Ng kg] 37)).alloc (.cells #[.int .i64 rv, .int .i64 cv, .slice qv Nv kv] 37) := ⟨_, rfl⟩
 obtain ⟨E3, s3, b0, b1, b2⟩ := box3 hW3
 have hW6 : W0 = ((W3.alloc (.cells #[.int .i64 rw, .int .i64 cw, .slice qw Nw kw] 37)).alloc (.cells #[.int .i64 0, .int .i64 0, .slice none 0 0] 37)).alloc (.cells #[.int .i64 0, .int .i64 0, .slice none 0 0] 37) := by rw [hW0, ← hW3]
 obtain ⟨E6, s6, b3, b4, b5⟩ := box3 hW6
 rw [s3] at b3 b4 b5
 have B0 : HB W0 w.heap.size #[.int .i64 5, .int .i64 a, .int .i64 b, .float .f32 zb, .int .i64 0, .int .i64 0, .slice qt 0 ct'] 79 := HB.ext b0 E6
 have B1 : HB W0 (w.heap.size + 1) #[.int .i64 rg, .int .i64 cg, .slice qg Ng kg] 37 := HB.ext b1 E6
 have B2 : HB W0 (w.heap.size + 1 + 1) #[.int .i64 rv, .int .i64 cv, .slice qv Nv kv] 37 := HB.ext b2 E6
 have B3 : HB W0 (w.heap.size + 1 + 1 + 1) #[.int .i64 rw, .int .i64 cw, .slice qw Nw kw] 37 := b3
 have B4 : HB W0 (w.heap.size + 1 + 1 + 1 + 1) #[.int .i64 0, .int .i64 0, .slice none 0 0] 37 := b4
 have B5 : HB W0 (w.heap.size + 1 + 1 + 1 + 1 + 1) #[.int .i64 0, .int .i64 0, .slice none 0 0] 37 := b5
 have E0 := E3.trans E6
 clear hW3 hW6 E3 E6 s3 s6 b0 b1 b2 b3 b4 b5
 have HZ := hid hz
 have HNg := hid hNg
 have HNv := hid hNv
 have HNw := hid hNw
 clear ho ht hpt hz hNg hNv hNw hpa
 go_enter Tryz.func87, Tryz.ntmps87
 go_wp2_with fail
 rw [← hW0]
 clear hW0
 generalize hH5 : w.heap.size + 1 + 1 + 1 + 1 + 1 = H5 at *
 generalize hH4 : w.heap.size + 1 + 1 + 1 + 1 = H4 at *
 generalize hH3 : w.heap.size + 1 + 1 + 1 = H3 at *
 generalize hH2 : w.heap.size + 1 + 1 = H2 at *
 generalize hH1 : w.heap.size + 1 = H1 at *
 obtain ⟨H0, hH0⟩ : ∃ H, H = w.heap.size := ⟨_, rfl⟩
 rw [← hH0] at B0 ⊢
 have P0 : w.heap.size ≤ H0 := by omega
 have P1 : H0 < H1 := by omega
 have P2 : H1 < H2 := by omega
 have P3 : H2 < H3 := by omega
 have P4 : H3 < H4 := by omega
 have P5 : H4 < H5 := by omega
 clear hH0 hH1 hH2 hH3 hH4 hH5
 refine (K1.out _ E0).mono ?_
 rintro e w1 ⟨q0, k0, vs0, rfl, own0, hf0, eX⟩
 rw [HLpa.out] at own0 ⊢
 have hb0 : H5 < W0.heap.size := B5.lt
 have B4 := B4.ext eX; have B5 := B5.ext eX
 have E0 := E0.trans eX
 clear eX
 go_wp2_with (first | ((with_reducible show wpList _ _ _ (Oper.mk _ (Op.store _ _ _) _ _ _ _ :: _) _ _); refine wl_st3 rfl rfl rfl rfl B4 rfl rfl rfl ?_; intro V1 B4' ch1; have B5' := B5.chg ch1 (fun h => by have h : H5 = H4 := h; omega)) | ((with_reducible show wpList _ _ _ (Oper.mk _ (Op.store _ _ _) _ _ _ _ :: _) _ _); refine wl_st3 rfl rfl rfl rfl B5' rfl rfl rfl ?_; intro V2 B5'' ch2))
 have B4'' := B4'.chg ch2 (fun h => by have h : H4 = H5 := h; omega)
 have EF : Ext w V2 := (E0.chg ch1 (fun k hk => by have hk : k = H4 := hk; omega)).chg ch2 (fun k hk => by have hk : k = H5 := hk; omega)
 have n0 := B4''.cell 0 rfl; have n1 := B4''.cell 1 rfl; have n2 := B4''.cell 2 rfl
 have n3 := B5''.cell 0 rfl; have n4 := B5''.cell 1 rfl; have n5 := B5''.cell 2 rfl
 have own0 := own_chgB (own_chgB own0 ch1 (fun k hk => by have hk : k = H4 := hk; omega)) ch2 (fun k hk => by have hk : k = H5 := hk; omega)
 have RA := hid (RepF.own (w := V2) (r := rg) (c := cg) HLpa.out own0 hf0)
 refine bodyPost_ret (v := .tuple #[.agg #[.int .i64 rg, .int .i64 cg, .slice q0 Ng k0], .agg #[.int .i64 0, .int .i64 0, .slice none 0 0]]) (by simp [results, Tryz.results87, go_sem, n0, n1, n2, n3, n4, n5]) rfl ?_
 exact PartsOut.of rfl RA.out (RepF.nil (w := V2)) (by simp only [partA, tn, lg]; rw [HEpa.out, HZ.out]) rfl (fun b hb => .inr (by have := own_fs own0 b hb; omega)) (fun b hb => by simp at hb) EF
end Go.Proofs.YtlimabbeaimdgaaGreat
