/- A part of the proofs: TnL6, TnL7, TnL8, TnL9. -/
import Derived.Test.YtlimabbeaimdgaaGreatZ15Evalua
set_option linter.unusedSimpArgs false
set_option linter.unusedVariables false
namespace Go.Proofs.YtlimabbeaimdgaaGreat
open Go.RowKit
set_option maxRecDepth 100000 in
set_option maxHeartbeats 4000000 in
theorem parts_6 (fg : List Nat) (a b z : Nat) (oc : List Value) (cg' cv' cw' : List Value) (sg sv sw : Nat × Nat) (g v u : shTensor.T) (w : World) (hg : TenAtB fg w cg' sg g) (hv : TenAt w cv' sv v) (hw : TenAt w cw' sw u) (hsg : SideOk sg) (hsv : SideOk sv) (hsw : SideOk sw) (hs : sw.2 = sg.2) (hs2 : sv.1 = sg.1) (ho : Rep w shOp oc (mkOp 6 a b z t0)) :
 Calls Tryz.prog 87 #[ofCs shOp oc, ofCs shTensor cg', ofCs shTensor cv', ofCs shTensor cw'] w (PartsOut fg w (partA 6 z g v u) (partB 6 g v u)) := by
 obtain ⟨zb, ct, rfl, hz, ht⟩ := mkOp_vals ho
 obtain ⟨qt, ct', ut, rfl, hpt, _⟩ := ten_vals ht
 obtain ⟨qg, kg, ug, gs, rfl, rfl, lg, h1B, h2, h3, h4⟩ := hg
 have h1 : Cs w qg ug := h1B w (fun _ => False) (fun _ _ h => h.elim) (Chg.refl _ _)
 obtain ⟨qv, kv, uv, xs, rfl, rfl, lv, g1, g2, g3, g4⟩ := hv
 obtain ⟨qw, kw, uw, ys, rfl, rfl, lw, f1, f2, f3, f4⟩ := hw
 obtain ⟨rg, cg⟩ := sg
 obtain ⟨rv, cv⟩ := sv
 obtain ⟨rw, cw⟩ := sw
 obtain ⟨i1, i2, i3, i4⟩ := hsg
 obtain ⟨j1, j2, j3, j4⟩ := hsv
 obtain ⟨l1, l2, l3, l4⟩ := hsw
 dsimp only at lg lv lw h3 g3 f3 i1 i2 i3 i4 j1 j2 j3 j4 l1 l2 l3 l4 ⊢
 obtain ⟨Ng, hNg⟩ : ∃ N, N = rg * cg := ⟨_, rfl⟩
 obtain ⟨Nv, hNv⟩ : ∃ N, N = rv * cv := ⟨_, rfl⟩
 obtain ⟨Nw, hNw⟩ : ∃ N, N = rw * cw := ⟨_, rfl⟩
 have hNg2 : Ng ≤ 256 := by rw [hNg]; exact Nat.mul_le_mul i2 i4
 have hNv2 : Nv ≤ 256 := by rw [hNv]; exact Nat.mul_le_mul j2 j4
 have hNw2 : Nw ≤ 256 := by rw [hNw]; exact Nat.mul_le_mul l2 l4
 have hNg1 : 1 ≤ Ng := by rw [hNg]; exact Nat.mul_le_mul i1 i3
 have hNw1 : 1 ≤ Nw := by rw [hNw]; exact Nat.mul_le_mul l1 l3
 rw [← hNg] at lg h3
 rw [← hNv] at lv g3
 rw [← hNw] at lw f3
 simp only [ofCs, Sh.agg, if_true, List.cons_append, List.nil_append, t0, List.length_nil, ← hNg, ← hNv, ← hNw]
 have hcg : cw = cg := hs
 have hrg : rv = rg := hs2
 obtain ⟨wt, hwt⟩ : ∃ l, l = turnX rw cw ys := ⟨_, rfl⟩
 have HLwt : Hid (wt.length = cw * rw) := hid (by rw [hwt]; exact ntab_len _ _)
 have HEwt := hid hwt
 obtain ⟨pa, hpa⟩ : ∃ l, l = mmX rg cg rw gs wt := ⟨_, rfl⟩
 have HLpa : Hid (pa.length = rg * rw) := hid (by rw [hpa]; exact ntab_len _ _)
 have HEpa := hid hpa
 obtain ⟨vt, hvt⟩ : ∃ l, l = turnX rv cv xs := ⟨_, rfl⟩
 have HLvt : Hid (vt.length = cv * rv) := hid (by rw [hvt]; exact ntab_len _ _)
 have HEvt := hid hvt
 obtain ⟨pb, hpb⟩ : ∃ l, l = mmX cv rg cg vt gs := ⟨_, rfl⟩
 have HLpb : Hid (pb.length = cv * cg) := hid (by rw [hpb]; exact ntab_len _ _)
 have HEpb := hid hpb
 obtain ⟨Mw, hMw⟩ : ∃ M, M = cw * rw := ⟨_, rfl⟩
 obtain ⟨Ma, hMa⟩ : ∃ M, M = rg * rw := ⟨_, rfl⟩
 obtain ⟨Mv, hMv⟩ : ∃ M, M = cv * rv := ⟨_, rfl⟩
 obtain ⟨Mb, hMb⟩ : ∃ M, M = cv * cg := ⟨_, rfl⟩
 rw [← hMw] at HLwt; rw [← hMa] at HLpa; rw [← hMv] at HLvt; rw [← hMb] at HLpb
 have K1 : Hid (∀ W, Ext w W → Calls Tryz.prog 109 #[.agg #[.int .i64 rw, .int .i64 cw, .slice qw Nw kw]] W (RetTen W cw rw wt)) := hid (fun W hW => by rw [hwt]; exact transposed_any rw cw qw Nw kw uw ys W lw hNw l2 l4 f3 (f1.ext hW) f2)
 have K2 : Hid (∀ W (q : Option Addr) (k : Nat) (ts : List Value), Ext w W → Mw ≤ k → Cs W q ts → F32s ts wt → Calls Tryz.prog 108 #[.agg #[.int .i64 rg, .int .i64 cg, .slice qg Ng kg], .agg #[.int .i64 cw, .int .i64 rw, .slice q Mw k]] W (RetTen W rg rw pa)) := hid (fun W q k ts hW hk hc hf => by
  have h := matMul_any rg cg rw qg q Ng kg Mw k ug ts gs wt W lg hNg HLwt.out (by rw [hMw, hcg]) i2 i4 l2 h3 hk (h1.ext hW) h2 hc hf
  rw [hcg, hpa]; exact h)
 have K3 : Hid (∀ W, Ext w W → Calls Tryz.prog 109 #[.agg #[.int .i64 rv, .int .i64 cv, .slice qv Nv kv]] W (RetTen W cv rv vt)) := hid (fun W hW => by rw [hvt]; exact transposed_any rv cv qv Nv kv uv xs W lv hNv j2 j4 g3 (g1.ext hW) g2)
 have K4 : Hid (∀ W (q : Option Addr) (k : Nat) (ts : List Value), Ext w W → Mv ≤ k → Cs W q ts → F32s ts vt → Calls Tryz.prog 108 #[.agg #[.int .i64 cv, .int .i64 rv, .slice q Mv k], .agg #[.int .i64 rg, .int .i64 cg, .slice qg Ng kg]] W (RetTen W cv cg pb)) := hid (fun W q k ts hW hk hc hf => by
  have h := matMul_any cv rg cg q qg Mv k Ng kg ts ug vt gs W HLvt.out (by rw [hMv, hrg]) lg hNg j4 i2 i4 hk h3 hc hf (h1.ext hW) h2
  rw [hrg, hpb]; exact h)
 have HRG := hid hrg
 obtain ⟨W0, hW0⟩ : ∃ W0, W0 = (((((w.alloc (.cells #[.int .i64 6, .int .i64 a, .int .i64 b, .float .f32 zb, .int .i64 0, .int .i64 0, .slice qt 0 ct'] 79)).alloc (.cells #[.int .i64 rg, .int .i64 cg, .slice qg Ng kg] 37)).alloc (.cells #[.int .i64 rv, .int .i64 cv, .slice qv Nv kv] 37)).alloc (.cells #[.int .i64 rw, .int .i64 cw, .slice qw Nw kw] 37)).alloc (.cells #[.int .i64 0, .int .i64 0, .slice none 0 0] 37)).alloc (.cells #[.int .i64 0, .int .i64 0, .slice none 0 0] 37) := ⟨_, rfl⟩
 obtain ⟨W3, hW3⟩ : ∃ W3, W3 = ((w.alloc (.cells #[.int .i64 6, .int .i64 a, .int .i64 b, .float .f32 zb, .int .i64 0, .int .i64 0, .slice qt 0 ct'] 79)).alloc (.cells #[.int .i64 rg, .int .i64 cg, .slice qg Ng kg] 37)).alloc (.cells #[.int .i64 rv, .int .i64 cv, .slice qv Nv kv] 37) := ⟨_, rfl⟩
 obtain ⟨E3, s3, b0, b1, b2⟩ := box3 hW3
 have hW6 : W0 = ((W3.alloc (.cells #[.int .i64 rw, .int .i64 cw, .slice qw Nw kw] 37)).alloc (.cells #[.int .i64 0, .int .i64 0, .slice none 0 0] 37)).alloc (.cells #[.int .i64 0, .int .i64 0, .slice none 0 0] 37) := by rw [hW0, ← hW3]
 obtain ⟨E6, s6, b3, b4, b5⟩ := box3 hW6
 rw [s3] at b3 b4 b5
 have B0 : HB W0 w.heap.size #[.int .i64 6, .int .i64 a, .int .i64 b, .float .f32 zb, .int .i64 0, .int .i64 0, .slice qt 0 ct'] 79 := HB.ext b0 E6
 have B1 : HB W0 (w.heap.size + 1) #[.int .i64 rg, .int .i64 cg, .slice qg Ng kg] 37 := HB.ext b1 E6
 have B2 : HB W0 (w.heap.size + 1 + 1) #[.int .i64 rv, .int .i64 cv, .slice qv Nv kv] 37 := HB.ext b2 E6
 have B3 : HB W0 (w.heap.size + 1 + 1 + 1) #[.int .i64 rw, .int .i64 cw, .slice qw Nw kw] 37 := b3
 have B4 : HB W0 (w.heap.size + 1 + 1 + 1 + 1) #[.int .i64 0, .int .i64 0, .slice none 0 0] 37 := b4
 have B5 : HB W0 (w.heap.size + 1 + 1 + 1 + 1 + 1) #[.int .i64 0, .int .i64 0, .slice none 0 0] 37 := b5
 have E0 := E3.trans E6
 clear hW3 hW6 E3 E6 s3 s6 b0 b1 b2 b3 b4 b5
 have HZ := hid hz
 have HNg := hid hNg
 have HNv := hid hNv
 have HNw := hid hNw
 clear ho ht hpt hz hNg hNv hNw hwt hpa hvt hpb hMw hMa hMv hMb hcg hrg hs hs2
 go_enter Tryz.func87, Tryz.ntmps87
 have z0 := B0.cell 0 rfl
 go_wp2_with fail
 rw [← hW0]
 clear hW0 z0
 generalize hH5 : w.heap.size + 1 + 1 + 1 + 1 + 1 = H5 at *
 generalize hH4 : w.heap.size + 1 + 1 + 1 + 1 = H4 at *
 generalize hH3 : w.heap.size + 1 + 1 + 1 = H3 at *
 generalize hH2 : w.heap.size + 1 + 1 = H2 at *
 generalize hH1 : w.heap.size + 1 = H1 at *
 obtain ⟨H0, hH0⟩ : ∃ H, H = w.heap.size := ⟨_, rfl⟩
 rw [← hH0] at B0 ⊢
 have P0 : w.heap.size ≤ H0 := by omega
 have P1 : H0 < H1 := by omega
 have P2 : H1 < H2 := by omega
 have P3 : H2 < H3 := by omega
 have P4 : H3 < H4 := by omega
 have P5 : H4 < H5 := by omega
 clear hH0 hH1 hH2 hH3 hH4 hH5
 have eD := Ext.drew W0
 have B1 := B1.ext eD; have B2 := B2.ext eD; have B3 := B3.ext eD; have B4 := B4.ext eD; have B5 := B5.ext eD
 have E0 := E0.trans eD
 clear B0
 refine wp_region_T (n := 9) (S := fun W => HB W H1 #[.int .i64 rg, .int .i64 cg, .slice qg Ng kg] 37 ∧ HB W H2 #[.int .i64 rv, .int .i64 cv, .slice qv Nv kv] 37 ∧ HB W H3 #[.int .i64 rw, .int .i64 cw, .slice qw Nw kw] 37) (by kernel_rfl) rfl ?_
 clear eD
 generalize W0.drew = W0 at *
 have hS : HB W0 H1 #[.int .i64 rg, .int .i64 cg, .slice qg Ng kg] 37 ∧ HB W0 H2 #[.int .i64 rv, .int .i64 cv, .slice qv Nv kv] 37 ∧ HB W0 H3 #[.int .i64 rw, .int .i64 cw, .slice qw Nw kw] 37 := ⟨B1, B2, B3⟩
 refine hs_take (k := 0) (.agg #[.int .i64 rg, .int .i64 cg, .slice qg Ng kg]) (by kernel_rfl) rfl rfl (fun _ _ _ h => h) hS (fun W hW => by have y0 := (hW.1).cell 0 rfl; have y1 := (hW.1).cell 1 rfl; have y2 := (hW.1).cell 2 rfl; go_simp) ?_
 (try simp only [List.getElem_toArray, List.getElem_cons_succ, List.getElem_cons_zero])
 simp only [Act.put, ev_tmp, pu1, pu2, pu3, pu4, pu5]
 refine hs_take (k := 1) (.agg #[.int .i64 rw, .int .i64 cw, .slice qw Nw kw]) (by kernel_rfl) rfl rfl (fun _ _ _ h => h) hS (fun W hW => by have y0 := (hW.2.2).cell 0 rfl; have y1 := (hW.2.2).cell 1 rfl; have y2 := (hW.2.2).cell 2 rfl; go_simp) ?_
 (try simp only [List.getElem_toArray, List.getElem_cons_succ, List.getElem_cons_zero])
 simp only [Act.put, ev_tmp, pu1, pu2, pu3, pu4, pu5]
 refine hs_take (k := 4) (.agg #[.int .i64 rv, .int .i64 cv, .slice qv Nv kv]) (by kernel_rfl) rfl rfl (fun _ _ _ h => h) hS (fun W hW => by have y0 := (hW.2.1).cell 0 rfl; have y1 := (hW.2.1).cell 1 rfl; have y2 := (hW.2.1).cell 2 rfl; go_simp) ?_
 (try simp only [List.getElem_toArray, List.getElem_cons_succ, List.getElem_cons_zero])
 simp only [Act.put, ev_tmp, pu1, pu2, pu3, pu4, pu5]
 refine hs_take (k := 6) (.agg #[.int .i64 rg, .int .i64 cg, .slice qg Ng kg]) (by kernel_rfl) rfl rfl (fun _ _ _ h => h) hS (fun W hW => by have y0 := (hW.1).cell 0 rfl; have y1 := (hW.1).cell 1 rfl; have y2 := (hW.1).cell 2 rfl; go_simp) ?_
 (try simp only [List.getElem_toArray, List.getElem_cons_succ, List.getElem_cons_zero])
 simp only [Act.put, ev_tmp, pu1, pu2, pu3, pu4, pu5]
 refine hs_only (k := 2) (by kernel_rfl) ?_
 refine wpOp_call (f := 109) (args := #[.agg #[.int .i64 rw, .int .i64 cw, .slice qw Nw kw]]) rfl rfl rfl Tryz.func109 rfl (by kernel_rfl) (by simp [Act.eval]) (K1.out W0 E0) ?_
 rintro e w1 ⟨q0, k0, vs0, rfl, own0, hf0, eX⟩
 rw [HLwt.out] at own0 ⊢
 have hb0 : H5 < W0.heap.size := B5.lt
 have B4 := B4.ext eX; have B5 := B5.ext eX
 have E0 := E0.trans eX
 have hS := And.intro (hS.1.ext eX) (And.intro (hS.2.1.ext eX) (hS.2.2.ext eX))
 refine ⟨_, rfl, hS, ?_⟩
 clear eX
 (try simp only [List.getElem_toArray, List.getElem_cons_succ, List.getElem_cons_zero])
 simp only [Act.put, ev_tmp, pu1, pu2, pu3, pu4, pu5]
 refine hs_only (k := 3) (by kernel_rfl) ?_
 refine wpOp_call (f := 108) (args := #[.agg #[.int .i64 rg, .int .i64 cg, .slice qg Ng kg], .agg #[.int .i64 cw, .int .i64 rw, .slice q0 Mw k0]]) rfl rfl rfl Tryz.func108 rfl (by kernel_rfl) (by simp [Act.eval]) (K2.out w1 q0 k0 vs0 E0 (own_cap own0).1 (own_Cs own0) hf0) ?_
 rintro e w2 ⟨q1, k1, vs1, rfl, own1, hf1, eX⟩
 rw [HLpa.out] at own1 ⊢
 have own0 := own_ext own0 eX
 have hb1 : H5 < w1.heap.size := B5.lt
 have B4 := B4.ext eX; have B5 := B5.ext eX
 have E0 := E0.trans eX
 have hS := And.intro (hS.1.ext eX) (And.intro (hS.2.1.ext eX) (hS.2.2.ext eX))
 refine ⟨_, rfl, hS, ?_⟩
 clear eX
 (try simp only [List.getElem_toArray, List.getElem_cons_succ, List.getElem_cons_zero])
 simp only [Act.put, ev_tmp, pu1, pu2, pu3, pu4, pu5]
 refine hs_only (k := 5) (by kernel_rfl) ?_
 refine wpOp_call (f := 109) (args := #[.agg #[.int .i64 rv, .int .i64 cv, .slice qv Nv kv]]) rfl rfl rfl Tryz.func109 rfl (by kernel_rfl) (by simp [Act.eval]) (K3.out w2 E0) ?_
 rintro e w3 ⟨q2, k2, vs2, rfl, own2, hf2, eX⟩
 rw [HLvt.out] at own2 ⊢
 have own0 := own_ext own0 eX
 have own1 := own_ext own1 eX
 have hb2 : H5 < w2.heap.size := B5.lt
 have B4 := B4.ext eX; have B5 := B5.ext eX
 have E0 := E0.trans eX
 have hS := And.intro (hS.1.ext eX) (And.intro (hS.2.1.ext eX) (hS.2.2.ext eX))
 refine ⟨_, rfl, hS, ?_⟩
 clear eX
 (try simp only [List.getElem_toArray, List.getElem_cons_succ, List.getElem_cons_zero])
 simp only [Act.put, ev_tmp, pu1, pu2, pu3, pu4, pu5]
 refine hs_only (k := 7) (by kernel_rfl) ?_
 refine wpOp_call (f := 108) (args := #[.agg #[.int .i64 cv, .int .i64 rv, .slice q2 Mv k2], .agg #[.int .i64 rg, .int .i64 cg, .slice qg Ng kg]]) rfl rfl rfl Tryz.func108 rfl (by kernel_rfl) (by simp [Act.eval]) (K4.out w3 q2 k2 vs2 E0 (own_cap own2).1 (own_Cs own2) hf2) ?_
 rintro e w4 ⟨q3, k3, vs3, rfl, own3, hf3, eX⟩
 rw [HLpb.out] at own3 ⊢
 have own0 := own_ext own0 eX
 have own1 := own_ext own1 eX
 have own2 := own_ext own2 eX
 have hb3 : H5 < w3.heap.size := B5.lt
 have B4 := B4.ext eX; have B5 := B5.ext eX
 have E0 := E0.trans eX
 have hS := And.intro (hS.1.ext eX) (And.intro (hS.2.1.ext eX) (hS.2.2.ext eX))
 refine ⟨_, rfl, hS, ?_⟩
 clear eX
 (try simp only [List.getElem_toArray, List.getElem_cons_succ, List.getElem_cons_zero])
 simp only [Act.put, ev_tmp, pu1, pu2, pu3, pu4, pu5]
 refine hs_only (k := 8) (by kernel_rfl) ?_
 obtain ⟨V1, hr1, B4', ch1⟩ := run_st3 (y0 := .int .i64 rg) (y1 := .int .i64 rw) (y2 := .slice q1 Ma k1) B4 rfl rfl rfl
 refine wpOp_skip (w' := V1) rfl rfl (by simp [execOp, Act.eval, ofCs, Sh.agg, hr1]) ?_
 refine ⟨⟨hS.1.chg ch1 (fun h => by have h : H1 = H4 := h; omega), hS.2.1.chg ch1 (fun h => by have h : H2 = H4 := h; omega), hS.2.2.chg ch1 (fun h => by have h : H3 = H4 := h; omega)⟩, ?_⟩
 have B5' := B5.chg ch1 (fun h => by have h : H5 = H4 := h; omega)
 (try simp only [List.getElem_toArray, List.getElem_cons_succ, List.getElem_cons_zero])
 simp only [Act.put, ev_tmp, pu1, pu2, pu3, pu4, pu5]
 refine hs_last (k := 9) (by kernel_rfl) rfl ?_
 obtain ⟨V2, hr2, B5'', ch2⟩ := run_st3 (y0 := .int .i64 cv) (y1 := .int .i64 cg) (y2 := .slice q3 Mb k3) B5' rfl rfl rfl
 refine wl_skip rfl (w' := V2) (by simp [execOp, Act.eval, ofCs, Sh.agg, hr2]) ?_
 have B4'' := B4'.chg ch2 (fun h => by have h : H4 = H5 := h; omega)
 have EF : Ext w V2 := (E0.chg ch1 (fun k hk => by have hk : k = H4 := hk; omega)).chg ch2 (fun k hk => by have hk : k = H5 := hk; omega)
 have n0 := B4''.cell 0 rfl; have n1 := B4''.cell 1 rfl; have n2 := B4''.cell 2 rfl
 have n3 := B5''.cell 0 rfl; have n4 := B5''.cell 1 rfl; have n5 := B5''.cell 2 rfl
 have own0 := own_chgB (own_chgB own0 ch1 (fun k hk => by have hk : k = H4 := hk; omega)) ch2 (fun k hk => by have hk : k = H5 := hk; omega)
 have own1 := own_chgB (own_chgB own1 ch1 (fun k hk => by have hk : k = H4 := hk; omega)) ch2 (fun k hk => by have hk : k = H5 := hk; omega)
 have own2 := own_chgB (own_chgB own2 ch1 (fun k hk => by have hk : k = H4 := hk; omega)) ch2 (fun k hk => by have hk : k = H5 := hk; omega)
 have own3 := own_chgB (own_chgB own3 ch1 (fun k hk => by have hk : k = H4 := hk; omega)) ch2 (fun k hk => by have hk : k = H5 := hk; omega)
 have RA := hid (RepF.own (w := V2) (r := rg) (c := rw) HLpa.out own1 hf1)
 have RB := hid (RepF.own (w := V2) (r := cv) (c := cg) HLpb.out own3 hf3)
 clear hr1 hr2 B4 B5 B4' B5' B4'' B5'' ch1 ch2
 go_wp2
 refine bodyPost_ret (v := .tuple #[.agg #[.int .i64 rg, .int .i64 rw, .slice q1 Ma k1], .agg #[.int .i64 cv, .int .i64 cg, .slice q3 Mb k3]]) (by simp [results, Tryz.results87, go_sem, n0, n1, n2, n3, n4, n5]) rfl ?_
 exact PartsOut.of rfl RA.out RB.out (by simp only [partA, tMM, tTurn, tn, Int.toNat_natCast]; rw [HEpa.out, HEwt.out]) (by simp only [partB, tMM, tTurn, tn, Int.toNat_natCast]; rw [HEpb.out, HEvt.out, ← HRG.out]) (fun b hb => .inr (by have := own_fs own1 b hb; omega)) (fun b hb => .inr (by have := own_fs own3 b hb; omega)) EF
set_option maxRecDepth 100000 in
set_option maxHeartbeats 4000000 in
theorem parts_7 (fg : List Nat) (a b z : Nat) (oc : List Value) (cg' cv' cw' : List Value) (sg sv sw : Nat × Nat) (g v u : shTensor.T) (w : World) (hg : TenAtB fg w cg' sg g) (hv : TenAt w cv' sv v) (hw : TenAt w cw' sw u) (hsg : SideOk sg) (hsv : SideOk sv) (hsw : SideOk sw)  (ho : Rep w shOp oc (mkOp 7 a b z t0)) :
 Calls Tryz.prog 87 #[ofCs shOp oc, ofCs shTensor cg', ofCs shTensor cv', ofCs shTensor cw'] w (PartsOut fg w (partA 7 z g v u) (partB 7 g v u)) := by
 obtain ⟨zb, ct, rfl, hz, ht⟩ := mkOp_vals ho
 obtain ⟨qt, ct', ut, rfl, hpt, _⟩ := ten_vals ht
 obtain ⟨qg, kg, ug, gs, rfl, rfl, lg, h1B, h2, h3, h4⟩ := hg
 have h1 : Cs w qg ug := h1B w (fun _ => False) (fun _ _ h => h.elim) (Chg.refl _ _)
 obtain ⟨qv, kv, uv, xs, rfl, rfl, lv, g1, g2, g3, g4⟩ := hv
 obtain ⟨qw, kw, uw, ys, rfl, rfl, lw, f1, f2, f3, f4⟩ := hw
 obtain ⟨rg, cg⟩ := sg
 obtain ⟨rv, cv⟩ := sv
 obtain ⟨rw, cw⟩ := sw
 obtain ⟨i1, i2, i3, i4⟩ := hsg
 obtain ⟨j1, j2, j3, j4⟩ := hsv
 obtain ⟨l1, l2, l3, l4⟩ := hsw
 dsimp only at lg lv lw h3 g3 f3 i1 i2 i3 i4 j1 j2 j3 j4 l1 l2 l3 l4 ⊢
 obtain ⟨Ng, hNg⟩ : ∃ N, N = rg * cg := ⟨_, rfl⟩
 obtain ⟨Nv, hNv⟩ : ∃ N, N = rv * cv := ⟨_, rfl⟩
 obtain ⟨Nw, hNw⟩ : ∃ N, N = rw * cw := ⟨_, rfl⟩
 have hNg2 : Ng ≤ 256 := by rw [hNg]; exact Nat.mul_le_mul i2 i4
 have hNv2 : Nv ≤ 256 := by rw [hNv]; exact Nat.mul_le_mul j2 j4
 have hNw2 : Nw ≤ 256 := by rw [hNw]; exact Nat.mul_le_mul l2 l4
 have hNg1 : 1 ≤ Ng := by rw [hNg]; exact Nat.mul_le_mul i1 i3
 have hNw1 : 1 ≤ Nw := by rw [hNw]; exact Nat.mul_le_mul l1 l3
 rw [← hNg] at lg h3
 rw [← hNv] at lv g3
 rw [← hNw] at lw f3
 simp only [ofCs, Sh.agg, if_true, List.cons_append, List.nil_append, t0, List.length_nil, ← hNg, ← hNv, ← hNw]
 obtain ⟨pa, hpa⟩ : ∃ l, l = turnX rg cg gs := ⟨_, rfl⟩
 have HLpa : Hid (pa.length = cg * rg) := hid (by rw [hpa]; exact ntab_len _ _)
 have HEpa := hid hpa
 obtain ⟨Ma, hMa⟩ : ∃ M, M = cg * rg := ⟨_, rfl⟩
 rw [← hMa] at HLpa
 have K1 : Hid (∀ W, Ext w W → Calls Tryz.prog 109 #[.agg #[.int .i64 rg, .int .i64 cg, .slice qg Ng kg]] W (RetTen W cg rg pa)) := hid (fun W hW => by rw [hpa]; exact transposed_any rg cg qg Ng kg ug gs W lg hNg i2 i4 h3 (h1.ext hW) h2)
 obtain ⟨W0, hW0⟩ : ∃ W0, W0 = (((((w.alloc (.cells #[.int .i64 7, .int .i64 a, .int .i64 b, .float .f32 zb, .int .i64 0, .int .i64 0, .slice qt 0 ct'] 79)).alloc (.cells #[.int .i64 rg, .int .i64 cg, .slice qg Ng kg] 37)).alloc (.cells #[.int .i64 rv, .int .i64 cv, .slice qv Nv kv] 37)).alloc (.cells #[.int .i64 rw, .int .i64 cw, .slice qw Nw kw] 37)).alloc (.cells #[.int .i64 0, .int .i64 0, .slice none 0 0] 37)).alloc (.cells #[.int .i64 0, .int .i64 0, .slice none 0 0] 37) := ⟨_, rfl⟩
 obtain ⟨W3, hW3⟩ : ∃ W3, W3 = ((w.alloc (.cells #[.int .i64 7, .int .i64 a, .int .i64 b, .float .f32 zb, .int .i64 0, .int .i64 0, .slice qt 0 ct'] 79)).alloc (.cells #[.int .i64 rg, .int .i64 cg, .slice qg Ng kg] 37)).alloc (.cells #[.int .i64 rv, .int .i64 cv, .slice qv Nv kv] 37) := ⟨_, rfl⟩
 obtain ⟨E3, s3, b0, b1, b2⟩ := box3 hW3
 have hW6 : W0 = ((W3.alloc (.cells #[.int .i64 rw, .int .i64 cw, .slice qw Nw kw] 37)).alloc (.cells #[.int .i64 0, .int .i64 0, .slice none 0 0] 37)).alloc (.cells #[.int .i64 0, .int .i64 0, .slice none 0 0] 37) := by rw [hW0, ← hW3]
 obtain ⟨E6, s6, b3, b4, b5⟩ := box3 hW6
 rw [s3] at b3 b4 b5
 have B0 : HB W0 w.heap.size #[.int .i64 7, .int .i64 a, .int .i64 b, .float .f32 zb, .int .i64 0, .int .i64 0, .slice qt 0 ct'] 79 := HB.ext b0 E6
 have B1 : HB W0 (w.heap.size + 1) #[.int .i64 rg, .int .i64 cg, .slice qg Ng kg] 37 := HB.ext b1 E6
 have B2 : HB W0 (w.heap.size + 1 + 1) #[.int .i64 rv, .int .i64 cv, .slice qv Nv kv] 37 := HB.ext b2 E6
 have B3 : HB W0 (w.heap.size + 1 + 1 + 1) #[.int .i64 rw, .int .i64 cw, .slice qw Nw kw] 37 := b3
 have B4 : HB W0 (w.heap.size + 1 + 1 + 1 + 1) #[.int .i64 0, .int .i64 0, .slice none 0 0] 37 := b4
 have B5 : HB W0 (w.heap.size + 1 + 1 + 1 + 1 + 1) #[.int .i64 0, .int .i64 0, .slice none 0 0] 37 := b5
 have E0 := E3.trans E6
 clear hW3 hW6 E3 E6 s3 s6 b0 b1 b2 b3 b4 b5
 have HZ := hid hz
 have HNg := hid hNg
 have HNv := hid hNv
 have HNw := hid hNw
 clear ho ht hpt hz hNg hNv hNw hpa hMa
 go_enter Tryz.func87, Tryz.ntmps87
 go_wp2_with fail
 rw [← hW0]
 clear hW0
 generalize hH5 : w.heap.size + 1 + 1 + 1 + 1 + 1 = H5 at *
 generalize hH4 : w.heap.size + 1 + 1 + 1 + 1 = H4 at *
 generalize hH3 : w.heap.size + 1 + 1 + 1 = H3 at *
 generalize hH2 : w.heap.size + 1 + 1 = H2 at *
 generalize hH1 : w.heap.size + 1 = H1 at *
 obtain ⟨H0, hH0⟩ : ∃ H, H = w.heap.size := ⟨_, rfl⟩
 rw [← hH0] at B0 ⊢
 have P0 : w.heap.size ≤ H0 := by omega
 have P1 : H0 < H1 := by omega
 have P2 : H1 < H2 := by omega
 have P3 : H2 < H3 := by omega
 have P4 : H3 < H4 := by omega
 have P5 : H4 < H5 := by omega
 clear hH0 hH1 hH2 hH3 hH4 hH5
 refine (K1.out _ E0).mono ?_
 rintro e w1 ⟨q0, k0, vs0, rfl, own0, hf0, eX⟩
 rw [HLpa.out] at own0 ⊢
 have hb0 : H5 < W0.heap.size := B5.lt
 have B4 := B4.ext eX; have B5 := B5.ext eX
 have E0 := E0.trans eX
 clear eX
 go_wp2_with (first | ((with_reducible show wpList _ _ _ (Oper.mk _ (Op.store _ _ _) _ _ _ _ :: _) _ _); refine wl_st3 rfl rfl rfl rfl B4 rfl rfl rfl ?_; intro V1 B4' ch1; have B5' := B5.chg ch1 (fun h => by have h : H5 = H4 := h; omega)) | ((with_reducible show wpList _ _ _ (Oper.mk _ (Op.store _ _ _) _ _ _ _ :: _) _ _); refine wl_st3 rfl rfl rfl rfl B5' rfl rfl rfl ?_; intro V2 B5'' ch2))
 have B4'' := B4'.chg ch2 (fun h => by have h : H4 = H5 := h; omega)
 have EF : Ext w V2 := (E0.chg ch1 (fun k hk => by have hk : k = H4 := hk; omega)).chg ch2 (fun k hk => by have hk : k = H5 := hk; omega)
 have n0 := B4''.cell 0 rfl; have n1 := B4''.cell 1 rfl; have n2 := B4''.cell 2 rfl
 have n3 := B5''.cell 0 rfl; have n4 := B5''.cell 1 rfl; have n5 := B5''.cell 2 rfl
 have own0 := own_chgB (own_chgB own0 ch1 (fun k hk => by have hk : k = H4 := hk; omega)) ch2 (fun k hk => by have hk : k = H5 := hk; omega)
 have RA := hid (RepF.own (w := V2) (r := cg) (c := rg) HLpa.out own0 hf0)
 refine bodyPost_ret (v := .tuple #[.agg #[.int .i64 cg, .int .i64 rg, .slice q0 Ma k0], .agg #[.int .i64 0, .int .i64 0, .slice none 0 0]]) (by simp [results, Tryz.results87, go_sem, n0, n1, n2, n3, n4, n5]) rfl ?_
 exact PartsOut.of rfl RA.out (RepF.nil (w := V2)) (by simp only [partA, tTurn, tn, Int.toNat_natCast]; rw [HEpa.out]) rfl (fun b hb => .inr (by have := own_fs own0 b hb; omega)) (fun b hb => by simp at hb) EF
set_option maxRecDepth 100000 in
set_option maxHeartbeats 4000000 in
theorem parts_8 (fg : List Nat) (a b z : Nat) (oc : List Value) (cg' cv' cw' : List Value) (sg sv sw : Nat × Nat) (g v u : shTensor.T) (w : World) (hg : TenAtB fg w cg' sg g) (hv : TenAt w cv' sv v) (hw : TenAt w cw' sw u) (hsg : SideOk sg) (hsv : SideOk sv) (hsw : SideOk sw) (hs : sg = sv) (ho : Rep w shOp oc (mkOp 8 a b z t0)) :
 Calls Tryz.prog 87 #[ofCs shOp oc, ofCs shTensor cg', ofCs shTensor cv', ofCs shTensor cw'] w (PartsOut fg w (partA 8 z g v u) (partB 8 g v u)) := by
 obtain ⟨zb, ct, rfl, hz, ht⟩ := mkOp_vals ho
 obtain ⟨qt, ct', ut, rfl, hpt, _⟩ := ten_vals ht
 obtain ⟨qg, kg, ug, gs, rfl, rfl, lg, h1B, h2, h3, h4⟩ := hg
 have h1 : Cs w qg ug := h1B w (fun _ => False) (fun _ _ h => h.elim) (Chg.refl _ _)
 obtain ⟨qv, kv, uv, xs, rfl, rfl, lv, g1, g2, g3, g4⟩ := hv
 obtain ⟨qw, kw, uw, ys, rfl, rfl, lw, f1, f2, f3, f4⟩ := hw
 obtain ⟨rg, cg⟩ := sg
 obtain ⟨rv, cv⟩ := sv
 obtain ⟨rw, cw⟩ := sw
 obtain ⟨i1, i2, i3, i4⟩ := hsg
 obtain ⟨j1, j2, j3, j4⟩ := hsv
 obtain ⟨l1, l2, l3, l4⟩ := hsw
 dsimp only at lg lv lw h3 g3 f3 i1 i2 i3 i4 j1 j2 j3 j4 l1 l2 l3 l4 ⊢
 obtain ⟨Ng, hNg⟩ : ∃ N, N = rg * cg := ⟨_, rfl⟩
 obtain ⟨Nv, hNv⟩ : ∃ N, N = rv * cv := ⟨_, rfl⟩
 obtain ⟨Nw, hNw⟩ : ∃ N, N = rw * cw := ⟨_, rfl⟩
 have hNg2 : Ng ≤ 256 := by rw [hNg]; exact Nat.mul_le_mul i2 i4
 have hNv2 : Nv ≤ 256 := by rw [hNv]; exact Nat.mul_le_mul j2 j4
 have hNw2 : Nw ≤ 256 := by rw [hNw]; exact Nat.mul_le_mul l2 l4
 have hNg1 : 1 ≤ Ng := by rw [hNg]; exact Nat.mul_le_mul i1 i3
 have hNw1 : 1 ≤ Nw := by rw [hNw]; exact Nat.mul_le_mul l1 l3
 rw [← hNg] at lg h3
 rw [← hNv] at lv g3
 rw [← hNw] at lw f3
 simp only [ofCs, Sh.agg, if_true, List.cons_append, List.nil_append, t0, List.length_nil, ← hNg, ← hNv, ← hNw]
 have hgv : Nv ≤ Ng := by rw [hNg, hNv, show rg = rv from congrArg Prod.fst hs, show cg = cv from congrArg Prod.snd hs]; exact Nat.le_refl _
 obtain ⟨pa, hpa⟩ : ∃ l, l = rpX Nv xs gs := ⟨_, rfl⟩
 have HLpa : Hid (pa.length = Nv) := hid (by rw [hpa]; exact ntab_len _ _)
 have HEpa := hid hpa
 obtain ⟨W0, hW0⟩ : ∃ W0, W0 = (((((w.alloc (.cells #[.int .i64 8, .int .i64 a, .int .i64 b, .float .f32 zb, .int .i64 0, .int .i64 0, .slice qt 0 ct'] 79)).alloc (.cells #[.int .i64 rg, .int .i64 cg, .slice qg Ng kg] 37)).alloc (.cells #[.int .i64 rv, .int .i64 cv, .slice qv Nv kv] 37)).alloc (.cells #[.int .i64 rw, .int .i64 cw, .slice qw Nw kw] 37)).alloc (.cells #[.int .i64 0, .int .i64 0, .slice none 0 0] 37)).alloc (.cells #[.int .i64 0, .int .i64 0, .slice none 0 0] 37) := ⟨_, rfl⟩
 obtain ⟨W3, hW3⟩ : ∃ W3, W3 = ((w.alloc (.cells #[.int .i64 8, .int .i64 a, .int .i64 b, .float .f32 zb, .int .i64 0, .int .i64 0, .slice qt 0 ct'] 79)).alloc (.cells #[.int .i64 rg, .int .i64 cg, .slice qg Ng kg] 37)).alloc (.cells #[.int .i64 rv, .int .i64 cv, .slice qv Nv kv] 37) := ⟨_, rfl⟩
 obtain ⟨E3, s3, b0, b1, b2⟩ := box3 hW3
 have hW6 : W0 = ((W3.alloc (.cells #[.int .i64 rw, .int .i64 cw, .slice qw Nw kw] 37)).alloc (.cells #[.int .i64 0, .int .i64 0, .slice none 0 0] 37)).alloc (.cells #[.int .i64 0, .int .i64 0, .slice none 0 0] 37) := by rw [hW0, ← hW3]
 obtain ⟨E6, s6, b3, b4, b5⟩ := box3 hW6
 rw [s3] at b3 b4 b5
 have B0 : HB W0 w.heap.size #[.int .i64 8, .int .i64 a, .int .i64 b, .float .f32 zb, .int .i64 0, .int .i64 0, .slice qt 0 ct'] 79 := HB.ext b0 E6
 have B1 : HB W0 (w.heap.size + 1) #[.int .i64 rg, .int .i64 cg, .slice qg Ng kg] 37 := HB.ext b1 E6
 have B2 : HB W0 (w.heap.size + 1 + 1) #[.int .i64 rv, .int .i64 cv, .slice qv Nv kv] 37 := HB.ext b2 E6
 have B3 : HB W0 (w.heap.size + 1 + 1 + 1) #[.int .i64 rw, .int .i64 cw, .slice qw Nw kw] 37 := b3
 have B4 : HB W0 (w.heap.size + 1 + 1 + 1 + 1) #[.int .i64 0, .int .i64 0, .slice none 0 0] 37 := b4
 have B5 : HB W0 (w.heap.size + 1 + 1 + 1 + 1 + 1) #[.int .i64 0, .int .i64 0, .slice none 0 0] 37 := b5
 have E0 := E3.trans E6
 clear hW3 hW6 E3 E6 s3 s6 b0 b1 b2 b3 b4 b5
 have K1 : Hid (Calls Tryz.prog 112 #[.agg #[.int .i64 rv, .int .i64 cv, .slice qv Nv kv], .func (.func 116) #[] #[.pointer (some ⟨w.heap.size + 1, 0, none⟩)]] W0 (RetTen W0 rv cv pa)) := hid (by
  rw [hpa]
  exact mapped_any 116 #[.pointer (some ⟨w.heap.size + 1, 0, none⟩)] (enter_fn Tryz.func116 rfl (by kernel_rfl)) rv cv qv Nv kv uv xs (fun i => if fgt .f32 (xs.getD i 0) 0 then gs.getD i 0 else 0) W0 lv (by omega) (g1.ext E0) g2 (fun i b W hi hb hW => by
   have h := parts1_any i b (w.heap.size + 1) rg cg qg Ng kg ug gs _ W (B1.ext hW) lg (by omega) (h1.ext (E0.trans hW)) h2 (by omega) hb
   simpa using h))
 have HZ := hid hz
 have HNg := hid hNg
 have HNv := hid hNv
 have HNw := hid hNw
 clear ho ht hpt hz hNg hNv hNw hpa hs
 go_enter Tryz.func87, Tryz.ntmps87
 go_wp2_with fail
 rw [← hW0]
 clear hW0
 generalize hH5 : w.heap.size + 1 + 1 + 1 + 1 + 1 = H5 at *
 generalize hH4 : w.heap.size + 1 + 1 + 1 + 1 = H4 at *
 generalize hH3 : w.heap.size + 1 + 1 + 1 = H3 at *
 generalize hH2 : w.heap.size + 1 + 1 = H2 at *
 generalize hH1 : w.heap.size + 1 = H1 at *
 obtain ⟨H0, hH0⟩ : ∃ H, H = w.heap.size := ⟨_, rfl⟩
 rw [← hH0] at B0 ⊢
 have P0 : w.heap.size ≤ H0 := by omega
 have P1 : H0 < H1 := by omega
 have P2 : H1 < H2 := by omega
 have P3 : H2 < H3 := by omega
 have P4 : H3 < H4 := by omega
 have P5 : H4 < H5 := by omega
 clear hH0 hH1 hH2 hH3 hH4 hH5
 refine (K1.out).mono ?_
 rintro e w1 ⟨q0, k0, vs0, rfl, own0, hf0, eX⟩
 rw [HLpa.out] at own0 ⊢
 have hb0 : H5 < W0.heap.size := B5.lt
 have B4 := B4.ext eX; have B5 := B5.ext eX
 have E0 := E0.trans eX
 clear eX
 go_wp2_with (first | ((with_reducible show wpList _ _ _ (Oper.mk _ (Op.store _ _ _) _ _ _ _ :: _) _ _); refine wl_st3 rfl rfl rfl rfl B4 rfl rfl rfl ?_; intro V1 B4' ch1; have B5' := B5.chg ch1 (fun h => by have h : H5 = H4 := h; omega)) | ((with_reducible show wpList _ _ _ (Oper.mk _ (Op.store _ _ _) _ _ _ _ :: _) _ _); refine wl_st3 rfl rfl rfl rfl B5' rfl rfl rfl ?_; intro V2 B5'' ch2))
 have B4'' := B4'.chg ch2 (fun h => by have h : H4 = H5 := h; omega)
 have EF : Ext w V2 := (E0.chg ch1 (fun k hk => by have hk : k = H4 := hk; omega)).chg ch2 (fun k hk => by have hk : k = H5 := hk; omega)
 have n0 := B4''.cell 0 rfl; have n1 := B4''.cell 1 rfl; have n2 := B4''.cell 2 rfl
 have n3 := B5''.cell 0 rfl; have n4 := B5''.cell 1 rfl; have n5 := B5''.cell 2 rfl
 have own0 := own_chgB (own_chgB own0 ch1 (fun k hk => by have hk : k = H4 := hk; omega)) ch2 (fun k hk => by have hk : k = H5 := hk; omega)
 have RA := hid (RepF.own (w := V2) (r := rv) (c := cv) HLpa.out own0 hf0)
 refine bodyPost_ret (v := .tuple #[.agg #[.int .i64 rv, .int .i64 cv, .slice q0 Nv k0], .agg #[.int .i64 0, .int .i64 0, .slice none 0 0]]) (by simp [results, Tryz.results87, go_sem, n0, n1, n2, n3, n4, n5]) rfl ?_
 exact PartsOut.of rfl RA.out (RepF.nil (w := V2)) (by simp only [partA, tn, lv]; rw [HEpa.out]) rfl (fun b hb => .inr (by have := own_fs own0 b hb; omega)) (fun b hb => by simp at hb) EF
set_option maxRecDepth 100000 in
set_option maxHeartbeats 4000000 in
theorem parts_9 (fg : List Nat) (a b z : Nat) (oc : List Value) (cg' cv' cw' : List Value) (sg sv sw : Nat × Nat) (g v u : shTensor.T) (w : World) (hg : TenAtB fg w cg' sg g) (hv : TenAt w cv' sv v) (hw : TenAt w cw' sw u) (hsg : SideOk sg) (hsv : SideOk sv) (hsw : SideOk sw) (hs : sg = sv) (ho : Rep w shOp oc (mkOp 9 a b z t0)) :
 Calls Tryz.prog 87 #[ofCs shOp oc, ofCs shTensor cg', ofCs shTensor cv', ofCs shTensor cw'] w (PartsOut fg w (partA 9 z g v u) (partB 9 g v u)) := by
 obtain ⟨zb, ct, rfl, hz, ht⟩ := mkOp_vals ho
 obtain ⟨qt, ct', ut, rfl, hpt, _⟩ := ten_vals ht
 obtain ⟨qg, kg, ug, gs, rfl, rfl, lg, h1B, h2, h3, h4⟩ := hg
 have h1 : Cs w qg ug := h1B w (fun _ => False) (fun _ _ h => h.elim) (Chg.refl _ _)
 obtain ⟨qv, kv, uv, xs, rfl, rfl, lv, g1, g2, g3, g4⟩ := hv
 obtain ⟨qw, kw, uw, ys, rfl, rfl, lw, f1, f2, f3, f4⟩ := hw
 obtain ⟨rg, cg⟩ := sg
 obtain ⟨rv, cv⟩ := sv
 obtain ⟨rw, cw⟩ := sw
 obtain ⟨i1, i2, i3, i4⟩ := hsg
 obtain ⟨j1, j2, j3, j4⟩ := hsv
 obtain ⟨l1, l2, l3, l4⟩ := hsw
 dsimp only at lg lv lw h3 g3 f3 i1 i2 i3 i4 j1 j2 j3 j4 l1 l2 l3 l4 ⊢
 obtain ⟨Ng, hNg⟩ : ∃ N, N = rg * cg := ⟨_, rfl⟩
 obtain ⟨Nv, hNv⟩ : ∃ N, N = rv * cv := ⟨_, rfl⟩
 obtain ⟨Nw, hNw⟩ : ∃ N, N = rw * cw := ⟨_, rfl⟩
 have hNg2 : Ng ≤ 256 := by rw [hNg]; exact Nat.mul_le_mul i2 i4
 have hNv2 : Nv ≤ 256 := by rw [hNv]; exact Nat.mul_le_mul j2 j4
 have hNw2 : Nw ≤ 256 := by rw [hNw]; exact Nat.mul_le_mul l2 l4
 have hNg1 : 1 ≤ Ng := by rw [hNg]; exact Nat.mul_le_mul i1 i3
 have hNw1 : 1 ≤ Nw := by rw [hNw]; exact Nat.mul_le_mul l1 l3
 rw [← hNg] at lg h3
 rw [← hNv] at lv g3
 rw [← hNw] at lw f3
 simp only [ofCs, Sh.agg, if_true, List.cons_append, List.nil_append, t0, List.length_nil, ← hNg, ← hNv, ← hNw]
 have hgv : Ng ≤ Nv := by rw [hNg, hNv, show rg = rv from congrArg Prod.fst hs, show cg = cv from congrArg Prod.snd hs]; exact Nat.le_refl _
 obtain ⟨tw, htw⟩ : ∃ l, l = addX Nv xs xs := ⟨_, rfl⟩
 have HLtw : Hid (tw.length = Nv) := hid (by rw [htw]; exact ntab_len _ _)
 have HEtw := hid htw
 obtain ⟨pa, hpa⟩ : ∃ l, l = mulX Ng gs tw := ⟨_, rfl⟩
 have HLpa : Hid (pa.length = Ng) := hid (by rw [hpa]; exact ntab_len _ _)
 have HEpa := hid hpa
 have K1 : Hid (∀ W, Ext w W → Calls Tryz.prog 85 #[.agg #[.int .i64 rv, .int .i64 cv, .slice qv Nv kv], .agg #[.int .i64 rv, .int .i64 cv, .slice qv Nv kv]] W (RetTen W rv cv tw)) := hid (fun W hW => by rw [htw]; exact addTensors_any rv cv rv cv qv qv Nv Nv kv kv uv uv xs xs W lv (by omega) (g1.ext hW) g2 lv (by omega) (g1.ext hW) g2 (Nat.le_refl _))
 have K2 : Hid (∀ W (q : Option Addr) (k : Nat) (ts : List Value), Ext w W → Cs W q ts → F32s ts tw → Calls Tryz.prog 105 #[.agg #[.int .i64 rg, .int .i64 cg, .slice qg Ng kg], .agg #[.int .i64 rv, .int .i64 cv, .slice q Nv k]] W (RetTen W rg cg pa)) := hid (fun W q k ts hW hc hf => by rw [hpa]; exact mulTensors_any rg cg rv cv qg q Ng Nv kg k ug ts gs tw W lg (by omega) (h1.ext hW) h2 HLtw.out (by omega) hc hf hgv)
 obtain ⟨W0, hW0⟩ : ∃ W0, W0 = (((((w.alloc (.cells #[.int .i64 9, .int .i64 a, .int .i64 b, .float .f32 zb, .int .i64 0, .int .i64 0, .slice qt 0 ct'] 79)).alloc (.cells #[.int .i64 rg, .int .i64 cg, .slice qg Ng kg] 37)).alloc (.cells #[.int .i64 rv, .int .i64 cv, .slice qv Nv kv] 37)).alloc (.cells #[.int .i64 rw, .int .i64 cw, .slice qw Nw kw] 37)).alloc (.cells #[.int .i64 0, .int .i64 0, .slice none 0 0] 37)).alloc (.cells #[.int .i64 0, .int .i64 0, .slice none 0 0] 37) := ⟨_, rfl⟩
 obtain ⟨W3, hW3⟩ : ∃ W3, W3 = ((w.alloc (.cells #[.int .i64 9, .int .i64 a, .int .i64 b, .float .f32 zb, .int .i64 0, .int .i64 0, .slice qt 0 ct'] 79)).alloc (.cells #[.int .i64 rg, .int .i64 cg, .slice qg Ng kg] 37)).alloc (.cells #[.int .i64 rv, .int .i64 cv, .slice qv Nv kv] 37) := ⟨_, rfl⟩
 obtain ⟨E3, s3, b0, b1, b2⟩ := box3 hW3
 have hW6 : W0 = ((W3.alloc (.cells #[.int .i64 rw, .int .i64 cw, .slice qw Nw kw] 37)).alloc (.cells #[.int .i64 0, .int .i64 0, .slice none 0 0] 37)).alloc (.cells #[.int .i64 0, .int .i64 0, .slice none 0 0] 37) := by rw [hW0, ← hW3]
 obtain ⟨E6, s6, b3, b4, b5⟩ := box3 hW6
 rw [s3] at b3 b4 b5
 have B0 : HB W0 w.heap.size #[.int .i64 9, .int .i64 a, .int .i64 b, .float .f32 zb, .int .i64 0, .int .i64 0, .slice qt 0 ct'] 79 := HB.ext b0 E6
 have B1 : HB W0 (w.heap.size + 1) #[.int .i64 rg, .int .i64 cg, .slice qg Ng kg] 37 := HB.ext b1 E6
 have B2 : HB W0 (w.heap.size + 1 + 1) #[.int .i64 rv, .int .i64 cv, .slice qv Nv kv] 37 := HB.ext b2 E6
 have B3 : HB W0 (w.heap.size + 1 + 1 + 1) #[.int .i64 rw, .int .i64 cw, .slice qw Nw kw] 37 := b3
 have B4 : HB W0 (w.heap.size + 1 + 1 + 1 + 1) #[.int .i64 0, .int .i64 0, .slice none 0 0] 37 := b4
 have B5 : HB W0 (w.heap.size + 1 + 1 + 1 + 1 + 1) #[.int .i64 0, .int .i64 0, .slice none 0 0] 37 := b5
 have E0 := E3.trans E6
 clear hW3 hW6 E3 E6 s3 s6 b0 b1 b2 b3 b4 b5
 have HZ := hid hz
 have HNg := hid hNg
 have HNv := hid hNv
 have HNw := hid hNw
 clear ho ht hpt hz hNg hNv hNw htw hpa hs
 go_enter Tryz.func87, Tryz.ntmps87
 have z0 := B0.cell 0 rfl
 go_wp2_with fail
 rw [← hW0]
 clear hW0 z0
 generalize hH5 : w.heap.size + 1 + 1 + 1 + 1 + 1 = H5 at *
 generalize hH4 : w.heap.size + 1 + 1 + 1 + 1 = H4 at *
 generalize hH3 : w.heap.size + 1 + 1 + 1 = H3 at *
 generalize hH2 : w.heap.size + 1 + 1 = H2 at *
 generalize hH1 : w.heap.size + 1 = H1 at *
 obtain ⟨H0, hH0⟩ : ∃ H, H = w.heap.size := ⟨_, rfl⟩
 rw [← hH0] at B0 ⊢
 have P0 : w.heap.size ≤ H0 := by omega
 have P1 : H0 < H1 := by omega
 have P2 : H1 < H2 := by omega
 have P3 : H2 < H3 := by omega
 have P4 : H3 < H4 := by omega
 have P5 : H4 < H5 := by omega
 clear hH0 hH1 hH2 hH3 hH4 hH5
 have eD := Ext.drew W0
 have B1 := B1.ext eD; have B2 := B2.ext eD; have B3 := B3.ext eD; have B4 := B4.ext eD; have B5 := B5.ext eD
 have E0 := E0.trans eD
 clear B0
 refine wp_region_T (n := 7) (S := fun W => HB W H1 #[.int .i64 rg, .int .i64 cg, .slice qg Ng kg] 37 ∧ HB W H2 #[.int .i64 rv, .int .i64 cv, .slice qv Nv kv] 37 ∧ HB W H3 #[.int .i64 rw, .int .i64 cw, .slice qw Nw kw] 37) (by kernel_rfl) rfl ?_
 clear eD
 generalize W0.drew = W0 at *
 have hS : HB W0 H1 #[.int .i64 rg, .int .i64 cg, .slice qg Ng kg] 37 ∧ HB W0 H2 #[.int .i64 rv, .int .i64 cv, .slice qv Nv kv] 37 ∧ HB W0 H3 #[.int .i64 rw, .int .i64 cw, .slice qw Nw kw] 37 := ⟨B1, B2, B3⟩
 refine hs_take (k := 0) (.agg #[.int .i64 rg, .int .i64 cg, .slice qg Ng kg]) (by kernel_rfl) rfl rfl (fun _ _ _ h => h) hS (fun W hW => by have y0 := (hW.1).cell 0 rfl; have y1 := (hW.1).cell 1 rfl; have y2 := (hW.1).cell 2 rfl; go_simp) ?_
 (try simp only [List.getElem_toArray, List.getElem_cons_succ, List.getElem_cons_zero])
 simp only [Act.put, ev_tmp, pu1, pu2, pu3, pu4, pu5]
 refine hs_take (k := 1) (.agg #[.int .i64 rv, .int .i64 cv, .slice qv Nv kv]) (by kernel_rfl) rfl rfl (fun _ _ _ h => h) hS (fun W hW => by have y0 := (hW.2.1).cell 0 rfl; have y1 := (hW.2.1).cell 1 rfl; have y2 := (hW.2.1).cell 2 rfl; go_simp) ?_
 (try simp only [List.getElem_toArray, List.getElem_cons_succ, List.getElem_cons_zero])
 simp only [Act.put, ev_tmp, pu1, pu2, pu3, pu4, pu5]
 refine hs_take (k := 2) (.agg #[.int .i64 rv, .int .i64 cv, .slice qv Nv kv]) (by kernel_rfl) rfl rfl (fun _ _ _ h => h) hS (fun W hW => by have y0 := (hW.2.1).cell 0 rfl; have y1 := (hW.2.1).cell 1 rfl; have y2 := (hW.2.1).cell 2 rfl; go_simp) ?_
 (try simp only [List.getElem_toArray, List.getElem_cons_succ, List.getElem_cons_zero])
 simp only [Act.put, ev_tmp, pu1, pu2, pu3, pu4, pu5]
 refine hs_take (k := 5) (.agg #[.int .i64 0, .int .i64 0, .slice none 0 0]) (by kernel_rfl) rfl rfl (fun _ _ _ h => h) hS (fun W hW => by go_simp) ?_
 (try simp only [List.getElem_toArray, List.getElem_cons_succ, List.getElem_cons_zero])
 simp only [Act.put, ev_tmp, pu1, pu2, pu3, pu4, pu5]
 refine hs_only (k := 3) (by kernel_rfl) ?_
 refine wpOp_call (f := 85) (args := #[.agg #[.int .i64 rv, .int .i64 cv, .slice qv Nv kv], .agg #[.int .i64 rv, .int .i64 cv, .slice qv Nv kv]]) rfl rfl rfl Tryz.func85 rfl (by kernel_rfl) (by simp [Act.eval]) (K1.out W0 E0) ?_
 rintro e w1 ⟨q0, k0, vs0, rfl, own0, hf0, eX⟩
 rw [HLtw.out] at own0 ⊢
 have hb0 : H5 < W0.heap.size := B5.lt
 have B4 := B4.ext eX; have B5 := B5.ext eX
 have E0 := E0.trans eX
 have hS := And.intro (hS.1.ext eX) (And.intro (hS.2.1.ext eX) (hS.2.2.ext eX))
 refine ⟨_, rfl, hS, ?_⟩
 clear eX
 (try simp only [List.getElem_toArray, List.getElem_cons_succ, List.getElem_cons_zero])
 simp only [Act.put, ev_tmp, pu1, pu2, pu3, pu4, pu5]
 refine hs_only (k := 4) (by kernel_rfl) ?_
 refine wpOp_call (f := 105) (args := #[.agg #[.int .i64 rg, .int .i64 cg, .slice qg Ng kg], .agg #[.int .i64 rv, .int .i64 cv, .slice q0 Nv k0]]) rfl rfl rfl Tryz.func105 rfl (by kernel_rfl) (by simp [Act.eval]) (K2.out w1 q0 k0 vs0 E0 (own_Cs own0) hf0) ?_
 rintro e w2 ⟨q1, k1, vs1, rfl, own1, hf1, eX⟩
 rw [HLpa.out] at own1 ⊢
 have own0 := own_ext own0 eX
 have hb1 : H5 < w1.heap.size := B5.lt
 have B4 := B4.ext eX; have B5 := B5.ext eX
 have E0 := E0.trans eX
 have hS := And.intro (hS.1.ext eX) (And.intro (hS.2.1.ext eX) (hS.2.2.ext eX))
 refine ⟨_, rfl, hS, ?_⟩
 clear eX
 (try simp only [List.getElem_toArray, List.getElem_cons_succ, List.getElem_cons_zero])
 simp only [Act.put, ev_tmp, pu1, pu2, pu3, pu4, pu5]
 refine hs_only (k := 6) (by kernel_rfl) ?_
 obtain ⟨V1, hr1, B4', ch1⟩ := run_st3 (y0 := .int .i64 rg) (y1 := .int .i64 cg) (y2 := .slice q1 Ng k1) B4 rfl rfl rfl
 refine wpOp_skip (w' := V1) rfl rfl (by simp [execOp, Act.eval, ofCs, Sh.agg, hr1]) ?_
 refine ⟨⟨hS.1.chg ch1 (fun h => by have h : H1 = H4 := h; omega), hS.2.1.chg ch1 (fun h => by have h : H2 = H4 := h; omega), hS.2.2.chg ch1 (fun h => by have h : H3 = H4 := h; omega)⟩, ?_⟩
 have B5' := B5.chg ch1 (fun h => by have h : H5 = H4 := h; omega)
 (try simp only [List.getElem_toArray, List.getElem_cons_succ, List.getElem_cons_zero])
 simp only [Act.put, ev_tmp, pu1, pu2, pu3, pu4, pu5]
 refine hs_last (k := 7) (by kernel_rfl) rfl ?_
 obtain ⟨V2, hr2, B5'', ch2⟩ := run_st3 (y0 := .int .i64 0) (y1 := .int .i64 0) (y2 := .slice none 0 0) B5' rfl rfl rfl
 refine wl_skip rfl (w' := V2) (by simp [execOp, Act.eval, ofCs, Sh.agg, hr2]) ?_
 have B4'' := B4'.chg ch2 (fun h => by have h : H4 = H5 := h; omega)
 have EF : Ext w V2 := (E0.chg ch1 (fun k hk => by have hk : k = H4 := hk; omega)).chg ch2 (fun k hk => by have hk : k = H5 := hk; omega)
 have n0 := B4''.cell 0 rfl; have n1 := B4''.cell 1 rfl; have n2 := B4''.cell 2 rfl
 have n3 := B5''.cell 0 rfl; have n4 := B5''.cell 1 rfl; have n5 := B5''.cell 2 rfl
 have own0 := own_chgB (own_chgB own0 ch1 (fun k hk => by have hk : k = H4 := hk; omega)) ch2 (fun k hk => by have hk : k = H5 := hk; omega)
 have own1 := own_chgB (own_chgB own1 ch1 (fun k hk => by have hk : k = H4 := hk; omega)) ch2 (fun k hk => by have hk : k = H5 := hk; omega)
 have RA := hid (RepF.own (w := V2) (r := rg) (c := cg) HLpa.out own1 hf1)
 have RB := hid (RepF.nil (w := V2))
 clear hr1 hr2 B4 B5 B4' B5' B4'' B5'' ch1 ch2
 go_wp2
 refine bodyPost_ret (v := .tuple #[.agg #[.int .i64 rg, .int .i64 cg, .slice q1 Ng k1], .agg #[.int .i64 0, .int .i64 0, .slice none 0 0]]) (by simp [results, Tryz.results87, go_sem, n0, n1, n2, n3, n4, n5]) rfl ?_
 exact PartsOut.of rfl RA.out RB.out (by simp only [partA, tMul, tAdd, tn, lg, lv]; rw [HEpa.out, HEtw.out]) (rfl) (fun b hb => .inr (by have := own_fs own1 b hb; omega)) (fun b hb => by simp at hb) EF
end Go.Proofs.YtlimabbeaimdgaaGreat
