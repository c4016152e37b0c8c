/- A part of the proofs: TnI8, TnI9. -/
import Derived.Test.YtlimabbeaimdgaaGreatZ11Evalua
set_option linter.unusedSimpArgs false
set_option linter.unusedVariables false
namespace Go.Proofs.YtlimabbeaimdgaaGreat
open Go.RowKit
instance slTens : SlTy Tryz.prog 110 37 3 (.agg #[.int .i64 0, .int .i64 0, .slice none 0 0]) 40 := ⟨by kernel_rfl, by kernel_rfl, by kernel_rfl, by decide, by decide⟩
instance szTens : SlTy Tryz.prog 110 37 (Sh.sz shTensor) (.agg #[.int .i64 0, .int .i64 0, .slice none 0 0]) 40 := slTens
instance elOp : ElTy Tryz.prog 79 shOp := ⟨by kernel_rfl, by kernel_rfl⟩
instance slOp : SlTy Tryz.prog 70 79 7 (.agg #[.int .i64 0, .int .i64 0, .int .i64 0, .float .f32 0, .int .i64 0, .int .i64 0, .slice none 0 0]) 72 := ⟨by kernel_rfl, by kernel_rfl, by kernel_rfl, by decide, by decide⟩
instance szOp : SlTy Tryz.prog 70 79 (Sh.sz shOp) (.agg #[.int .i64 0, .int .i64 0, .int .i64 0, .float .f32 0, .int .i64 0, .int .i64 0, .slice none 0 0]) 72 := slOp
structure Tens (w : World) (p : Option Addr) (n : Nat) (css : List (List Value)) (vs : List shTensor.T) : Prop where
 cs : Cs w p css.flatten
 all : All2 (Rep w shTensor) css vs
 cnt : css.length = n
theorem Tens.ext {w w' : World} {p : Option Addr} {n : Nat} {css : List (List Value)} {vs : List shTensor.T} (h : Tens w p n css vs) (e : Ext w w') : Tens w' p n css vs :=
 ⟨h.cs.ext e, h.all.imp fun _ _ => Rep.ext e, h.cnt⟩
theorem Tens.len {w : World} {p : Option Addr} {n : Nat} {css : List (List Value)} {vs : List shTensor.T} (h : Tens w p n css vs) : vs.length = n := by rw [← h.cnt]; exact h.all.length.symm
theorem Tens.size {w : World} {p : Option Addr} {n : Nat} {css : List (List Value)} {vs : List shTensor.T} (h : Tens w p n css vs) : ∀ c ∈ css, c.length = shTensor.sz := by
 intro c hc
 obtain ⟨i, hi, rfl⟩ := List.mem_iff_getElem.1 hc
 have hv : i < vs.length := by rw [h.len, ← h.cnt]; exact hi
 obtain ⟨_, hr⟩ := h.all.get' i hv
 exact hr.size
def TenAt (w : World) (cs : List Value) (s : Nat × Nat) (d : shTensor.T) : Prop := ∃ (q : Option Addr) (c : Nat) (us : List Value) (xs : List Nat), cs = [.int .i64 s.1, .int .i64 s.2, .slice q (s.1 * s.2) c] ∧ d = tn s.1 s.2 xs ∧ xs.length = s.1 * s.2 ∧ Cs w q us ∧ F32s us xs ∧ s.1 * s.2 ≤ c ∧ c ≤ maxLen
theorem tenAt_of {w : World} {cs : List Value} {s : Nat × Nat} {d : shTensor.T} (h : Rep w shTensor cs d) (hs : Shaped s d) : TenAt w cs s d := by
 obtain ⟨xs, rfl, l⟩ := hs
 obtain ⟨p, c, us, h1, h2, h3, h4, h5⟩ := ten_vals h
 simp only [tn] at h1 h3 h4
 rw [l] at h1 h4
 exact ⟨p, c, us, xs, h1, rfl, l, h2, h3, h4, h5⟩
theorem Tens.at' {w : World} {p : Option Addr} {n : Nat} {css : List (List Value)} {vs : List shTensor.T} (h : Tens w p n css vs) {sh : Nat → Nat × Nat} (hs : ∀ j, j < n → Shaped (sh j) (vs.getD j t0)) {j : Nat} (hj : j < n) : ∃ cs, css[j]? = some cs ∧ TenAt w cs (sh j) (vs.getD j t0) := by
 have hv : j < vs.length := by rw [h.len]; exact hj
 obtain ⟨h1, hr⟩ := h.all.get' j hv
 refine ⟨css[j], by simp, ?_⟩
 have h2 := hs j hj
 rw [show vs.getD j t0 = vs[j] by simp [hv]] at h2 ⊢
 exact tenAt_of hr h2
theorem mkOp_vals {w : World} {cs : List Value} {k a b z : Nat} {t : shTensor.T} (h : Rep w shOp cs (mkOp k a b z t)) : ∃ (zb : Nat) (ct : List Value), cs = [.int .i64 k, .int .i64 a, .int .i64 b, .float .f32 zb] ++ ct ∧ cn .f32 zb = z ∧ Rep w shTensor ct t := by
 obtain ⟨_, _, rfl, rfl, _, _, rfl, rfl, _, _, rfl, rfl, _, _, rfl, ⟨zb, rfl, hz⟩, ct, _, rfl, ht, rfl⟩ := h
 exact ⟨zb, ct, by simp [mkOp], hz, ht⟩
theorem run_st3 {w : World} {b : Nat} {x0 x1 x2 y0 y1 y2 : Value} (h : HB w b #[x0, x1, x2] 37) (h0 : y0.oneCell' = true) (h1 : y1.oneCell' = true) (h2 : y2.oneCell' = true) :
 ∃ w', (Instr.storeAt 37 (.pointer (some ⟨b, 0, none⟩)) (.agg #[y0, y1, y2])).run Tryz.prog w = .ok () w' ∧ HB w' b #[y0, y1, y2] 37 ∧ Chg (fun k => k = b) w w' := by
 have hb' : w.heap[b]? = some (.cells #[x0, x1, x2] 37 (0, 0)) := h
 have hst := run_storeCells_at Tryz.prog b 0 37 [y0, y1, y2] 0 #[x0, x1, x2] w hb' (by simp) (by intro v hv; simp at hv; rcases hv with rfl | rfl | rfl <;> assumption)
 obtain ⟨i, hi, hz⟩ := Option.map_eq_some_iff.1 (ElTy.inf (P := Tryz.prog) (t := 37) (s := shTensor))
 have hcells : (Value.agg #[y0, y1, y2]).cells = #[y0, y1, y2] := rfl
 refine ⟨_, ?_, setRow_heap w b #[x0, x1, x2] _ 37 (0, 0) hb', ⟨rfl, rfl, rfl, by simp, fun j hj hn' => setRow_other w b j _ hn'⟩⟩
 simp [Instr.storeAt, Instr.sureAddr, storeVar, sizeOf, typeInfo, hi, hz, hcells]
 rw [if_pos (show 3 = shTensor.sz from rfl), hst]; rfl
set_option maxRecDepth 100000 in
set_option maxHeartbeats 4000000 in
theorem value_inp (r c : Nat) (xs : List Nat) (oc : List Value) (p : Option Addr) (n cp : Nat) (w : World) (hl : xs.length = r * c) (hr : r ≤ 16) (hc : c ≤ 16) (ho : Rep w shOp oc (mkOp 0 0 0 0 (tn r c xs))) :
 Calls Tryz.prog 83 #[ofCs shOp oc, .slice p n cp] w (RetTen w r c xs) := by
 obtain ⟨zb, ct, rfl, hz, ht⟩ := mkOp_vals ho
 obtain ⟨q, cq, us, xs', rfl, e1, l1, h1, h2, h3, h4⟩ := tenAt_of (s := (r, c)) ht ⟨xs, rfl, hl⟩
 simp only [tn, Prod.mk.injEq, true_and, and_true] at e1
 subst e1
 obtain ⟨N, hN⟩ : ∃ N, N = r * c := ⟨_, rfl⟩
 have hN2 : N ≤ 256 := by rw [hN]; exact Nat.mul_le_mul hr hc
 simp only [← hN] at l1 h3 ⊢
 simp only [ofCs, Sh.agg, if_true, List.cons_append, List.nil_append]
 obtain ⟨W0, hW0⟩ : ∃ W0, W0 = (w.alloc (.cells #[.int .i64 0, .int .i64 0, .int .i64 0, .float .f32 zb, .int .i64 r, .int .i64 c, .slice q N cq] 79)).alloc (.cells #[.int .i64 0, .int .i64 0, .slice none 0 0] 37) := ⟨_, rfl⟩
 obtain ⟨E0, s0, b0, b1⟩ := box2 hW0
 have b1 : HB W0 (w.heap.size + 1) #[.int .i64 0, .int .i64 0, .slice none 0 0] 37 := b1
 have K := hid (copyTensor_any r c q N cq us xs W0 l1 (by omega) h3 (h1.ext E0) h2)
 have L1 := hid l1
 clear hN ho ht h1 h2 h3 h4 hl l1
 go_enter Tryz.func83, Tryz.ntmps83
 go_wp2_with fail
 rw [← hW0]
 clear hW0
 refine K.out.mono ?_
 rintro e w1 ⟨q', k, ws, rfl, own, hf3, e1⟩
 rw [L1.out] at own ⊢
 have d1 := b1.ext e1
 have n0 := d1.cell 0 rfl; have n1 := d1.cell 1 rfl; have n2 := d1.cell 2 rfl
 have m0 := d1.froz 0; have m1 := d1.froz 1; have m2 := d1.froz 2
 go_wp2
 refine bodyPost_ret (v := .agg #[.int .i64 r, .int .i64 c, .slice q' N k]) (by simp [results, Tryz.results83, go_sem, n0, n1, n2, m0, m1, m2]) rfl ?_
 exact RetTen.of L1.out (own_base (own_chgB (S := fun k => k = w.heap.size + 1) own (by (repeat (first | with_reducible exact Chg.refl _ _ | (with_reducible exact Chg.of_ext (by with_reducible assumption)) | with_reducible assumption | ((with_reducible refine Chg.setCell ?_ ?_ _); rotate_left; focus (first | (simp; done) | (simp; omega))) | (with_reducible refine Chg.alloc ?_ _) | (with_reducible refine Chg.drew ?_) | (with_reducible refine Chg.trans ?_ (Chg.of_ext (by with_reducible assumption)))))) (fun k hk => by omega)) (by omega)) hf3 rfl (Ext.chg (S := fun k => k = w.heap.size + 1) (E0.trans e1) (by (repeat (first | with_reducible exact Chg.refl _ _ | (with_reducible exact Chg.of_ext (by with_reducible assumption)) | with_reducible assumption | ((with_reducible refine Chg.setCell ?_ ?_ _); rotate_left; focus (first | (simp; done) | (simp; omega))) | (with_reducible refine Chg.alloc ?_ _) | (with_reducible refine Chg.drew ?_) | (with_reducible refine Chg.trans ?_ (Chg.of_ext (by with_reducible assumption)))))) (fun k hk => by omega))
set_option maxRecDepth 100000 in
set_option maxHeartbeats 4000000 in
theorem value_1 (a b z : Nat) (oc : List Value) (p : Option Addr) (n cp : Nat) (css : List (List Value)) (vs : List shTensor.T) (ca cb : List Value) (sa sb : Nat × Nat) (va vb : shTensor.T) (w : World) (T : Tens w p n css vs) (han : a < n) (hbn : b < n) (hca : css[a]? = some ca) (hcb : css[b]? = some cb) (hva : TenAt w ca sa va) (hvb : TenAt w cb sb vb) (hsa : SideOk sa) (hsb : SideOk sb) (hs : sb = sa) (ho : Rep w shOp oc (mkOp 1 a b z t0)) :
 Calls Tryz.prog 83 #[ofCs shOp oc, .slice p n cp] w (RetTen w (opV 1 z va vb).1 (opV 1 z va vb).2.1 (opV 1 z va vb).2.2.1) := by
 obtain ⟨zb, ct, rfl, hz, ht⟩ := mkOp_vals ho
 obtain ⟨qt, ct', ut, rfl, hpt, _⟩ := ten_vals ht
 obtain ⟨qa, ka, ua, xs, rfl, rfl, la, h1, h2, h3, h4⟩ := hva
 obtain ⟨qb, kb, ub, ys, rfl, rfl, lb, g1, g2, g3, g4⟩ := hvb
 obtain ⟨ra, cca⟩ := sa
 obtain ⟨rb, ccb⟩ := sb
 obtain ⟨i1, i2, i3, i4⟩ := hsa
 obtain ⟨j1, j2, j3, j4⟩ := hsb
 dsimp only at la lb h3 h4 g3 g4 i1 i2 i3 i4 j1 j2 j3 j4 hca hcb ⊢
 obtain ⟨Na, hNa⟩ : ∃ N, N = ra * cca := ⟨_, rfl⟩
 obtain ⟨Nb, hNb⟩ : ∃ N, N = rb * ccb := ⟨_, rfl⟩
 have hNa2 : Na ≤ 256 := by rw [hNa]; exact Nat.mul_le_mul i2 i4
 have hNb2 : Nb ≤ 256 := by rw [hNb]; exact Nat.mul_le_mul j2 j4
 rw [← hNa] at la h3 hca
 rw [← hNb] at lb g3 hcb
 simp only [ofCs, Sh.agg, if_true, List.cons_append, List.nil_append, t0, List.length_nil]
 obtain ⟨W0, hW0⟩ : ∃ W0, W0 = (w.alloc (.cells #[.int .i64 1, .int .i64 a, .int .i64 b, .float .f32 zb, .int .i64 0, .int .i64 0, .slice qt 0 ct'] 79)).alloc (.cells #[.int .i64 0, .int .i64 0, .slice none 0 0] 37) := ⟨_, rfl⟩
 obtain ⟨E0, s0, b0, b1⟩ := box2 hW0
 have b0 : HB W0 w.heap.size #[.int .i64 1, .int .i64 a, .int .i64 b, .float .f32 zb, .int .i64 0, .int .i64 0, .slice qt 0 ct'] 79 := b0
 have b1 : HB W0 (w.heap.size + 1) #[.int .i64 0, .int .i64 0, .slice none 0 0] 37 := b1
 have hps : p.isSome = true := T.cs.some_of (s := 3) (i := a) T.size (by decide) (by have := T.cnt; omega)
 have hnm : Na ≤ Nb := by rw [hNa, hNb, show rb = ra from congrArg Prod.fst hs, show ccb = cca from congrArg Prod.snd hs]; exact Nat.le_refl _
 have K := hid (fun W (hW : Ext W0 W) => addTensors_any ra cca rb ccb qa qb Na Nb ka kb ua ub xs ys W la (by omega) (h1.ext (E0.trans hW)) h2 lb (by omega) (g1.ext (E0.trans hW)) g2 hnm)
 have HX : Hid ((addX Na xs ys).length = Na) := ntab_len _ _
 have HV : Hid ((opV 1 z (tn ra cca xs) (tn rb ccb ys)) = ((ra : Int), (cca : Int), addX Na xs ys, ())) := hid (by simp only [opV]; simp only [tn, la]; (try rfl))
 rw [HV.out]
 generalize addX Na xs ys = res at *
 have KT := hid T
 have HCA := hid hca
 have HCB := hid hcb
 have HZ := hid hz
 have HNa := hid hNa
 have HNb := hid hNb
 clear ho ht hpt T hca hcb hz hNa hNb h1 h2 h3 h4 g1 g2 g3 g4 HV hs
 go_enter Tryz.func83, Tryz.ntmps83
 go_wp2_with fail
 rw [← hW0]
 clear hW0
 have eD := Ext.drew W0
 have TD := KT.out.ext (E0.trans eD)
 have c0 := b0.ext eD
 have hsd := eD.size
 refine wp_region_T (n := 13) (S := fun W => Ext W0.drew W) (by kernel_rfl) rfl ?_
 have hS0 : Ext W0.drew W0.drew := Ext.refl _
 refine hs_take (k := 0) (.slice p n cp) (by kernel_rfl) rfl rfl (fun _ _ _ h => h) hS0 (fun W hW => by go_simp) ?_
 simp only [Act.put, ev_tmp, pu1, pu2, pu3, pu4, pu5]
 refine hs_take (k := 1) (.pointer (some ⟨w.heap.size, 1, none⟩)) (by kernel_rfl) rfl rfl (fun _ _ _ h => h) hS0 (fun W hW => by go_simp) ?_
 simp only [Act.put, ev_tmp, pu1, pu2, pu3, pu4, pu5]
 refine hs_take (k := 2) (.int .i64 (a : Int)) (by kernel_rfl) rfl rfl (fun _ _ _ h => h) hS0 (fun W hW => by have y := (c0.ext hW).cell 1 rfl; go_simp) ?_
 simp only [Act.put, ev_tmp, pu1, pu2, pu3, pu4, pu5]
 refine hs_idx (k := 3) (p := p) (m := n) (c := cp) (kk := .i64) (j := a) (i := (a : Int)) (by kernel_rfl) rfl rfl (fun _ _ _ h => h) hS0 rfl (by simp [Act.eval]) (by simp [Act.eval]) rfl hps han ?_
 simp only [Act.put, ev_tmp, pu1, pu2, pu3, pu4, pu5]
 refine hs_ldE (k := 4) (q := adr p (a * shTensor.sz)) (s := shTensor) (cs := [.int .i64 ra, .int .i64 cca, .slice qa Na ka]) (by kernel_rfl) rfl rfl (fun _ _ _ h => h) hS0 rfl (by simp [Act.eval]) rfl (fun W hW => by have h := (TD.ext hW).cs.elem TD.size (i := a) (by rw [TD.cnt]; exact han); have h' := HCA.out; rw [List.getElem?_eq_getElem (by rw [TD.cnt]; exact han)] at h'; simp only [Option.some.injEq] at h'; rw [h'] at h; exact h) ?_
 simp only [Act.put, ev_tmp, pu1, pu2, pu3, pu4, pu5]
 refine hs_take (k := 5) (.slice p n cp) (by kernel_rfl) rfl rfl (fun _ _ _ h => h) hS0 (fun W hW => by go_simp) ?_
 simp only [Act.put, ev_tmp, pu1, pu2, pu3, pu4, pu5]
 refine hs_take (k := 6) (.pointer (some ⟨w.heap.size, 2, none⟩)) (by kernel_rfl) rfl rfl (fun _ _ _ h => h) hS0 (fun W hW => by go_simp) ?_
 simp only [Act.put, ev_tmp, pu1, pu2, pu3, pu4, pu5]
 refine hs_take (k := 7) (.int .i64 (b : Int)) (by kernel_rfl) rfl rfl (fun _ _ _ h => h) hS0 (fun W hW => by have y := (c0.ext hW).cell 2 rfl; go_simp) ?_
 simp only [Act.put, ev_tmp, pu1, pu2, pu3, pu4, pu5]
 refine hs_idx (k := 8) (p := p) (m := n) (c := cp) (kk := .i64) (j := b) (i := (b : Int)) (by kernel_rfl) rfl rfl (fun _ _ _ h => h) hS0 rfl (by simp [Act.eval]) (by simp [Act.eval]) rfl hps hbn ?_
 simp only [Act.put, ev_tmp, pu1, pu2, pu3, pu4, pu5]
 refine hs_ldE (k := 9) (q := adr p (b * shTensor.sz)) (s := shTensor) (cs := [.int .i64 rb, .int .i64 ccb, .slice qb Nb kb]) (by kernel_rfl) rfl rfl (fun _ _ _ h => h) hS0 rfl (by simp [Act.eval]) rfl (fun W hW => by have h := (TD.ext hW).cs.elem TD.size (i := b) (by rw [TD.cnt]; exact hbn); have h' := HCB.out; rw [List.getElem?_eq_getElem (by rw [TD.cnt]; exact hbn)] at h'; simp only [Option.some.injEq] at h'; rw [h'] at h; exact h) ?_
 simp only [Act.put, ev_tmp, pu1, pu2, pu3, pu4, pu5]
 refine hs_two (k := 10) (l := 11) (dk := 5) (dl := 6) (Zk := #[.int .i64 0, .int .i64 0, .slice none 0 0]) (Zl := #[.int .i64 0, .int .i64 0, .slice none 0 0]) (tk := 37) (tl := 37) (by kernel_rfl) rfl rfl rfl rfl rfl rfl (by decide) (fun W b => by go_simp) (fun W b => by go_simp) (fun W hW => hW) ?_
 intro b5 b6 W1 eW hb5 hb6 hne B5 B6
 simp only [Act.put, ev_tmp, pu1, pu2, pu3, pu4, pu5]
 refine hs_only (k := 12) (by kernel_rfl) ?_
 obtain ⟨W2, hr2, B5', ch5⟩ := run_st3 (y0 := .int .i64 ra) (y1 := .int .i64 cca) (y2 := .slice qa Na ka) B5 rfl rfl rfl
 refine wpOp_skip (w' := W2) rfl rfl (by simp [execOp, Act.eval, ofCs, Sh.agg, hr2]) ?_
 have eW2 : Ext W0.drew W2 := eW.chg ch5 (fun k hk => by have hk : k = b5 := hk; omega)
 have B6' := B6.chg ch5 (fun h => hne h.symm)
 refine ⟨eW2, ?_⟩
 simp only [Act.put, ev_tmp, pu1, pu2, pu3, pu4, pu5]
 refine hs_last (k := 13) (by kernel_rfl) rfl ?_
 obtain ⟨W3, hr3, B6'', ch6⟩ := run_st3 (y0 := .int .i64 rb) (y1 := .int .i64 ccb) (y2 := .slice qb Nb kb) B6' rfl rfl rfl
 refine wl_skip rfl (w' := W3) (by simp [execOp, Act.eval, ofCs, Sh.agg, hr3]) ?_
 have eW3 : Ext W0 W3 := eD.trans (eW2.chg ch6 (fun k hk => by have hk : k = b6 := hk; omega))
 have B5'' := B5'.chg ch6 (fun h => hne h)
 have d0 := b0.ext eW3
 have d1 := b1.ext eW3
 clear ch5 ch6 hr2 hr3 B5 B5' B6 B6' eW eW2 TD c0 hS0
 have t1 := d0.cell 0 rfl; have t2 := d0.cell 3 rfl
 have f0 := B5''.cell 0 rfl; have f1 := B5''.cell 1 rfl; have f2 := B5''.cell 2 rfl
 have k0 := B6''.cell 0 rfl; have k1 := B6''.cell 1 rfl; have k2 := B6''.cell 2 rfl
 have C5 := hid B5''; have C6 := hid B6''
 clear B5'' B6''
 have hb5n : b5 ≠ w.heap.size + 1 := by omega
 go_wp2_with fail
 refine (K.out W3 eW3).mono ?_
 rintro e w1 ⟨q', k, ws, rfl, own, hf3, e1⟩
 rw [HX.out] at own ⊢
 have d1' := d1.ext e1
 have n0 := d1'.cell 0 rfl; have n1 := d1'.cell 1 rfl; have n2 := d1'.cell 2 rfl
 have m0 := d1'.froz 0; have m1 := d1'.froz 1; have m2 := d1'.froz 2
 have eT := E0.trans (eW3.trans e1)
 have hsT := eT.size
 have hlt := d1.lt
 clear t1 t2 f0 f1 f2 k0 k1 k2
 go_wp2
 refine bodyPost_ret (v := .agg #[.int .i64 ra, .int .i64 cca, .slice q' Na k]) (by simp [results, Tryz.results83, go_sem, n0, n1, n2, m0, m1, m2]) rfl ?_
 exact RetTen.of (HX.out) (own_base (own_chgB (S := fun k => k = w.heap.size + 1) own (by (repeat (first | with_reducible exact Chg.refl _ _ | (with_reducible exact Chg.of_ext (by with_reducible assumption)) | with_reducible assumption | ((with_reducible refine Chg.setCell ?_ ?_ _); rotate_left; focus (first | (simp; done) | (simp; omega))) | (with_reducible refine Chg.alloc ?_ _) | (with_reducible refine Chg.drew ?_) | (with_reducible refine Chg.trans ?_ (Chg.of_ext (by with_reducible assumption)))))) (fun k hk => by omega)) (by have := eW3.size; omega)) hf3 rfl (Ext.chg (S := fun k => k = w.heap.size + 1) eT (by (repeat (first | with_reducible exact Chg.refl _ _ | (with_reducible exact Chg.of_ext (by with_reducible assumption)) | with_reducible assumption | ((with_reducible refine Chg.setCell ?_ ?_ _); rotate_left; focus (first | (simp; done) | (simp; omega))) | (with_reducible refine Chg.alloc ?_ _) | (with_reducible refine Chg.drew ?_) | (with_reducible refine Chg.trans ?_ (Chg.of_ext (by with_reducible assumption)))))) (fun k hk => by omega))
set_option maxRecDepth 100000 in
set_option maxHeartbeats 4000000 in
theorem value_3 (a b z : Nat) (oc : List Value) (p : Option Addr) (n cp : Nat) (css : List (List Value)) (vs : List shTensor.T) (ca cb : List Value) (sa sb : Nat × Nat) (va vb : shTensor.T) (w : World) (T : Tens w p n css vs) (han : a < n) (hbn : b < n) (hca : css[a]? = some ca) (hcb : css[b]? = some cb) (hva : TenAt w ca sa va) (hvb : TenAt w cb sb vb) (hsa : SideOk sa) (hsb : SideOk sb) (hs : sb = sa) (ho : Rep w shOp oc (mkOp 3 a b z t0)) :
 Calls Tryz.prog 83 #[ofCs shOp oc, .slice p n cp] w (RetTen w (opV 3 z va vb).1 (opV 3 z va vb).2.1 (opV 3 z va vb).2.2.1) := by
 obtain ⟨zb, ct, rfl, hz, ht⟩ := mkOp_vals ho
 obtain ⟨qt, ct', ut, rfl, hpt, _⟩ := ten_vals ht
 obtain ⟨qa, ka, ua, xs, rfl, rfl, la, h1, h2, h3, h4⟩ := hva
 obtain ⟨qb, kb, ub, ys, rfl, rfl, lb, g1, g2, g3, g4⟩ := hvb
 obtain ⟨ra, cca⟩ := sa
 obtain ⟨rb, ccb⟩ := sb
 obtain ⟨i1, i2, i3, i4⟩ := hsa
 obtain ⟨j1, j2, j3, j4⟩ := hsb
 dsimp only at la lb h3 h4 g3 g4 i1 i2 i3 i4 j1 j2 j3 j4 hca hcb ⊢
 obtain ⟨Na, hNa⟩ : ∃ N, N = ra * cca := ⟨_, rfl⟩
 obtain ⟨Nb, hNb⟩ : ∃ N, N = rb * ccb := ⟨_, rfl⟩
 have hNa2 : Na ≤ 256 := by rw [hNa]; exact Nat.mul_le_mul i2 i4
 have hNb2 : Nb ≤ 256 := by rw [hNb]; exact Nat.mul_le_mul j2 j4
 rw [← hNa] at la h3 hca
 rw [← hNb] at lb g3 hcb
 simp only [ofCs, Sh.agg, if_true, List.cons_append, List.nil_append, t0, List.length_nil]
 obtain ⟨W0, hW0⟩ : ∃ W0, W0 = (w.alloc (.cells #[.int .i64 3, .int .i64 a, .int .i64 b, .float .f32 zb, .int .i64 0, .int .i64 0, .slice qt 0 ct'] 79)).alloc (.cells #[.int .i64 0, .int .i64 0, .slice none 0 0] 37) := ⟨_, rfl⟩
 obtain ⟨E0, s0, b0, b1⟩ := box2 hW0
 have b0 : HB W0 w.heap.size #[.int .i64 3, .int .i64 a, .int .i64 b, .float .f32 zb, .int .i64 0, .int .i64 0, .slice qt 0 ct'] 79 := b0
 have b1 : HB W0 (w.heap.size + 1) #[.int .i64 0, .int .i64 0, .slice none 0 0] 37 := b1
 have hps : p.isSome = true := T.cs.some_of (s := 3) (i := a) T.size (by decide) (by have := T.cnt; omega)
 have hnm : Na ≤ Nb := by rw [hNa, hNb, show rb = ra from congrArg Prod.fst hs, show ccb = cca from congrArg Prod.snd hs]; exact Nat.le_refl _
 have K := hid (fun W (hW : Ext W0 W) => mulTensors_any ra cca rb ccb qa qb Na Nb ka kb ua ub xs ys W la (by omega) (h1.ext (E0.trans hW)) h2 lb (by omega) (g1.ext (E0.trans hW)) g2 hnm)
 have HX : Hid ((mulX Na xs ys).length = Na) := ntab_len _ _
 have HV : Hid ((opV 3 z (tn ra cca xs) (tn rb ccb ys)) = ((ra : Int), (cca : Int), mulX Na xs ys, ())) := hid (by simp only [opV]; simp only [tn, la]; (try rfl))
 rw [HV.out]
 generalize mulX Na xs ys = res at *
 have KT := hid T
 have HCA := hid hca
 have HCB := hid hcb
 have HZ := hid hz
 have HNa := hid hNa
 have HNb := hid hNb
 clear ho ht hpt T hca hcb hz hNa hNb h1 h2 h3 h4 g1 g2 g3 g4 HV hs
 go_enter Tryz.func83, Tryz.ntmps83
 go_wp2_with fail
 rw [← hW0]
 clear hW0
 have eD := Ext.drew W0
 have TD := KT.out.ext (E0.trans eD)
 have c0 := b0.ext eD
 have hsd := eD.size
 refine wp_region_T (n := 13) (S := fun W => Ext W0.drew W) (by kernel_rfl) rfl ?_
 have hS0 : Ext W0.drew W0.drew := Ext.refl _
 refine hs_take (k := 0) (.slice p n cp) (by kernel_rfl) rfl rfl (fun _ _ _ h => h) hS0 (fun W hW => by go_simp) ?_
 simp only [Act.put, ev_tmp, pu1, pu2, pu3, pu4, pu5]
 refine hs_take (k := 1) (.pointer (some ⟨w.heap.size, 1, none⟩)) (by kernel_rfl) rfl rfl (fun _ _ _ h => h) hS0 (fun W hW => by go_simp) ?_
 simp only [Act.put, ev_tmp, pu1, pu2, pu3, pu4, pu5]
 refine hs_take (k := 2) (.int .i64 (a : Int)) (by kernel_rfl) rfl rfl (fun _ _ _ h => h) hS0 (fun W hW => by have y := (c0.ext hW).cell 1 rfl; go_simp) ?_
 simp only [Act.put, ev_tmp, pu1, pu2, pu3, pu4, pu5]
 refine hs_idx (k := 3) (p := p) (m := n) (c := cp) (kk := .i64) (j := a) (i := (a : Int)) (by kernel_rfl) rfl rfl (fun _ _ _ h => h) hS0 rfl (by simp [Act.eval]) (by simp [Act.eval]) rfl hps han ?_
 simp only [Act.put, ev_tmp, pu1, pu2, pu3, pu4, pu5]
 refine hs_ldE (k := 4) (q := adr p (a * shTensor.sz)) (s := shTensor) (cs := [.int .i64 ra, .int .i64 cca, .slice qa Na ka]) (by kernel_rfl) rfl rfl (fun _ _ _ h => h) hS0 rfl (by simp [Act.eval]) rfl (fun W hW => by have h := (TD.ext hW).cs.elem TD.size (i := a) (by rw [TD.cnt]; exact han); have h' := HCA.out; rw [List.getElem?_eq_getElem (by rw [TD.cnt]; exact han)] at h'; simp only [Option.some.injEq] at h'; rw [h'] at h; exact h) ?_
 simp only [Act.put, ev_tmp, pu1, pu2, pu3, pu4, pu5]
 refine hs_take (k := 5) (.slice p n cp) (by kernel_rfl) rfl rfl (fun _ _ _ h => h) hS0 (fun W hW => by go_simp) ?_
 simp only [Act.put, ev_tmp, pu1, pu2, pu3, pu4, pu5]
 refine hs_take (k := 6) (.pointer (some ⟨w.heap.size, 2, none⟩)) (by kernel_rfl) rfl rfl (fun _ _ _ h => h) hS0 (fun W hW => by go_simp) ?_
 simp only [Act.put, ev_tmp, pu1, pu2, pu3, pu4, pu5]
 refine hs_take (k := 7) (.int .i64 (b : Int)) (by kernel_rfl) rfl rfl (fun _ _ _ h => h) hS0 (fun W hW => by have y := (c0.ext hW).cell 2 rfl; go_simp) ?_
 simp only [Act.put, ev_tmp, pu1, pu2, pu3, pu4, pu5]
 refine hs_idx (k := 8) (p := p) (m := n) (c := cp) (kk := .i64) (j := b) (i := (b : Int)) (by kernel_rfl) rfl rfl (fun _ _ _ h => h) hS0 rfl (by simp [Act.eval]) (by simp [Act.eval]) rfl hps hbn ?_
 simp only [Act.put, ev_tmp, pu1, pu2, pu3, pu4, pu5]
 refine hs_ldE (k := 9) (q := adr p (b * shTensor.sz)) (s := shTensor) (cs := [.int .i64 rb, .int .i64 ccb, .slice qb Nb kb]) (by kernel_rfl) rfl rfl (fun _ _ _ h => h) hS0 rfl (by simp [Act.eval]) rfl (fun W hW => by have h := (TD.ext hW).cs.elem TD.size (i := b) (by rw [TD.cnt]; exact hbn); have h' := HCB.out; rw [List.getElem?_eq_getElem (by rw [TD.cnt]; exact hbn)] at h'; simp only [Option.some.injEq] at h'; rw [h'] at h; exact h) ?_
 simp only [Act.put, ev_tmp, pu1, pu2, pu3, pu4, pu5]
 refine hs_two (k := 10) (l := 11) (dk := 5) (dl := 6) (Zk := #[.int .i64 0, .int .i64 0, .slice none 0 0]) (Zl := #[.int .i64 0, .int .i64 0, .slice none 0 0]) (tk := 37) (tl := 37) (by kernel_rfl) rfl rfl rfl rfl rfl rfl (by decide) (fun W b => by go_simp) (fun W b => by go_simp) (fun W hW => hW) ?_
 intro b5 b6 W1 eW hb5 hb6 hne B5 B6
 simp only [Act.put, ev_tmp, pu1, pu2, pu3, pu4, pu5]
 refine hs_only (k := 12) (by kernel_rfl) ?_
 obtain ⟨W2, hr2, B5', ch5⟩ := run_st3 (y0 := .int .i64 ra) (y1 := .int .i64 cca) (y2 := .slice qa Na ka) B5 rfl rfl rfl
 refine wpOp_skip (w' := W2) rfl rfl (by simp [execOp, Act.eval, ofCs, Sh.agg, hr2]) ?_
 have eW2 : Ext W0.drew W2 := eW.chg ch5 (fun k hk => by have hk : k = b5 := hk; omega)
 have B6' := B6.chg ch5 (fun h => hne h.symm)
 refine ⟨eW2, ?_⟩
 simp only [Act.put, ev_tmp, pu1, pu2, pu3, pu4, pu5]
 refine hs_last (k := 13) (by kernel_rfl) rfl ?_
 obtain ⟨W3, hr3, B6'', ch6⟩ := run_st3 (y0 := .int .i64 rb) (y1 := .int .i64 ccb) (y2 := .slice qb Nb kb) B6' rfl rfl rfl
 refine wl_skip rfl (w' := W3) (by simp [execOp, Act.eval, ofCs, Sh.agg, hr3]) ?_
 have eW3 : Ext W0 W3 := eD.trans (eW2.chg ch6 (fun k hk => by have hk : k = b6 := hk; omega))
 have B5'' := B5'.chg ch6 (fun h => hne h)
 have d0 := b0.ext eW3
 have d1 := b1.ext eW3
 clear ch5 ch6 hr2 hr3 B5 B5' B6 B6' eW eW2 TD c0 hS0
 have t1 := d0.cell 0 rfl; have t2 := d0.cell 3 rfl
 have f0 := B5''.cell 0 rfl; have f1 := B5''.cell 1 rfl; have f2 := B5''.cell 2 rfl
 have k0 := B6''.cell 0 rfl; have k1 := B6''.cell 1 rfl; have k2 := B6''.cell 2 rfl
 have C5 := hid B5''; have C6 := hid B6''
 clear B5'' B6''
 have hb5n : b5 ≠ w.heap.size + 1 := by omega
 go_wp2_with fail
 refine (K.out W3 eW3).mono ?_
 rintro e w1 ⟨q', k, ws, rfl, own, hf3, e1⟩
 rw [HX.out] at own ⊢
 have d1' := d1.ext e1
 have n0 := d1'.cell 0 rfl; have n1 := d1'.cell 1 rfl; have n2 := d1'.cell 2 rfl
 have m0 := d1'.froz 0; have m1 := d1'.froz 1; have m2 := d1'.froz 2
 have eT := E0.trans (eW3.trans e1)
 have hsT := eT.size
 have hlt := d1.lt
 clear t1 t2 f0 f1 f2 k0 k1 k2
 go_wp2
 refine bodyPost_ret (v := .agg #[.int .i64 ra, .int .i64 cca, .slice q' Na k]) (by simp [results, Tryz.results83, go_sem, n0, n1, n2, m0, m1, m2]) rfl ?_
 exact RetTen.of (HX.out) (own_base (own_chgB (S := fun k => k = w.heap.size + 1) own (by (repeat (first | with_reducible exact Chg.refl _ _ | (with_reducible exact Chg.of_ext (by with_reducible assumption)) | with_reducible assumption | ((with_reducible refine Chg.setCell ?_ ?_ _); rotate_left; focus (first | (simp; done) | (simp; omega))) | (with_reducible refine Chg.alloc ?_ _) | (with_reducible refine Chg.drew ?_) | (with_reducible refine Chg.trans ?_ (Chg.of_ext (by with_reducible assumption)))))) (fun k hk => by omega)) (by have := eW3.size; omega)) hf3 rfl (Ext.chg (S := fun k => k = w.heap.size + 1) eT (by (repeat (first | with_reducible exact Chg.refl _ _ | (with_reducible exact Chg.of_ext (by with_reducible assumption)) | with_reducible assumption | ((with_reducible refine Chg.setCell ?_ ?_ _); rotate_left; focus (first | (simp; done) | (simp; omega))) | (with_reducible refine Chg.alloc ?_ _) | (with_reducible refine Chg.drew ?_) | (with_reducible refine Chg.trans ?_ (Chg.of_ext (by with_reducible assumption)))))) (fun k hk => by omega))
set_option maxRecDepth 100000 in
set_option maxHeartbeats 4000000 in
theorem value_2 (a b z : Nat) (oc : List Value) (p : Option Addr) (n cp : Nat) (css : List (List Value)) (vs : List shTensor.T) (ca cb : List Value) (sa sb : Nat × Nat) (va vb : shTensor.T) (w : World) (T : Tens w p n css vs) (han : a < n) (hbn : b < n) (hca : css[a]? = some ca) (hcb : css[b]? = some cb) (hva : TenAt w ca sa va) (hvb : TenAt w cb sb vb) (hsa : SideOk sa) (hsb : SideOk sb) (hs : sb = (1, sa.2)) (ho : Rep w shOp oc (mkOp 2 a b z t0)) :
 Calls Tryz.prog 83 #[ofCs shOp oc, .slice p n cp] w (RetTen w (opV 2 z va vb).1 (opV 2 z va vb).2.1 (opV 2 z va vb).2.2.1) := by
 obtain ⟨zb, ct, rfl, hz, ht⟩ := mkOp_vals ho
 obtain ⟨qt, ct', ut, rfl, hpt, _⟩ := ten_vals ht
 obtain ⟨qa, ka, ua, xs, rfl, rfl, la, h1, h2, h3, h4⟩ := hva
 obtain ⟨qb, kb, ub, ys, rfl, rfl, lb, g1, g2, g3, g4⟩ := hvb
 obtain ⟨ra, cca⟩ := sa
 obtain ⟨rb, ccb⟩ := sb
 obtain ⟨i1, i2, i3, i4⟩ := hsa
 obtain ⟨j1, j2, j3, j4⟩ := hsb
 dsimp only at la lb h3 h4 g3 g4 i1 i2 i3 i4 j1 j2 j3 j4 hca hcb ⊢
 obtain ⟨Na, hNa⟩ : ∃ N, N = ra * cca := ⟨_, rfl⟩
 obtain ⟨Nb, hNb⟩ : ∃ N, N = rb * ccb := ⟨_, rfl⟩
 have hNa2 : Na ≤ 256 := by rw [hNa]; exact Nat.mul_le_mul i2 i4
 have hNb2 : Nb ≤ 256 := by rw [hNb]; exact Nat.mul_le_mul j2 j4
 rw [← hNa] at la h3 hca
 rw [← hNb] at lb g3 hcb
 simp only [ofCs, Sh.agg, if_true, List.cons_append, List.nil_append, t0, List.length_nil]
 obtain ⟨W0, hW0⟩ : ∃ W0, W0 = (w.alloc (.cells #[.int .i64 2, .int .i64 a, .int .i64 b, .float .f32 zb, .int .i64 0, .int .i64 0, .slice qt 0 ct'] 79)).alloc (.cells #[.int .i64 0, .int .i64 0, .slice none 0 0] 37) := ⟨_, rfl⟩
 obtain ⟨E0, s0, b0, b1⟩ := box2 hW0
 have b0 : HB W0 w.heap.size #[.int .i64 2, .int .i64 a, .int .i64 b, .float .f32 zb, .int .i64 0, .int .i64 0, .slice qt 0 ct'] 79 := b0
 have b1 : HB W0 (w.heap.size + 1) #[.int .i64 0, .int .i64 0, .slice none 0 0] 37 := b1
 have hps : p.isSome = true := T.cs.some_of (s := 3) (i := a) T.size (by decide) (by have := T.cnt; omega)
 have hm1 : 1 ≤ Nb := by rw [hNb]; exact Nat.mul_le_mul j1 j3
 have hNc : Nb = cca := by rw [hNb, show rb = 1 from congrArg Prod.fst hs, show ccb = cca from congrArg Prod.snd hs]; omega
 have K := hid (fun W (hW : Ext W0 W) => addRow_any ra cca qa qb Na Nb ka kb ua ub xs ys W la (by omega) (h1.ext (E0.trans hW)) h2 lb (by omega) hm1 (g1.ext (E0.trans hW)) g2)
 have HX : Hid ((addRX Na Nb xs ys).length = Na) := ntab_len _ _
 have HV : Hid ((opV 2 z (tn ra cca xs) (tn rb ccb ys)) = ((ra : Int), (cca : Int), addRX Na Nb xs ys, ())) := hid (by simp only [opV]; simp only [tn, la, hNc, Int.toNat_natCast]; (try rfl))
 rw [HV.out]
 generalize addRX Na Nb xs ys = res at *
 have KT := hid T
 have HCA := hid hca
 have HCB := hid hcb
 have HZ := hid hz
 have HNa := hid hNa
 have HNb := hid hNb
 clear ho ht hpt T hca hcb hz hNa hNb h1 h2 h3 h4 g1 g2 g3 g4 HV hs hNc
 go_enter Tryz.func83, Tryz.ntmps83
 go_wp2_with fail
 rw [← hW0]
 clear hW0
 have eD := Ext.drew W0
 have TD := KT.out.ext (E0.trans eD)
 have c0 := b0.ext eD
 have hsd := eD.size
 refine wp_region_T (n := 13) (S := fun W => Ext W0.drew W) (by kernel_rfl) rfl ?_
 have hS0 : Ext W0.drew W0.drew := Ext.refl _
 refine hs_take (k := 0) (.slice p n cp) (by kernel_rfl) rfl rfl (fun _ _ _ h => h) hS0 (fun W hW => by go_simp) ?_
 simp only [Act.put, ev_tmp, pu1, pu2, pu3, pu4, pu5]
 refine hs_take (k := 1) (.pointer (some ⟨w.heap.size, 1, none⟩)) (by kernel_rfl) rfl rfl (fun _ _ _ h => h) hS0 (fun W hW => by go_simp) ?_
 simp only [Act.put, ev_tmp, pu1, pu2, pu3, pu4, pu5]
 refine hs_take (k := 2) (.int .i64 (a : Int)) (by kernel_rfl) rfl rfl (fun _ _ _ h => h) hS0 (fun W hW => by have y := (c0.ext hW).cell 1 rfl; go_simp) ?_
 simp only [Act.put, ev_tmp, pu1, pu2, pu3, pu4, pu5]
 refine hs_idx (k := 3) (p := p) (m := n) (c := cp) (kk := .i64) (j := a) (i := (a : Int)) (by kernel_rfl) rfl rfl (fun _ _ _ h => h) hS0 rfl (by simp [Act.eval]) (by simp [Act.eval]) rfl hps han ?_
 simp only [Act.put, ev_tmp, pu1, pu2, pu3, pu4, pu5]
 refine hs_ldE (k := 4) (q := adr p (a * shTensor.sz)) (s := shTensor) (cs := [.int .i64 ra, .int .i64 cca, .slice qa Na ka]) (by kernel_rfl) rfl rfl (fun _ _ _ h => h) hS0 rfl (by simp [Act.eval]) rfl (fun W hW => by have h := (TD.ext hW).cs.elem TD.size (i := a) (by rw [TD.cnt]; exact han); have h' := HCA.out; rw [List.getElem?_eq_getElem (by rw [TD.cnt]; exact han)] at h'; simp only [Option.some.injEq] at h'; rw [h'] at h; exact h) ?_
 simp only [Act.put, ev_tmp, pu1, pu2, pu3, pu4, pu5]
 refine hs_take (k := 5) (.slice p n cp) (by kernel_rfl) rfl rfl (fun _ _ _ h => h) hS0 (fun W hW => by go_simp) ?_
 simp only [Act.put, ev_tmp, pu1, pu2, pu3, pu4, pu5]
 refine hs_take (k := 6) (.pointer (some ⟨w.heap.size, 2, none⟩)) (by kernel_rfl) rfl rfl (fun _ _ _ h => h) hS0 (fun W hW => by go_simp) ?_
 simp only [Act.put, ev_tmp, pu1, pu2, pu3, pu4, pu5]
 refine hs_take (k := 7) (.int .i64 (b : Int)) (by kernel_rfl) rfl rfl (fun _ _ _ h => h) hS0 (fun W hW => by have y := (c0.ext hW).cell 2 rfl; go_simp) ?_
 simp only [Act.put, ev_tmp, pu1, pu2, pu3, pu4, pu5]
 refine hs_idx (k := 8) (p := p) (m := n) (c := cp) (kk := .i64) (j := b) (i := (b : Int)) (by kernel_rfl) rfl rfl (fun _ _ _ h => h) hS0 rfl (by simp [Act.eval]) (by simp [Act.eval]) rfl hps hbn ?_
 simp only [Act.put, ev_tmp, pu1, pu2, pu3, pu4, pu5]
 refine hs_ldE (k := 9) (q := adr p (b * shTensor.sz)) (s := shTensor) (cs := [.int .i64 rb, .int .i64 ccb, .slice qb Nb kb]) (by kernel_rfl) rfl rfl (fun _ _ _ h => h) hS0 rfl (by simp [Act.eval]) rfl (fun W hW => by have h := (TD.ext hW).cs.elem TD.size (i := b) (by rw [TD.cnt]; exact hbn); have h' := HCB.out; rw [List.getElem?_eq_getElem (by rw [TD.cnt]; exact hbn)] at h'; simp only [Option.some.injEq] at h'; rw [h'] at h; exact h) ?_
 simp only [Act.put, ev_tmp, pu1, pu2, pu3, pu4, pu5]
 refine hs_two (k := 10) (l := 11) (dk := 5) (dl := 6) (Zk := #[.int .i64 0, .int .i64 0, .slice none 0 0]) (Zl := #[.int .i64 0, .int .i64 0, .slice none 0 0]) (tk := 37) (tl := 37) (by kernel_rfl) rfl rfl rfl rfl rfl rfl (by decide) (fun W b => by go_simp) (fun W b => by go_simp) (fun W hW => hW) ?_
 intro b5 b6 W1 eW hb5 hb6 hne B5 B6
 simp only [Act.put, ev_tmp, pu1, pu2, pu3, pu4, pu5]
 refine hs_only (k := 12) (by kernel_rfl) ?_
 obtain ⟨W2, hr2, B5', ch5⟩ := run_st3 (y0 := .int .i64 ra) (y1 := .int .i64 cca) (y2 := .slice qa Na ka) B5 rfl rfl rfl
 refine wpOp_skip (w' := W2) rfl rfl (by simp [execOp, Act.eval, ofCs, Sh.agg, hr2]) ?_
 have eW2 : Ext W0.drew W2 := eW.chg ch5 (fun k hk => by have hk : k = b5 := hk; omega)
 have B6' := B6.chg ch5 (fun h => hne h.symm)
 refine ⟨eW2, ?_⟩
 simp only [Act.put, ev_tmp, pu1, pu2, pu3, pu4, pu5]
 refine hs_last (k := 13) (by kernel_rfl) rfl ?_
 obtain ⟨W3, hr3, B6'', ch6⟩ := run_st3 (y0 := .int .i64 rb) (y1 := .int .i64 ccb) (y2 := .slice qb Nb kb) B6' rfl rfl rfl
 refine wl_skip rfl (w' := W3) (by simp [execOp, Act.eval, ofCs, Sh.agg, hr3]) ?_
 have eW3 : Ext W0 W3 := eD.trans (eW2.chg ch6 (fun k hk => by have hk : k = b6 := hk; omega))
 have B5'' := B5'.chg ch6 (fun h => hne h)
 have d0 := b0.ext eW3
 have d1 := b1.ext eW3
 clear ch5 ch6 hr2 hr3 B5 B5' B6 B6' eW eW2 TD c0 hS0
 have t1 := d0.cell 0 rfl; have t2 := d0.cell 3 rfl
 have f0 := B5''.cell 0 rfl; have f1 := B5''.cell 1 rfl; have f2 := B5''.cell 2 rfl
 have k0 := B6''.cell 0 rfl; have k1 := B6''.cell 1 rfl; have k2 := B6''.cell 2 rfl
 have C5 := hid B5''; have C6 := hid B6''
 clear B5'' B6''
 have hb5n : b5 ≠ w.heap.size + 1 := by omega
 go_wp2_with fail
 refine (K.out W3 eW3).mono ?_
 rintro e w1 ⟨q', k, ws, rfl, own, hf3, e1⟩
 rw [HX.out] at own ⊢
 have d1' := d1.ext e1
 have n0 := d1'.cell 0 rfl; have n1 := d1'.cell 1 rfl; have n2 := d1'.cell 2 rfl
 have m0 := d1'.froz 0; have m1 := d1'.froz 1; have m2 := d1'.froz 2
 have eT := E0.trans (eW3.trans e1)
 have hsT := eT.size
 have hlt := d1.lt
 clear t1 t2 f0 f1 f2 k0 k1 k2
 go_wp2
 refine bodyPost_ret (v := .agg #[.int .i64 ra, .int .i64 cca, .slice q' Na k]) (by simp [results, Tryz.results83, go_sem, n0, n1, n2, m0, m1, m2]) rfl ?_
 exact RetTen.of (HX.out) (own_base (own_chgB (S := fun k => k = w.heap.size + 1) own (by (repeat (first | with_reducible exact Chg.refl _ _ | (with_reducible exact Chg.of_ext (by with_reducible assumption)) | with_reducible assumption | ((with_reducible refine Chg.setCell ?_ ?_ _); rotate_left; focus (first | (simp; done) | (simp; omega))) | (with_reducible refine Chg.alloc ?_ _) | (with_reducible refine Chg.drew ?_) | (with_reducible refine Chg.trans ?_ (Chg.of_ext (by with_reducible assumption)))))) (fun k hk => by omega)) (by have := eW3.size; omega)) hf3 rfl (Ext.chg (S := fun k => k = w.heap.size + 1) eT (by (repeat (first | with_reducible exact Chg.refl _ _ | (with_reducible exact Chg.of_ext (by with_reducible assumption)) | with_reducible assumption | ((with_reducible refine Chg.setCell ?_ ?_ _); rotate_left; focus (first | (simp; done) | (simp; omega))) | (with_reducible refine Chg.alloc ?_ _) | (with_reducible refine Chg.drew ?_) | (with_reducible refine Chg.trans ?_ (Chg.of_ext (by with_reducible assumption)))))) (fun k hk => by omega))
end Go.Proofs.YtlimabbeaimdgaaGreat
