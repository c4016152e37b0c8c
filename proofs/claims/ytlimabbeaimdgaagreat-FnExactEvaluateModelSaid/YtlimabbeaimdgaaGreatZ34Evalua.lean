/- A part of the proofs: TnLm, TnEv, EvaluateModelLaw. -/
import Derived.Test.YtlimabbeaimdgaaGreatZ33Evalua
import Derived.Test.YtlimabbeaimdgaaGreatZ07Evalua
import Derived.Test.YtlimabbeaimdgaaGreatZ04Evalua
import Derived.Test.YtlimabbeaimdgaaGreatZ06Evalua
set_option linter.unusedSimpArgs false
set_option linter.unusedVariables false
namespace Go.Proofs.YtlimabbeaimdgaaGreat
open Go.RowKit
set_option maxRecDepth 100000 in
set_option maxHeartbeats 4000000 in
theorem specModelLoss_any (p q q2 : Option Addr) (n c nx cx ny cy : Nat) (r k r2 k2 : Int) (css : List (List Value)) (L : List shLayer.T) (xs ys : List Nat) (us vs : List Value) (w : World) (hL : Lays w p n css L) (hxl : xs.length = nx) (hyl : ys.length = ny) (hnx : nx ≤ maxLen) (hny : ny ≤ maxLen) (hcx : nx ≤ cx) (hcy : ny ≤ cy) (hqx : Cs w q us) (hfx : F32s us xs) (hqy : Cs w q2 vs) (hfy : F32s vs ys) :
 Calls Tryz.prog 45 #[.agg #[.slice p n c], .agg #[.int .i64 r, .int .i64 k, .slice q nx cx], .agg #[.int .i64 r2, .int .i64 k2, .slice q2 ny cy]] w fun e w' => LossRet L r k xs r2 k2 ys e ∧ Ext w w' := by
 obtain ⟨W0, hW0⟩ : ∃ W0, W0 = ((w.alloc (.cells #[.slice p n c] 35)).alloc (.cells #[.int .i64 r, .int .i64 k, .slice q nx cx] 37)).alloc (.cells #[.int .i64 r2, .int .i64 k2, .slice q2 ny cy] 37) := ⟨_, rfl⟩
 obtain ⟨E0, s0, b0, b1, b2⟩ := box3 hW0
 have b0 : HB W0 w.heap.size #[.slice p n c] 35 := b0
 have b1 : HB W0 (w.heap.size + 1) #[.int .i64 r, .int .i64 k, .slice q nx cx] 37 := b1
 have b2 : HB W0 (w.heap.size + 1 + 1) #[.int .i64 r2, .int .i64 k2, .slice q2 ny cy] 37 := b2
 have T := hid (l02Is_any (sp := none) (w.heap.size + 1 + 1) 0 r2 k2 q2 ny cy W0 (b2.cell 0 rfl) (b2.cell 1 rfl) (b2.cell 2 rfl) hny)
 have K := hid (fun W (h : Ext W0 W) z zb (hz : cn .f32 zb = z) => l04Loss_any (sm := none) (sx := none) (sy := none) w.heap.size 0 (w.heap.size + 1) 0 (w.heap.size + 1 + 1) 0 p q q2 n c nx cx ny cy r k r2 k2 css L xs ys us vs z zb W ((b0.ext h).cell 0 rfl) ((b1.ext h).cell 0 rfl) ((b1.ext h).cell 1 rfl) ((b1.ext h).cell 2 rfl) ((b2.ext h).cell 0 rfl) ((b2.ext h).cell 1 rfl) ((b2.ext h).cell 2 rfl) (hL.ext (E0.trans h)) hnx hny hxl hyl hcx hcy (hqx.ext (E0.trans h)) hfx (hqy.ext (E0.trans h)) hfy hz)
 cases hb : tenB r2 k2 ny with
 | false =>
   rw [hb] at T
   have HG : Hid (gradB L r k xs.length r2 k2 ys.length = false) := hid (by unfold gradB headB; rw [hyl, hb]; simp)
   clear hb b0 b1 b2 hL hxl hyl K
   go_enter Tryz.func45, Tryz.ntmps45
   go_wp2_with fail
   rw [← hW0]
   clear hW0
   refine T.out.mono ?_
   rintro e w1 ⟨rfl, e1⟩
   go_wp2
   go_ret2
   exact ⟨⟨0, by rw [HG.out]; rfl, by rw [HG.out]; exact cn0⟩, E0.trans e1⟩
 | true =>
   have ht := hb
   unfold tenB at ht
   simp only [Bool.and_eq_true, decide_eq_true_eq, inB_true] at ht
   obtain ⟨⟨a4, a5⟩, a6⟩ := ht
   obtain ⟨R, rfl⟩ : ∃ R : Nat, r2 = (R : Int) := ⟨r2.toNat, by omega⟩
   obtain ⟨C, rfl⟩ : ∃ C : Nat, k2 = (C : Int) := ⟨k2.toNat, by omega⟩
   have h256 : R * C ≤ 256 := Nat.mul_le_mul (show R ≤ 16 by omega) (show C ≤ 16 by omega)
   have HN : Hid (R * C = ys.length) := hid (by rw [hyl]; exact_mod_cast a6.symm)
   have S := hid (fun W (h : Ext W0 W) => l04Share_any (sp := none) (w.heap.size + 1 + 1) 0 R C W ((b2.ext h).cell 0 rfl) ((b2.ext h).cell 1 rfl) h256)
   rw [hb] at T
   clear hb b0 b1 b2 hL hxl hyl a4 a5 a6 h256
   go_enter Tryz.func45, Tryz.ntmps45
   go_wp2_with fail
   rw [← hW0]
   clear hW0
   refine T.out.mono ?_
   rintro e w1 ⟨rfl, e1⟩
   go_wp2_with fail
   refine (S.out w1 e1).mono ?_
   rintro e w2 ⟨zb, rfl, hz, e2⟩
   have HZ := hid hz
   clear hz
   go_wp2_with fail
   refine (K.out w2 (e1.trans e2) _ zb HZ.out).mono ?_
   rintro e w3 ⟨⟨hg, u, rfl⟩ | ⟨hg, q5, c5, b5, us5, rfl, _, _, h5⟩, e3⟩
   · have HG := hid hg
     clear hg
     go_wp2
     go_ret2
     exact ⟨⟨0, by rw [HG.out]; rfl, by rw [HG.out]; exact cn0⟩, E0.trans ((e1.trans e2).trans e3)⟩
   · have HG := hid hg; have H5 := hid h5
     clear hg h5
     go_wp2
     go_ret2
     exact ⟨⟨b5, by rw [HG.out]; rfl, by rw [HG.out, if_pos rfl]; unfold tapeOf; rw [← HN.out]; exact H5.out⟩, E0.trans ((e1.trans e2).trans e3)⟩
set_option maxRecDepth 100000 in
set_option maxHeartbeats 4000000 in
theorem specEvaluateModel_any (p q q2 : Option Addr) (n c nx cx ny cy : Nat) (r k r2 k2 : Int) (css : List (List Value)) (L : List shLayer.T) (xs ys : List Nat) (us vs : List Value) (w : World) (hL : Lays w p n css L) (hxl : xs.length = nx) (hyl : ys.length = ny) (hnx : nx ≤ maxLen) (hny : ny ≤ maxLen) (hcx : nx ≤ cx) (hcy : ny ≤ cy) (hqx : Cs w q us) (hfx : F32s us xs) (hqy : Cs w q2 vs) (hfy : F32s vs ys) :
 Calls Tryz.prog 26 #[.agg #[.slice p n c], .agg #[.int .i64 r, .int .i64 k, .slice q nx cx, .int .i64 r2, .int .i64 k2, .slice q2 ny cy]] w fun e w' => EvaRet L r k xs r2 k2 ys e ∧ Ext w w' := by
 obtain ⟨W0, hW0⟩ : ∃ W0, W0 = (w.alloc (.cells #[.slice p n c] 35)).alloc (.cells #[.int .i64 r, .int .i64 k, .slice q nx cx, .int .i64 r2, .int .i64 k2, .slice q2 ny cy] 60) := ⟨_, rfl⟩
 obtain ⟨E0, s0, b0, b1⟩ := box2 hW0
 have b0 : HB W0 w.heap.size #[.slice p n c] 35 := b0
 have b1 : HB W0 (w.heap.size + 1) #[.int .i64 r, .int .i64 k, .slice q nx cx, .int .i64 r2, .int .i64 k2, .slice q2 ny cy] 60 := b1
 have A := hid (l07Data_any (w.heap.size + 1) 0 r k q nx cx r2 k2 q2 ny cy W0 (b1.cell 0 rfl) (b1.cell 1 rfl) (b1.cell 2 rfl) (b1.cell 3 rfl) (b1.cell 4 rfl) (b1.cell 5 rfl) hnx hny)
 have K := hid (fun W (h : Ext W0 W) => specModelLoss_any p q q2 n c nx cx ny cy r k r2 k2 css L xs ys us vs W (hL.ext (E0.trans h)) hxl hyl hnx hny hcx hcy (hqx.ext (E0.trans h)) hfx (hqy.ext (E0.trans h)) hfy)
 have HX := hid hxl; have HY := hid hyl
 generalize hE : exaB r k nx r2 k2 ny = E at *
 have HE := hid (show exaB r k xs.length r2 k2 ys.length = E by rw [hxl, hyl]; exact hE)
 clear hE hL hxl hyl
 cases E with
 | false =>
   go_enter Tryz.func26, Tryz.ntmps26
   go_wp2_with fail
   rw [← hW0]
   clear hW0
   refine A.out.mono ?_
   rintro e w1 ⟨rfl, e1⟩
   go_wp2
   go_ret2
   exact ⟨⟨0, by rw [HE.out]; rfl, by rw [HE.out]; exact cn0⟩, E0.trans e1⟩
 | true =>
   go_enter Tryz.func26, Tryz.ntmps26
   go_wp2_with fail
   rw [← hW0]
   clear hW0
   refine A.out.mono ?_
   rintro e w1 ⟨rfl, e1⟩
   have y0 := (b0.ext e1).cell 0 rfl
   have z0 := (b1.ext e1).cell 0 rfl; have z1 := (b1.ext e1).cell 1 rfl; have z2 := (b1.ext e1).cell 2 rfl; have z3 := (b1.ext e1).cell 3 rfl; have z4 := (b1.ext e1).cell 4 rfl; have z5 := (b1.ext e1).cell 5 rfl
   go_wp2_with fail
   refine (K.out w1 e1).mono ?_
   rintro e w2 ⟨⟨b, rfl, hb⟩, e2⟩
   have HB9 := hid hb
   clear hb y0 z0 z1 z2 z3 z4 z5
   generalize hg : gradB L r k xs.length r2 k2 ys.length = G at *
   have HG := hid hg
   clear hg
   go_wp2
   go_ret2
   exact ⟨⟨b, by rw [HE.out, HG.out]; rfl, by rw [HE.out, HG.out]; exact HB9.out⟩, (E0.trans e1).trans e2⟩
end Go.Proofs.YtlimabbeaimdgaaGreat
namespace Go.Proofs.YtlimabbeaimdgaaGreat.lEvaluateModel
open Go.RowKit
def GotF (w : World) (r : Nat × Bool) (e : Ending) (w' : World) : Prop := ∃ b, e = .returned (.tuple #[.float .f32 b, .bool r.2]) ∧ cn .f32 b = r.1 ∧ Ext w w'
def okB (d : shModel.T) (x : shExamples.T) : Bool := exaB x.1.1 x.1.2.1 x.1.2.2.1.length x.2.1.1 x.2.1.2.1 x.2.1.2.2.1.length && gradB d.1 x.1.1 x.1.2.1 x.1.2.2.1.length x.2.1.1 x.2.1.2.1 x.2.1.2.2.1.length
def res (d : shModel.T) (x : shExamples.T) : Nat × Bool := (if okB d x then lossT (tapeOf d.1 x.1.1 x.1.2.1 x.1.2.2.1 x.2.1.1 x.2.1.2.1 x.2.1.2.2.1) else 0, okB d x)
set_option maxRecDepth 100000 in
set_option maxHeartbeats 4000000 in
theorem both_ok (f : Nat) (K : ∀ (p q q2 : Option Addr) (n c nx cx ny cy : Nat) (r k r2 k2 : Int) (css : List (List Value)) (L : List shLayer.T) (xs ys : List Nat) (us vs : List Value) (w : World), Lays w p n css L → xs.length = nx → ys.length = ny → nx ≤ maxLen → ny ≤ maxLen → nx ≤ cx → ny ≤ cy → Cs w q us → F32s us xs → Cs w q2 vs → F32s vs ys →
 Calls Tryz.prog f #[.agg #[.slice p n c], .agg #[.int .i64 r, .int .i64 k, .slice q nx cx, .int .i64 r2, .int .i64 k2, .slice q2 ny cy]] w fun e w' => EvaRet L r k xs r2 k2 ys e ∧ Ext w w')
 (cs0 : List Value) (D0 : shModel.T) (cs1 : List Value) (D1 : shExamples.T) (w : World) (h0 : Rep w shModel cs0 D0) (h1 : Rep w shExamples cs1 D1) (f0 : Fit shModel D0) : Calls Tryz.prog f #[ofCs shModel cs0, ofCs shExamples cs1] w (GotF w (res D0 D1)) := by
 obtain ⟨L0, u0⟩ := D0
 obtain ⟨c0, c1, rfl, k0, rfl⟩ := h0
 obtain ⟨p, c, rfl, _⟩ := rep_val k0
 obtain ⟨p', c', css, he0, L⟩ := lays_of k0 f0.1
 cases he0
 obtain ⟨D10, D11, D12⟩ := D1
 obtain ⟨ca, cr, rfl, ra, cb, cu, rfl, rb, rfl⟩ := h1
 obtain ⟨q, cq, us, rfl, hp, hf, hcq, hcm⟩ := ten_vals ra
 obtain ⟨q', cq', us', rfl, hp', hf', hcq', hcm'⟩ := ten_vals rb
 obtain ⟨r1, k1, xs, v1⟩ := D10
 obtain ⟨r2, k2, ys, v2⟩ := D11
 dsimp only at hp hf hcq hcm hp' hf' hcq' hcm' ⊢
 simp only [ofCs, Sh.agg, if_true, List.append_nil, List.cons_append, List.nil_append]
 have hxm : xs.length ≤ maxLen := Nat.le_trans hcq hcm
 have hym : ys.length ≤ maxLen := Nat.le_trans hcq' hcm'
 refine (K p q q' L0.length c xs.length cq ys.length cq' r1 k1 r2 k2 css L0 xs ys us us' w L rfl rfl hxm hym hcq hcq' hp hf hp' hf').mono ?_
 rintro e w' ⟨⟨b, h1, h2⟩, h3⟩
 exact ⟨b, h1, h2, h3⟩
theorem impl_ok (cs0 : List Value) (D0 : shModel.T) (cs1 : List Value) (D1 : shExamples.T) (w : World) (h0 : Rep w shModel cs0 D0) (h1 : Rep w shExamples cs1 D1) (f0 : Fit shModel D0) (_ : Fit shExamples D1) : Calls Tryz.prog 28 #[ofCs shModel cs0, ofCs shExamples cs1] w (GotF w (res D0 D1)) :=
 both_ok 28 EvaluateModel_any cs0 D0 cs1 D1 w h0 h1 f0
theorem spec_ok (cs0 : List Value) (D0 : shModel.T) (cs1 : List Value) (D1 : shExamples.T) (w : World) (h0 : Rep w shModel cs0 D0) (h1 : Rep w shExamples cs1 D1) (f0 : Fit shModel D0) (_ : Fit shExamples D1) : Calls Tryz.prog 26 #[ofCs shModel cs0, ofCs shExamples cs1] w (GotF w (res D0 D1)) :=
 both_ok 26 specEvaluateModel_any cs0 D0 cs1 D1 w h0 h1 f0
end Go.Proofs.YtlimabbeaimdgaaGreat.lEvaluateModel
namespace Go.Proofs.YtlimabbeaimdgaaGreat.lEvaluateModel
open Go.RowKit
set_option maxRecDepth 100000 in
set_option maxHeartbeats 1000000 in
theorem law_any (cs0 : List Value) (D0 : Sh.T shModel) (cs1 : List Value) (D1 : Sh.T shExamples) (w : World) (h0 : Rep w shModel cs0 D0) (h1 : Rep w shExamples cs1 D1) (f0 : Fit shModel D0) (f1 : Fit shExamples D1) : Calls Tryz.prog 5 #[ofCs shModel cs0, ofCs shExamples cs1] w fun e w' => e = .returned (.bool true) ∧ Ext w w' := by
 have hl0 := hid h0.size
 have ho0 := hid h0.one
 have hl1 := hid h1.size
 have ho1 := hid h1.one
 have e0 := Ext.refl w
 have r0 := h0
 have r1 := h1
 go_enter Tryz.func5, Tryz.ntmps5
 go_wp2_with (first | ((with_reducible show wpList _ _ _ (Oper.mk _ (Op.box _ _) _ _ _ _ :: _) _ _); refine wl_box (s := shModel) (cs := cs0) rfl rfl rfl hl0.out ho0.out ?_; intro b0 v0 g0 _ c0; replace e0 := e0.trans g0; replace r0 := r0.ext g0; replace r1 := r1.ext g0) | ((with_reducible show wpList _ _ _ (Oper.mk _ (Op.box _ _) _ _ _ _ :: _) _ _); refine wl_box (s := shExamples) (cs := cs1) rfl rfl rfl hl1.out ho1.out ?_; intro b1 v1 g1 _ c1; replace e0 := e0.trans g1; replace r0 := r0.ext g1; replace r1 := r1.ext g1; replace c0 := c0.ext g1) | ((with_reducible show wpList _ _ _ (Oper.mk _ (Op.load _ _) _ _ _ _ :: _) _ _); refine wl_ldA (s := shModel) (cs := cs0) rfl rfl rfl c0 hl0.out ?_) | ((with_reducible show wpList _ _ _ (Oper.mk _ (Op.load _ _) _ _ _ _ :: _) _ _); refine wl_ldA (s := shExamples) (cs := cs1) rfl rfl rfl c1 hl1.out ?_))
 refine (szModel_ok cs0 D0 1048576 _ r0 (by omega) (by omega)).mono ?_
 rintro e w1 ⟨⟨s1, rfl, hs1⟩, e101⟩
 replace e0 := e0.trans e101
 replace r0 := r0.ext e101
 replace r1 := r1.ext e101
 replace c0 := c0.ext e101
 replace c1 := c1.ext e101
 clear e101
 by_cases hn1 : s1 < 0
 · go_wp2
   go_ret
   exact ⟨rfl, e0⟩
 have hb0 : tot shModel D0 ≤ 1048576 := by rcases hs1 with h | h; exact absurd h hn1; omega
 have hz1 : 0 ≤ s1 := by omega
 have ht1 : s1 ≤ 1048576 := by rcases hs1 with h | h; exact absurd h hn1; omega
 clear hs1
 go_wp2_with (first | ((with_reducible show wpList _ _ _ (Oper.mk _ (Op.load _ _) _ _ _ _ :: _) _ _); refine wl_ldA (s := shModel) (cs := cs0) rfl rfl rfl c0 hl0.out ?_) | ((with_reducible show wpList _ _ _ (Oper.mk _ (Op.load _ _) _ _ _ _ :: _) _ _); refine wl_ldA (s := shExamples) (cs := cs1) rfl rfl rfl c1 hl1.out ?_))
 refine (szExamples_ok cs1 D1 s1 _ r1 (by omega) (by omega)).mono ?_
 rintro e w2 ⟨⟨s2, rfl, hs2⟩, e102⟩
 replace e0 := e0.trans e102
 replace r0 := r0.ext e102
 replace r1 := r1.ext e102
 replace c0 := c0.ext e102
 replace c1 := c1.ext e102
 clear e102
 by_cases hn2 : s2 < 0
 · go_wp2
   go_ret
   exact ⟨rfl, e0⟩
 have hb1 : tot shExamples D1 ≤ 1048576 := by rcases hs2 with h | h; exact absurd h hn2; omega
 have hz2 : 0 ≤ s2 := by omega
 have ht2 : s2 ≤ 1048576 := by rcases hs2 with h | h; exact absurd h hn2; omega
 clear hs2
 go_wp2_with (first | ((with_reducible show wpList _ _ _ (Oper.mk _ (Op.load _ _) _ _ _ _ :: _) _ _); refine wl_ldA (s := shModel) (cs := cs0) rfl rfl rfl c0 hl0.out ?_) | ((with_reducible show wpList _ _ _ (Oper.mk _ (Op.load _ _) _ _ _ _ :: _) _ _); refine wl_ldA (s := shExamples) (cs := cs1) rfl rfl rfl c1 hl1.out ?_))
 replace e0 := e0.trans (Ext.drew _)
 replace r0 := r0.ext (Ext.drew _)
 replace r1 := r1.ext (Ext.drew _)
 replace c0 := c0.ext (Ext.drew _)
 replace c1 := c1.ext (Ext.drew _)
 have KS := hid (fun y0 y1 W => spec_ok y0 D0 y1 D1 W)
 have K := hid (fun y0 y1 W => impl_ok y0 D0 y1 D1 W)
 generalize res D0 D1 = r at *
 obtain ⟨z0, z1⟩ := r
 obtain ⟨F3, hF3⟩ : ∃ F : Option Tmp → World → Value → Prop, F = fun d W u => (match d with | some 24 => ∃ cs', u = ofCs shModel cs' ∧ Rep W shModel cs' D0 | some 26 => ∃ cs', u = ofCs shExamples cs' ∧ Rep W shExamples cs' D1 | some 27 => ∃ b, u = .tuple #[.float .f32 b, .bool z1] ∧ cn .f32 b = z0 | _ => True) := ⟨_, rfl⟩
 have HF3 := hid hF3
 clear hF3
 refine wp_region_xall (F := F3) (by kernel_rfl) (by kernel_rfl) (by kernel_rfl) ?_
 intro wf hwf
 first | (refine x_ldA (s := shModel) (cs := cs0) rfl rfl rfl c0 hl0.out ?_) | (refine x_ldA (s := shExamples) (cs := cs1) rfl rfl rfl c1 hl1.out ?_)
 simp only [Act.put, ev_tmp, pu1, pu2, pu3, pu4, pu5]
 refine x_callf (f := 9) (args := #[ofCs shModel cs0]) rfl rfl Tryz.func9 rfl (by kernel_rfl) ?_ ?_ ?_; (focus (simp [Act.eval]; done)); (focus (intro w1 hw1; exact ((toModel_ok cs0 D0 w1 (r0.ext hw1) hb0).mono fun e w3 ⟨cs3, bs3, g1, g2, _, _, g3⟩ => ⟨_, g1, g3, by rw [HF3.out]; exact ⟨cs3, rfl, g2.rep⟩⟩))); rintro u w3 e3 e4 hu; simp only [HF3.out] at hu; obtain ⟨cz4, rfl, rz4⟩ := hu; clear rz4
 simp only [Act.put, ev_tmp, pu1, pu2, pu3, pu4, pu5]
 first | (refine x_ldA (s := shModel) (cs := cs0) rfl rfl rfl c0 hl0.out ?_) | (refine x_ldA (s := shExamples) (cs := cs1) rfl rfl rfl c1 hl1.out ?_)
 simp only [Act.put, ev_tmp, pu1, pu2, pu3, pu4, pu5]
 refine x_callf (f := 27) (args := #[ofCs shExamples cs1]) rfl rfl Tryz.func27 rfl (by kernel_rfl) ?_ ?_ ?_; (focus (simp [Act.eval]; done)); (focus (intro w1 hw1; exact ((toExamples_ok cs1 D1 w1 (r1.ext hw1) hb1).mono fun e w3 ⟨cs3, bs3, g1, g2, _, _, g3⟩ => ⟨_, g1, g3, by rw [HF3.out]; exact ⟨cs3, rfl, g2.rep⟩⟩))); rintro u w3 e3 e4 hu; simp only [HF3.out] at hu; obtain ⟨cz5, rfl, rz5⟩ := hu; clear rz5
 simp only [Act.put, ev_tmp, pu1, pu2, pu3, pu4, pu5]
 refine x_callK (f := 26) (args := #[ofCs shModel cz4, ofCs shExamples cz5]) rfl rfl Tryz.func26 rfl (by kernel_rfl) ?_ ?_ ?_; (focus (simp [Act.eval]; done)); (focus (intro w1 hw1 hK; exact (by (obtain ⟨wa0, ga0, gb0, gc0⟩ := known_call hK (j := 1) (d := 24) (by kernel_rfl) rfl rfl rfl rfl Tryz.func9 rfl (by kernel_rfl) (by simp); rw [HF3.out] at gc0; obtain ⟨ca0, hca0, ra0⟩ := gc0; have hcb0 : ofCs shModel cz4 = ofCs shModel ca0 := hca0; rw [hcb0]; obtain ⟨wa1, ga1, gb1, gc1⟩ := known_call hK (j := 3) (d := 26) (by kernel_rfl) rfl rfl rfl rfl Tryz.func27 rfl (by kernel_rfl) (by simp); rw [HF3.out] at gc1; obtain ⟨ca1, hca1, ra1⟩ := gc1; have hcb1 : ofCs shExamples cz5 = ofCs shExamples ca1 := hca1; rw [hcb1]; rw [HF3.out]; exact (KS.out ca0 ca1 w1 (ra0.ext gb0) (ra1.ext gb1) f0 f1).mono fun e w3 h => by obtain ⟨b, h1, h2, h3⟩ := h; exact ⟨_, h1, h3, b, rfl, h2⟩)))); rintro u w3 e3 e4 hu; simp only [HF3.out] at hu; obtain ⟨fb0, rfl, hfb⟩ := hu; have Hfb := hid hfb; clear hfb
 simp only [Act.put, ev_tmp, pu1, pu2, pu3, pu4, pu5]
 refine x_mv rfl rfl rfl ?_
 simp only [Act.put, ev_tmp, pu1, pu2, pu3, pu4, pu5]
 refine x_run rfl fun K hK w1 _ => ?_
 go_simp
 refine hK _ ?_
 clear hK K
 refine x_run rfl fun K hK w1 _ => ?_
 go_simp
 refine hK _ ?_
 clear hK K
 refine x_as rfl rfl rfl ?_
 simp only [Act.put, ev_tmp, pu1, pu2, pu3, pu4, pu5]
 refine x_as rfl rfl rfl ?_
 simp only [Act.put, ev_tmp, pu1, pu2, pu3, pu4, pu5]
 refine x_nil ?_
 replace e0 := e0.trans hwf
 replace r0 := r0.ext hwf
 replace r1 := r1.ext hwf
 replace c0 := c0.ext hwf
 replace c1 := c1.ext hwf
 clear hwf
 go_wp2_with (first | ((with_reducible show wpList _ _ _ (Oper.mk _ (Op.load _ _) _ _ _ _ :: _) _ _); refine wl_ldA (s := shModel) (cs := cs0) rfl rfl rfl c0 hl0.out ?_) | ((with_reducible show wpList _ _ _ (Oper.mk _ (Op.load _ _) _ _ _ _ :: _) _ _); refine wl_ldA (s := shExamples) (cs := cs1) rfl rfl rfl c1 hl1.out ?_))
 refine (toModel_ok cs0 D0 _ r0 hb0).mono ?_
 rintro e w6 ⟨cs_6, bs_6, rfl, own_6, nd_6, lo_6, e_6⟩
 replace e0 := e0.trans e_6
 replace r0 := r0.ext e_6
 replace r1 := r1.ext e_6
 replace c0 := c0.ext e_6
 replace c1 := c1.ext e_6
 have rx_6 := own_6.rep
 clear own_6 nd_6 lo_6 e_6
 have hxcs_6 := hid rx_6.size
 have hycs_6 := hid rx_6.one
 go_wp2_with (first | ((with_reducible show wpList _ _ _ (Oper.mk _ (Op.load _ _) _ _ _ _ :: _) _ _); refine wl_ldA (s := shModel) (cs := cs0) rfl rfl rfl c0 hl0.out ?_) | ((with_reducible show wpList _ _ _ (Oper.mk _ (Op.load _ _) _ _ _ _ :: _) _ _); refine wl_ldA (s := shExamples) (cs := cs1) rfl rfl rfl c1 hl1.out ?_) | ((with_reducible show wpList _ _ _ (Oper.mk _ (Op.store _ _ _) _ _ _ _ :: _) _ _); refine wl_stA (s := shModel) (cs := cs_6) rfl rfl rfl rfl (heap_alloc_new _ _) rfl hxcs_6.out hycs_6.out (by decide) ?_; intro _ cx0 ch7; have E7 := (Ext.alloc _ _).chg ch7 (fun b hb => by subst hb; exact Nat.le_refl _); replace e0 := e0.trans E7; replace r0 := r0.ext E7; replace r1 := r1.ext E7; replace c0 := c0.ext E7; replace c1 := c1.ext E7; replace rx_6 := rx_6.ext E7; clear E7 ch7) | ((with_reducible show wpList _ _ _ (Oper.mk _ (Op.load _ _) _ _ _ _ :: _) _ _); refine wl_ldA (s := shModel) (cs := cs_6) rfl rfl rfl cx0 hxcs_6.out ?_))
 refine (toExamples_ok cs1 D1 _ r1 hb1).mono ?_
 rintro e w8 ⟨cs_8, bs_8, rfl, own_8, nd_8, lo_8, e_8⟩
 replace e0 := e0.trans e_8
 replace r0 := r0.ext e_8
 replace r1 := r1.ext e_8
 replace c0 := c0.ext e_8
 replace c1 := c1.ext e_8
 replace rx_6 := rx_6.ext e_8
 replace cx0 := cx0.ext e_8
 have rx_8 := own_8.rep
 clear own_8 nd_8 lo_8 e_8
 have hxcs_8 := hid rx_8.size
 have hycs_8 := hid rx_8.one
 go_wp2_with (first | ((with_reducible show wpList _ _ _ (Oper.mk _ (Op.load _ _) _ _ _ _ :: _) _ _); refine wl_ldA (s := shModel) (cs := cs0) rfl rfl rfl c0 hl0.out ?_) | ((with_reducible show wpList _ _ _ (Oper.mk _ (Op.load _ _) _ _ _ _ :: _) _ _); refine wl_ldA (s := shExamples) (cs := cs1) rfl rfl rfl c1 hl1.out ?_) | ((with_reducible show wpList _ _ _ (Oper.mk _ (Op.load _ _) _ _ _ _ :: _) _ _); refine wl_ldA (s := shModel) (cs := cs_6) rfl rfl rfl cx0 hxcs_6.out ?_) | ((with_reducible show wpList _ _ _ (Oper.mk _ (Op.store _ _ _) _ _ _ _ :: _) _ _); refine wl_stA (s := shExamples) (cs := cs_8) rfl rfl rfl rfl (heap_alloc_new _ _) rfl hxcs_8.out hycs_8.out (by decide) ?_; intro _ cx1 ch9; have E9 := (Ext.alloc _ _).chg ch9 (fun b hb => by subst hb; exact Nat.le_refl _); replace e0 := e0.trans E9; replace r0 := r0.ext E9; replace r1 := r1.ext E9; replace c0 := c0.ext E9; replace c1 := c1.ext E9; replace rx_6 := rx_6.ext E9; replace cx0 := cx0.ext E9; replace rx_8 := rx_8.ext E9; clear E9 ch9) | ((with_reducible show wpList _ _ _ (Oper.mk _ (Op.load _ _) _ _ _ _ :: _) _ _); refine wl_ldA (s := shExamples) (cs := cs_8) rfl rfl rfl cx1 hxcs_8.out ?_))
 refine (K.out cs_6 cs_8 _ rx_6 rx_8 f0 f1).mono ?_
 rintro e w10 ⟨gb0, rfl, hgb, e_10⟩
 have Hgb := hid hgb
 clear hgb
 replace e0 := e0.trans e_10
 replace r0 := r0.ext e_10
 replace r1 := r1.ext e_10
 replace c0 := c0.ext e_10
 replace c1 := c1.ext e_10
 replace rx_6 := rx_6.ext e_10
 replace cx0 := cx0.ext e_10
 replace rx_8 := rx_8.ext e_10
 replace cx1 := cx1.ext e_10
 clear e_10
 go_wp2_with (first | ((with_reducible show wpList _ _ _ (Oper.mk _ (Op.convert _ _ _) _ _ _ _ :: _) _ _); refine wl_conv rfl rfl rfl (by kernel_rfl) underlying_f64 (fover_widen _) ?_; first | (have zz := HCa; intro cb2 wb2 eb2 hb2; have HCb := hid hb2; clear hb2 zz; replace e0 := e0.trans eb2; replace r0 := r0.ext eb2; replace r1 := r1.ext eb2; replace c0 := c0.ext eb2; replace c1 := c1.ext eb2; replace rx_6 := rx_6.ext eb2; replace cx0 := cx0.ext eb2; replace rx_8 := rx_8.ext eb2; replace cx1 := cx1.ext eb2; clear eb2) | (intro cb1 wb1 eb1 hb1; have HCa := hid hb1; clear hb1; replace e0 := e0.trans eb1; replace r0 := r0.ext eb1; replace r1 := r1.ext eb1; replace c0 := c0.ext eb1; replace c1 := c1.ext eb1; replace rx_6 := rx_6.ext eb1; replace cx0 := cx0.ext eb1; replace rx_8 := rx_8.ext eb1; replace cx1 := cx1.ext eb1; clear eb1)) | fail)
 refine (sameFloat_true cb1 cb2 _ (by rw [HCa.out, HCb.out, Hgb.out, Hfb.out])).mono ?_
 rintro e w11 ⟨rfl, e_11⟩
 replace e0 := e0.trans e_11; replace r0 := r0.ext e_11; replace r1 := r1.ext e_11; replace c0 := c0.ext e_11; replace c1 := c1.ext e_11; replace rx_6 := rx_6.ext e_11; replace cx0 := cx0.ext e_11; replace rx_8 := rx_8.ext e_11; replace cx1 := cx1.ext e_11
 clear e_11
 go_wp2_with (first | ((with_reducible show wpList _ _ _ (Oper.mk _ (Op.load _ _) _ _ _ _ :: _) _ _); refine wl_ldA (s := shModel) (cs := cs0) rfl rfl rfl c0 hl0.out ?_) | ((with_reducible show wpList _ _ _ (Oper.mk _ (Op.load _ _) _ _ _ _ :: _) _ _); refine wl_ldA (s := shExamples) (cs := cs1) rfl rfl rfl c1 hl1.out ?_) | ((with_reducible show wpList _ _ _ (Oper.mk _ (Op.load _ _) _ _ _ _ :: _) _ _); refine wl_ldA (s := shModel) (cs := cs_6) rfl rfl rfl cx0 hxcs_6.out ?_) | ((with_reducible show wpList _ _ _ (Oper.mk _ (Op.load _ _) _ _ _ _ :: _) _ _); refine wl_ldA (s := shExamples) (cs := cs_8) rfl rfl rfl cx1 hxcs_8.out ?_))
 replace e0 := e0.trans (Ext.drew _)
 replace r0 := r0.ext (Ext.drew _)
 replace r1 := r1.ext (Ext.drew _)
 replace c0 := c0.ext (Ext.drew _)
 replace c1 := c1.ext (Ext.drew _)
 replace rx_6 := rx_6.ext (Ext.drew _)
 replace cx0 := cx0.ext (Ext.drew _)
 replace rx_8 := rx_8.ext (Ext.drew _)
 replace cx1 := cx1.ext (Ext.drew _)
 obtain ⟨F11, hF11⟩ : ∃ F : Option Tmp → World → Value → Prop, F = fun d W u => (match d with | some 53 => ∃ cs', u = ofCs shModel cs' ∧ Rep W shModel cs' D0 | _ => True) := ⟨_, rfl⟩
 have HF11 := hid hF11
 clear hF11
 refine wp_region_xt 3 (F := F11) (by kernel_rfl) (by kernel_rfl) (by kernel_rfl) (by kernel_rfl) (by kernel_rfl) ?_
 intro wf hwf
 simp only [List.take_succ_cons, List.take_zero, List.drop_succ_cons, List.drop_zero]
 first | (refine x_ldA (s := shModel) (cs := cs0) rfl rfl rfl c0 hl0.out ?_) | (refine x_ldA (s := shExamples) (cs := cs1) rfl rfl rfl c1 hl1.out ?_) | (refine x_ldA (s := shModel) (cs := cs_6) rfl rfl rfl cx0 hxcs_6.out ?_) | (refine x_ldA (s := shExamples) (cs := cs_8) rfl rfl rfl cx1 hxcs_8.out ?_)
 simp only [Act.put, ev_tmp, pu1, pu2, pu3, pu4, pu5]
 first | (refine x_ldA (s := shModel) (cs := cs0) rfl rfl rfl c0 hl0.out ?_) | (refine x_ldA (s := shExamples) (cs := cs1) rfl rfl rfl c1 hl1.out ?_) | (refine x_ldA (s := shModel) (cs := cs_6) rfl rfl rfl cx0 hxcs_6.out ?_) | (refine x_ldA (s := shExamples) (cs := cs_8) rfl rfl rfl cx1 hxcs_8.out ?_)
 simp only [Act.put, ev_tmp, pu1, pu2, pu3, pu4, pu5]
 refine x_callf (f := 9) (args := #[ofCs shModel cs0]) rfl rfl Tryz.func9 rfl (by kernel_rfl) ?_ ?_ ?_; (focus (simp [Act.eval]; done)); (focus (intro w1 hw1; exact ((toModel_ok cs0 D0 w1 (r0.ext hw1) hb0).mono fun e w3 ⟨cs3, bs3, g1, g2, _, _, g3⟩ => ⟨_, g1, g3, by rw [HF11.out]; exact ⟨cs3, rfl, g2.rep⟩⟩))); rintro u w3 e3 e4 hu; simp only [HF11.out] at hu; obtain ⟨cz12, rfl, rz12⟩ := hu; replace rz12 := rz12.ext e4
 simp only [Act.put, ev_tmp, pu1, pu2, pu3, pu4, pu5]
 refine x_nil ?_
 replace e0 := e0.trans hwf
 replace r0 := r0.ext hwf
 replace r1 := r1.ext hwf
 replace c0 := c0.ext hwf
 replace c1 := c1.ext hwf
 replace rx_6 := rx_6.ext hwf
 replace cx0 := cx0.ext hwf
 replace rx_8 := rx_8.ext hwf
 replace cx1 := cx1.ext hwf
 clear hwf
 go_wp2_with fail
 refine (eqModel_ok cs_6 cz12 D0 _ rx_6 rz12 hb0).mono ?_
 rintro e w13 ⟨rfl, e_13⟩
 replace e0 := e0.trans e_13
 replace r0 := r0.ext e_13
 replace r1 := r1.ext e_13
 replace c0 := c0.ext e_13
 replace c1 := c1.ext e_13
 replace rx_6 := rx_6.ext e_13
 replace cx0 := cx0.ext e_13
 replace rx_8 := rx_8.ext e_13
 replace cx1 := cx1.ext e_13
 replace rz12 := rz12.ext e_13
 clear e_13
 go_wp2_with (first | ((with_reducible show wpList _ _ _ (Oper.mk _ (Op.load _ _) _ _ _ _ :: _) _ _); refine wl_ldA (s := shModel) (cs := cs0) rfl rfl rfl c0 hl0.out ?_) | ((with_reducible show wpList _ _ _ (Oper.mk _ (Op.load _ _) _ _ _ _ :: _) _ _); refine wl_ldA (s := shExamples) (cs := cs1) rfl rfl rfl c1 hl1.out ?_) | ((with_reducible show wpList _ _ _ (Oper.mk _ (Op.load _ _) _ _ _ _ :: _) _ _); refine wl_ldA (s := shModel) (cs := cs_6) rfl rfl rfl cx0 hxcs_6.out ?_) | ((with_reducible show wpList _ _ _ (Oper.mk _ (Op.load _ _) _ _ _ _ :: _) _ _); refine wl_ldA (s := shExamples) (cs := cs_8) rfl rfl rfl cx1 hxcs_8.out ?_))
 replace e0 := e0.trans (Ext.drew _)
 replace r0 := r0.ext (Ext.drew _)
 replace r1 := r1.ext (Ext.drew _)
 replace c0 := c0.ext (Ext.drew _)
 replace c1 := c1.ext (Ext.drew _)
 replace rx_6 := rx_6.ext (Ext.drew _)
 replace cx0 := cx0.ext (Ext.drew _)
 replace rx_8 := rx_8.ext (Ext.drew _)
 replace cx1 := cx1.ext (Ext.drew _)
 replace rz12 := rz12.ext (Ext.drew _)
 obtain ⟨F14, hF14⟩ : ∃ F : Option Tmp → World → Value → Prop, F = fun d W u => (match d with | some 58 => ∃ cs', u = ofCs shExamples cs' ∧ Rep W shExamples cs' D1 | _ => True) := ⟨_, rfl⟩
 have HF14 := hid hF14
 clear hF14
 refine wp_region_xt 3 (F := F14) (by kernel_rfl) (by kernel_rfl) (by kernel_rfl) (by kernel_rfl) (by kernel_rfl) ?_
 intro wf hwf
 simp only [List.take_succ_cons, List.take_zero, List.drop_succ_cons, List.drop_zero]
 first | (refine x_ldA (s := shModel) (cs := cs0) rfl rfl rfl c0 hl0.out ?_) | (refine x_ldA (s := shExamples) (cs := cs1) rfl rfl rfl c1 hl1.out ?_) | (refine x_ldA (s := shModel) (cs := cs_6) rfl rfl rfl cx0 hxcs_6.out ?_) | (refine x_ldA (s := shExamples) (cs := cs_8) rfl rfl rfl cx1 hxcs_8.out ?_)
 simp only [Act.put, ev_tmp, pu1, pu2, pu3, pu4, pu5]
 first | (refine x_ldA (s := shModel) (cs := cs0) rfl rfl rfl c0 hl0.out ?_) | (refine x_ldA (s := shExamples) (cs := cs1) rfl rfl rfl c1 hl1.out ?_) | (refine x_ldA (s := shModel) (cs := cs_6) rfl rfl rfl cx0 hxcs_6.out ?_) | (refine x_ldA (s := shExamples) (cs := cs_8) rfl rfl rfl cx1 hxcs_8.out ?_)
 simp only [Act.put, ev_tmp, pu1, pu2, pu3, pu4, pu5]
 refine x_callf (f := 27) (args := #[ofCs shExamples cs1]) rfl rfl Tryz.func27 rfl (by kernel_rfl) ?_ ?_ ?_; (focus (simp [Act.eval]; done)); (focus (intro w1 hw1; exact ((toExamples_ok cs1 D1 w1 (r1.ext hw1) hb1).mono fun e w3 ⟨cs3, bs3, g1, g2, _, _, g3⟩ => ⟨_, g1, g3, by rw [HF14.out]; exact ⟨cs3, rfl, g2.rep⟩⟩))); rintro u w3 e3 e4 hu; simp only [HF14.out] at hu; obtain ⟨cz15, rfl, rz15⟩ := hu; replace rz15 := rz15.ext e4
 simp only [Act.put, ev_tmp, pu1, pu2, pu3, pu4, pu5]
 refine x_nil ?_
 replace e0 := e0.trans hwf
 replace r0 := r0.ext hwf
 replace r1 := r1.ext hwf
 replace c0 := c0.ext hwf
 replace c1 := c1.ext hwf
 replace rx_6 := rx_6.ext hwf
 replace cx0 := cx0.ext hwf
 replace rx_8 := rx_8.ext hwf
 replace cx1 := cx1.ext hwf
 replace rz12 := rz12.ext hwf
 clear hwf
 go_wp2_with fail
 refine (eqExamples_ok cs_8 cz15 D1 _ rx_8 rz15 hb1).mono ?_
 rintro e w16 ⟨rfl, e_16⟩
 replace e0 := e0.trans e_16
 replace r0 := r0.ext e_16
 replace r1 := r1.ext e_16
 replace c0 := c0.ext e_16
 replace c1 := c1.ext e_16
 replace rx_6 := rx_6.ext e_16
 replace cx0 := cx0.ext e_16
 replace rx_8 := rx_8.ext e_16
 replace cx1 := cx1.ext e_16
 replace rz12 := rz12.ext e_16
 replace rz15 := rz15.ext e_16
 clear e_16
 go_wp2
 go_ret
 exact ⟨rfl, e0⟩
end Go.Proofs.YtlimabbeaimdgaaGreat.lEvaluateModel
