/- The reference's tensors, number by number. -/
import Derived.Test.YtlimabbeaimdgaaGreatZ08Evalua
import Derived.Test.YtlimabbeaimdgaaGreatZ07Evalua
set_option linter.unusedSimpArgs false
set_option linter.unusedVariables false
namespace Go.Proofs.YtlimabbeaimdgaaGreat
open Go.RowKit
set_option maxRecDepth 100000 in
set_option maxHeartbeats 4000000 in
theorem l02Scale_any {sp : Option Nat} (bt ot : Nat) (r c : Int) (q0 : Option Addr) (n cp : Nat) (us : List Value) (xs : List Nat) (zb z : Nat) (w : World) (t0 : w.cell? ⟨bt, ot, sp⟩ = some (.int .i64 r)) (t1 : w.cell? ⟨bt, ot + 1, none⟩ = some (.int .i64 c)) (t2 : w.cell? ⟨bt, ot + 2, none⟩ = some (.slice q0 n cp)) (hx : xs.length = n) (hn : n ≤ 1048576) (hp : Cs w q0 us) (hf : F32s us xs) (hz : cn .f32 zb = z) :
 Calls Tryz.prog 95 #[.pointer (some ⟨bt, ot, sp⟩), .float .f32 zb] w (RetTen w r c (sclX n xs z)) := by
 have X := hid hx
 obtain ⟨W0, hW0⟩ : ∃ W0, W0 = w.alloc (.cells #[.int .i64 0, .int .i64 0, .slice none 0 0] 37) := ⟨_, rfl⟩
 have E0 : Ext w W0 := by rw [hW0]; exact Ext.alloc _ _
 have s0 : W0.heap.size = w.heap.size + 1 := by rw [hW0]; simp
 have b1 : HB W0 w.heap.size #[.int .i64 0, .int .i64 0, .slice none 0 0] 37 := by rw [hW0]; exact HB.new _ _ _
 have t0' := E0.cell t0
 have t1' := E0.cell t1
 have t2' := E0.cell t2
 have Y := hid hz
 clear hx t0 t1 t2 hz
 go_enter Tryz.func95, Tryz.ntmps95
 go_wp2
 rw [← hW0]
 clear hW0
 have e1 := Ext.drew W0
 have u0 := e1.cell t0'
 have u1 := e1.cell t1'
 refine wp_region_xt 11 (F := fun _ _ _ => False) (by kernel_rfl) (by kernel_rfl) (by kernel_rfl) (by kernel_rfl) (by kernel_rfl) ?_
 intro wf hwf
 simp only [List.take_succ_cons, List.take_zero, List.drop_succ_cons, List.drop_zero]
 repeat (first
  | (refine x_skip rfl ?_; simp only [Act.put, ev_tmp, pu1, pu2, pu3, pu4, pu5])
  | (refine x_mv rfl rfl rfl ?_; simp only [Act.put, ev_tmp, pu1, pu2, pu3, pu4, pu5])
  | (refine x_as rfl rfl rfl ?_; simp only [Act.put, ev_tmp, pu1, pu2, pu3, pu4, pu5])
  | ((with_reducible show wpX _ _ _ _ _ _ (Oper.mk _ (Op.alloc _) _ _ _ _ :: _) _); refine x_alloc (t := 37) (Z := #[.int .i64 0, .int .i64 0, .slice none 0 0]) rfl (fun w1 => by go_simp) ?_; intro b hb1 hb2 hb3; simp only [Act.put, ev_tmp, pu1, pu2, pu3, pu4, pu5])
  | ((with_reducible show wpX _ _ _ _ _ _ (Oper.mk _ (Op.buildSlice _ _ _) _ _ _ _ :: _) _); refine x_empty (te := 48) (s := 1) rfl (fun w1 => by go_simp) (by decide) ?_; intro g hg; simp only [Act.put, ev_tmp, pu1, pu2, pu3, pu4, pu5])
  | (refine x_run rfl fun K hK w1 hw1 => ?_; have k0 := hw1.cell (u0); have k1 := hw1.cell (u1); go_simp; refine hK _ ?_; clear hK K k0 k1 hw1 w1))
 refine x_nil ?_
 have E1 := e1.trans hwf
 have hb3 : HB wf b #[.int .i64 0, .int .i64 0, .slice none 0 0] 37 := hb3
 have o0 := hb3.cell 0 rfl; have o1 := hb3.cell 1 rfl; have o2 := hb3.cell 2 rfl
 have o3 := hb3.froz 0; have o4 := hb3.froz 1; have o5 := hb3.froz 2
 have hb1' : w.heap.size + 1 ≤ b := by have := e1.size; omega
 have hst : HB (((wf.setCell ⟨b, 0, none⟩ (.int .i64 r)).setCell ⟨b, 1, none⟩ (.int .i64 c)).setCell ⟨b, 2, none⟩ (.slice (some ⟨g, 0, none⟩) 0 0)) b #[.int .i64 r, .int .i64 c, .slice (some ⟨g, 0, none⟩) 0 0] 37 := ((hb3.set 0 _).set 1 _).set 2 _
 have hchg : Chg (fun k => k = b) wf (((wf.setCell ⟨b, 0, none⟩ (.int .i64 r)).setCell ⟨b, 1, none⟩ (.int .i64 c)).setCell ⟨b, 2, none⟩ (.slice (some ⟨g, 0, none⟩) 0 0)) := by (repeat (first | with_reducible exact Chg.refl _ _ | (with_reducible exact Chg.of_ext (by with_reducible assumption)) | with_reducible assumption | ((with_reducible refine Chg.setCell ?_ ?_ _); rotate_left; focus (first | (simp; done) | (simp; omega))) | (with_reducible refine Chg.alloc ?_ _) | (with_reducible refine Chg.drew ?_) | (with_reducible refine Chg.trans ?_ (Chg.of_ext (by with_reducible assumption)))))
 have hg0 := ownsRow_chg hg hchg (fun k hk hs => own_neHB hg hb3 (by decide) k hk hs)
 have he0 := E1.chg hchg (fun k hk => by omega)
 have hb10 := (b1.ext E1).chg hchg (by omega)
 go_wp2
 go_loopw [6] (fun iv wr => ∃ (i : Nat) (vs9 : List Value) (q : Option Addr) (cq : Nat), i ≤ n ∧ iv = .int .i64 (i : Int) ∧ HB wr b #[.int .i64 r, .int .i64 c, .slice q i cq] 37 ∧ HB wr w.heap.size #[.int .i64 0, .int .i64 0, .slice none 0 0] 37 ∧ wr.ownsRow w.heap.size 48 1 (.slice q i cq) i vs9 ∧ Hid (F32s vs9 (ntab i (fun i => fop .mul .f32 (xs.getD i 0) z))) ∧ Ext W0 wr) (fun iv _ => n - (intOf iv).toNat)
 case atStart => exact ⟨0, [], some ⟨g, 0, none⟩, 0, by omega, rfl, hst, hb10, own_base hg0 (by have := e1.size; omega), F32s.nil, he0⟩
 case round =>
  clear b1 hb10 hg0 he0 hst hchg hb3 o0 o1 o2 o3 o4 o5 hg E1 hwf u0 u1
  obtain ⟨i, vs9, q, cq, hi, rfl, b2, b1, own, HV, he⟩ := hrel
  have u2 := he.cell t2'
  by_cases hlt : i < n
  · have eW := he.trans (Ext.drew wr)
    have eD := Ext.drew wr
    have u2 := eW.cell t2'
    have k1 := hp.ext (E0.trans eW)
    have c2 := b2.ext eD
    have c1 := b1.ext eD
    have y2 := c2.cell 2 rfl
    have o1 := own_ext own eD
    go_wp2
    refine wp_region_xt 12 (F := fun _ _ _ => False) (by kernel_rfl) (by kernel_rfl) (by kernel_rfl) (by kernel_rfl) (by kernel_rfl) ?_
    intro wf hwf
    simp only [List.take_succ_cons, List.take_zero, List.drop_succ_cons, List.drop_zero]
    repeat (first
     | (refine x_skip rfl ?_; simp only [Act.put, ev_tmp, pu1, pu2, pu3, pu4, pu5])
     | (refine x_mv rfl rfl rfl ?_; simp only [Act.put, ev_tmp, pu1, pu2, pu3, pu4, pu5])
     | (refine x_as rfl rfl rfl ?_; simp only [Act.put, ev_tmp, pu1, pu2, pu3, pu4, pu5])
     | ((with_reducible show wpX _ _ _ _ _ _ (Oper.mk _ (Op.indexAddr _ _ _) _ _ _ _ :: Oper.mk _ (Op.load _ _) _ _ _ _ :: _) _); refine x_ldF rfl rfl (fun _ => rfl) rfl (fun _ => rfl) rfl rfl k1 hf X.out (by omega) (by omega) ?_; intro r1 g1; have G1 := hid g1; clear g1; simp only [Act.put, ev_tmp, pu1, pu2, pu3, pu4, pu5])
     | ((with_reducible show wpX _ _ _ _ _ _ (Oper.mk _ (Op.binOp _ _ _ _ _) _ _ _ _ :: _) _); refine x_fop rfl rfl rfl rfl rfl ?_; intro b3 g3; have G3 := hid g3; clear g3; simp only [Act.put, ev_tmp, pu1, pu2, pu3, pu4, pu5])
     | (refine x_build1 (u := .float .f32 b3) rfl rfl rfl rfl ?_; intro g7 hg7 hg7' hc7; simp only [Act.put, ev_tmp, pu1, pu2, pu3, pu4, pu5])
     | (refine x_run rfl fun K hK w1 hw1 => ?_; have k0 := hw1.cell (y2); have k1 := hw1.cell (u2); go_simp; refine hK _ ?_; clear hK K k0 k1 hw1 w1))
    refine x_nil ?_
    have d2 := c2.ext hwf
    have d1 := c1.ext hwf
    have o2 := own_ext o1 hwf
    have hz := d2.lt
    have l2 := d2.cell 2 rfl
    have f2 := d2.froz 2
    have hsz := he.trans (eD.trans hwf)
    have hs2 := hsz.size
    have hv : cn .f32 b3 = (fun i => fop .mul .f32 (xs.getD i 0) z) i := by have h1 := G1.out; simp only [Int.toNat_natCast] at h1; rw [G3.out, h1, Y.out]
    have Hb := hid hv
    clear y2 k1 hv u2
    go_wp2_with ((with_reducible show wpList _ _ _ (Oper.mk _ (Op.call _) _ _ _ _ :: _) _ _); refine wl_app1s rfl rfl rfl rfl o2 hc7 rfl (by simp [Value.cells, Value.oneCell']) (by unfold maxLen; omega) (by omega) (by omega) ?_; intro g9 c9 w9 own9 gr9 hg9; have d3 := d2.chg (Chg.of_grown gr9) (fun h => own_neHB o2 d2 (by decide) _ h.symm rfl); have l3 := d3.cell 2 rfl; have f3 := d3.froz 2)
    go_roundw
    case rel =>
     have e9 : Ext w w9 := (E0.trans hsz).grown gr9 (fun k hk => by have := own_le o2 k hk; omega)
     have hch := chg_cell w9 b 2 (.slice (some ⟨g9, 0, none⟩) (i + 1) c9)
     exact ⟨i + 1, _, some ⟨g9, 0, none⟩, c9, by omega, by go_num, d3.set 2 _, (d1.chg (Chg.of_grown gr9) (fun h => own_neHB o2 d1 (by decide) _ h.symm rfl)).chg hch (fun h => by omega), ownsRow_chg own9 hch (fun k hk hs => own_neHB own9 d3 (by decide) k hk hs), f32s_snoc HV.out Hb.out, (hsz.grown gr9 (fun k hk => by have h1 := own_le o2 k hk; have := (own_neHB o2 d1 (by decide) k hk); omega)).chg hch (fun k hk => by omega)⟩
    case measure => simp [intOf]; omega
  · obtain rfl : i = n := by omega
    have y0 := b2.cell 0 rfl; have y1 := b2.cell 1 rfl; have y2 := b2.cell 2 rfl
    have n0 := b1.cell 0 rfl; have n1 := b1.cell 1 rfl; have n2 := b1.cell 2 rfl
    have m0 := b1.froz 0; have m1 := b1.froz 1; have m2 := b1.froz 2
    go_wp2
    refine bodyPost_ret (v := .agg #[.int .i64 r, .int .i64 c, .slice q i cq]) (by simp [results, Tryz.results95, go_sem, n0, n1, n2, m0, m1, m2]) rfl ?_
    exact RetTen.of (ntab_len _ _) (ownsRow_chg own (S := fun k => k = w.heap.size) (by (repeat (first | with_reducible exact Chg.refl _ _ | (with_reducible exact Chg.of_ext (by with_reducible assumption)) | with_reducible assumption | ((with_reducible refine Chg.setCell ?_ ?_ _); rotate_left; focus (first | (simp; done) | (simp; omega))) | (with_reducible refine Chg.alloc ?_ _) | (with_reducible refine Chg.drew ?_) | (with_reducible refine Chg.trans ?_ (Chg.of_ext (by with_reducible assumption)))))) (fun k hk hs => own_neHB own b1 (by decide) k hk hs)) HV.out rfl ((E0.trans he).chg (S := fun k => k = w.heap.size) (by (repeat (first | with_reducible exact Chg.refl _ _ | (with_reducible exact Chg.of_ext (by with_reducible assumption)) | with_reducible assumption | ((with_reducible refine Chg.setCell ?_ ?_ _); rotate_left; focus (first | (simp; done) | (simp; omega))) | (with_reducible refine Chg.alloc ?_ _) | (with_reducible refine Chg.drew ?_) | (with_reducible refine Chg.trans ?_ (Chg.of_ext (by with_reducible assumption)))))) (fun k hk => by omega))
set_option maxRecDepth 100000 in
set_option maxHeartbeats 4000000 in
theorem l02Add_any {sp sq : Option Nat} (bt ot : Nat) (r c : Int) (q0 : Option Addr) (n cp : Nat) (us : List Value) (xs : List Nat) (bu ou : Nat) (q1 : Option Addr) (m cm : Nat) (vs : List Value) (ys : List Nat) (w : World) (t0 : w.cell? ⟨bt, ot, sp⟩ = some (.int .i64 r)) (t1 : w.cell? ⟨bt, ot + 1, none⟩ = some (.int .i64 c)) (t2 : w.cell? ⟨bt, ot + 2, none⟩ = some (.slice q0 n cp)) (hx : xs.length = n) (hn : n ≤ 1048576) (hp : Cs w q0 us) (hf : F32s us xs) (t3 : w.cell? ⟨bu, ou + 2, none⟩ = some (.slice q1 m cm)) (hy : ys.length = m) (hnm : n ≤ m) (hm : m ≤ 1048576) (hp2 : Cs w q1 vs) (hf2 : F32s vs ys) :
 Calls Tryz.prog 91 #[.pointer (some ⟨bt, ot, sp⟩), .pointer (some ⟨bu, ou, sq⟩)] w (RetTen w r c (addX n xs ys)) := by
 have X := hid hx
 obtain ⟨W0, hW0⟩ : ∃ W0, W0 = w.alloc (.cells #[.int .i64 0, .int .i64 0, .slice none 0 0] 37) := ⟨_, rfl⟩
 have E0 : Ext w W0 := by rw [hW0]; exact Ext.alloc _ _
 have s0 : W0.heap.size = w.heap.size + 1 := by rw [hW0]; simp
 have b1 : HB W0 w.heap.size #[.int .i64 0, .int .i64 0, .slice none 0 0] 37 := by rw [hW0]; exact HB.new _ _ _
 have t0' := E0.cell t0
 have t1' := E0.cell t1
 have t2' := E0.cell t2
 have Y := hid hy
 have t3' := E0.cell t3
 clear hx t0 t1 t2 t3 hy
 go_enter Tryz.func91, Tryz.ntmps91
 go_wp2
 rw [← hW0]
 clear hW0
 have e1 := Ext.drew W0
 have u0 := e1.cell t0'
 have u1 := e1.cell t1'
 refine wp_region_xt 11 (F := fun _ _ _ => False) (by kernel_rfl) (by kernel_rfl) (by kernel_rfl) (by kernel_rfl) (by kernel_rfl) ?_
 intro wf hwf
 simp only [List.take_succ_cons, List.take_zero, List.drop_succ_cons, List.drop_zero]
 repeat (first
  | (refine x_skip rfl ?_; simp only [Act.put, ev_tmp, pu1, pu2, pu3, pu4, pu5])
  | (refine x_mv rfl rfl rfl ?_; simp only [Act.put, ev_tmp, pu1, pu2, pu3, pu4, pu5])
  | (refine x_as rfl rfl rfl ?_; simp only [Act.put, ev_tmp, pu1, pu2, pu3, pu4, pu5])
  | ((with_reducible show wpX _ _ _ _ _ _ (Oper.mk _ (Op.alloc _) _ _ _ _ :: _) _); refine x_alloc (t := 37) (Z := #[.int .i64 0, .int .i64 0, .slice none 0 0]) rfl (fun w1 => by go_simp) ?_; intro b hb1 hb2 hb3; simp only [Act.put, ev_tmp, pu1, pu2, pu3, pu4, pu5])
  | ((with_reducible show wpX _ _ _ _ _ _ (Oper.mk _ (Op.buildSlice _ _ _) _ _ _ _ :: _) _); refine x_empty (te := 48) (s := 1) rfl (fun w1 => by go_simp) (by decide) ?_; intro g hg; simp only [Act.put, ev_tmp, pu1, pu2, pu3, pu4, pu5])
  | (refine x_run rfl fun K hK w1 hw1 => ?_; have k0 := hw1.cell (u0); have k1 := hw1.cell (u1); go_simp; refine hK _ ?_; clear hK K k0 k1 hw1 w1))
 refine x_nil ?_
 have E1 := e1.trans hwf
 have hb3 : HB wf b #[.int .i64 0, .int .i64 0, .slice none 0 0] 37 := hb3
 have o0 := hb3.cell 0 rfl; have o1 := hb3.cell 1 rfl; have o2 := hb3.cell 2 rfl
 have o3 := hb3.froz 0; have o4 := hb3.froz 1; have o5 := hb3.froz 2
 have hb1' : w.heap.size + 1 ≤ b := by have := e1.size; omega
 have hst : HB (((wf.setCell ⟨b, 0, none⟩ (.int .i64 r)).setCell ⟨b, 1, none⟩ (.int .i64 c)).setCell ⟨b, 2, none⟩ (.slice (some ⟨g, 0, none⟩) 0 0)) b #[.int .i64 r, .int .i64 c, .slice (some ⟨g, 0, none⟩) 0 0] 37 := ((hb3.set 0 _).set 1 _).set 2 _
 have hchg : Chg (fun k => k = b) wf (((wf.setCell ⟨b, 0, none⟩ (.int .i64 r)).setCell ⟨b, 1, none⟩ (.int .i64 c)).setCell ⟨b, 2, none⟩ (.slice (some ⟨g, 0, none⟩) 0 0)) := by (repeat (first | with_reducible exact Chg.refl _ _ | (with_reducible exact Chg.of_ext (by with_reducible assumption)) | with_reducible assumption | ((with_reducible refine Chg.setCell ?_ ?_ _); rotate_left; focus (first | (simp; done) | (simp; omega))) | (with_reducible refine Chg.alloc ?_ _) | (with_reducible refine Chg.drew ?_) | (with_reducible refine Chg.trans ?_ (Chg.of_ext (by with_reducible assumption)))))
 have hg0 := ownsRow_chg hg hchg (fun k hk hs => own_neHB hg hb3 (by decide) k hk hs)
 have he0 := E1.chg hchg (fun k hk => by omega)
 have hb10 := (b1.ext E1).chg hchg (by omega)
 go_wp2
 go_loopw [6] (fun iv wr => ∃ (i : Nat) (vs9 : List Value) (q : Option Addr) (cq : Nat), i ≤ n ∧ iv = .int .i64 (i : Int) ∧ HB wr b #[.int .i64 r, .int .i64 c, .slice q i cq] 37 ∧ HB wr w.heap.size #[.int .i64 0, .int .i64 0, .slice none 0 0] 37 ∧ wr.ownsRow w.heap.size 48 1 (.slice q i cq) i vs9 ∧ Hid (F32s vs9 (ntab i (fun i => fop .add .f32 (xs.getD i 0) (ys.getD i 0)))) ∧ Ext W0 wr) (fun iv _ => n - (intOf iv).toNat)
 case atStart => exact ⟨0, [], some ⟨g, 0, none⟩, 0, by omega, rfl, hst, hb10, own_base hg0 (by have := e1.size; omega), F32s.nil, he0⟩
 case round =>
  clear b1 hb10 hg0 he0 hst hchg hb3 o0 o1 o2 o3 o4 o5 hg E1 hwf u0 u1
  obtain ⟨i, vs9, q, cq, hi, rfl, b2, b1, own, HV, he⟩ := hrel
  have u2 := he.cell t2'
  by_cases hlt : i < n
  · have eW := he.trans (Ext.drew wr)
    have eD := Ext.drew wr
    have u2 := eW.cell t2'
    have k1 := hp.ext (E0.trans eW)
    have u3 := eW.cell t3'
    have k2 := hp2.ext (E0.trans eW)
    have c2 := b2.ext eD
    have c1 := b1.ext eD
    have y2 := c2.cell 2 rfl
    have o1 := own_ext own eD
    go_wp2
    refine wp_region_xt 18 (F := fun _ _ _ => False) (by kernel_rfl) (by kernel_rfl) (by kernel_rfl) (by kernel_rfl) (by kernel_rfl) ?_
    intro wf hwf
    simp only [List.take_succ_cons, List.take_zero, List.drop_succ_cons, List.drop_zero]
    repeat (first
     | (refine x_skip rfl ?_; simp only [Act.put, ev_tmp, pu1, pu2, pu3, pu4, pu5])
     | (refine x_mv rfl rfl rfl ?_; simp only [Act.put, ev_tmp, pu1, pu2, pu3, pu4, pu5])
     | (refine x_as rfl rfl rfl ?_; simp only [Act.put, ev_tmp, pu1, pu2, pu3, pu4, pu5])
     | ((with_reducible show wpX _ _ _ _ _ _ (Oper.mk _ (Op.indexAddr _ _ _) _ _ _ _ :: Oper.mk _ (Op.load _ _) _ _ _ _ :: _) _); refine x_ldF rfl rfl (fun _ => rfl) rfl (fun _ => rfl) rfl rfl k1 hf X.out (by omega) (by omega) ?_; intro r1 g1; have G1 := hid g1; clear g1; simp only [Act.put, ev_tmp, pu1, pu2, pu3, pu4, pu5])
     | ((with_reducible show wpX _ _ _ _ _ _ (Oper.mk _ (Op.indexAddr _ _ _) _ _ _ _ :: Oper.mk _ (Op.load _ _) _ _ _ _ :: _) _); refine x_ldF rfl rfl (fun _ => rfl) rfl (fun _ => rfl) rfl rfl k2 hf2 Y.out (by omega) (by omega) ?_; intro r2 g2; have G2 := hid g2; clear g2; simp only [Act.put, ev_tmp, pu1, pu2, pu3, pu4, pu5])
     | ((with_reducible show wpX _ _ _ _ _ _ (Oper.mk _ (Op.binOp _ _ _ _ _) _ _ _ _ :: _) _); refine x_fop rfl rfl rfl rfl rfl ?_; intro b3 g3; have G3 := hid g3; clear g3; simp only [Act.put, ev_tmp, pu1, pu2, pu3, pu4, pu5])
     | (refine x_build1 (u := .float .f32 b3) rfl rfl rfl rfl ?_; intro g7 hg7 hg7' hc7; simp only [Act.put, ev_tmp, pu1, pu2, pu3, pu4, pu5])
     | (refine x_run rfl fun K hK w1 hw1 => ?_; have k0 := hw1.cell (y2); have k1 := hw1.cell (u2); have k2 := hw1.cell (u3); go_simp; refine hK _ ?_; clear hK K k0 k1 k2 hw1 w1))
    refine x_nil ?_
    have d2 := c2.ext hwf
    have d1 := c1.ext hwf
    have o2 := own_ext o1 hwf
    have hz := d2.lt
    have l2 := d2.cell 2 rfl
    have f2 := d2.froz 2
    have hsz := he.trans (eD.trans hwf)
    have hs2 := hsz.size
    have hv : cn .f32 b3 = (fun i => fop .add .f32 (xs.getD i 0) (ys.getD i 0)) i := by have h1 := G1.out; have h2 := G2.out; simp only [Int.toNat_natCast] at h1 h2; rw [G3.out, h1, h2]
    have Hb := hid hv
    clear y2 k1 hv u2
    go_wp2_with ((with_reducible show wpList _ _ _ (Oper.mk _ (Op.call _) _ _ _ _ :: _) _ _); refine wl_app1s rfl rfl rfl rfl o2 hc7 rfl (by simp [Value.cells, Value.oneCell']) (by unfold maxLen; omega) (by omega) (by omega) ?_; intro g9 c9 w9 own9 gr9 hg9; have d3 := d2.chg (Chg.of_grown gr9) (fun h => own_neHB o2 d2 (by decide) _ h.symm rfl); have l3 := d3.cell 2 rfl; have f3 := d3.froz 2)
    go_roundw
    case rel =>
     have e9 : Ext w w9 := (E0.trans hsz).grown gr9 (fun k hk => by have := own_le o2 k hk; omega)
     have hch := chg_cell w9 b 2 (.slice (some ⟨g9, 0, none⟩) (i + 1) c9)
     exact ⟨i + 1, _, some ⟨g9, 0, none⟩, c9, by omega, by go_num, d3.set 2 _, (d1.chg (Chg.of_grown gr9) (fun h => own_neHB o2 d1 (by decide) _ h.symm rfl)).chg hch (fun h => by omega), ownsRow_chg own9 hch (fun k hk hs => own_neHB own9 d3 (by decide) k hk hs), f32s_snoc HV.out Hb.out, (hsz.grown gr9 (fun k hk => by have h1 := own_le o2 k hk; have := (own_neHB o2 d1 (by decide) k hk); omega)).chg hch (fun k hk => by omega)⟩
    case measure => simp [intOf]; omega
  · obtain rfl : i = n := by omega
    have y0 := b2.cell 0 rfl; have y1 := b2.cell 1 rfl; have y2 := b2.cell 2 rfl
    have n0 := b1.cell 0 rfl; have n1 := b1.cell 1 rfl; have n2 := b1.cell 2 rfl
    have m0 := b1.froz 0; have m1 := b1.froz 1; have m2 := b1.froz 2
    go_wp2
    refine bodyPost_ret (v := .agg #[.int .i64 r, .int .i64 c, .slice q i cq]) (by simp [results, Tryz.results91, go_sem, n0, n1, n2, m0, m1, m2]) rfl ?_
    exact RetTen.of (ntab_len _ _) (ownsRow_chg own (S := fun k => k = w.heap.size) (by (repeat (first | with_reducible exact Chg.refl _ _ | (with_reducible exact Chg.of_ext (by with_reducible assumption)) | with_reducible assumption | ((with_reducible refine Chg.setCell ?_ ?_ _); rotate_left; focus (first | (simp; done) | (simp; omega))) | (with_reducible refine Chg.alloc ?_ _) | (with_reducible refine Chg.drew ?_) | (with_reducible refine Chg.trans ?_ (Chg.of_ext (by with_reducible assumption)))))) (fun k hk hs => own_neHB own b1 (by decide) k hk hs)) HV.out rfl ((E0.trans he).chg (S := fun k => k = w.heap.size) (by (repeat (first | with_reducible exact Chg.refl _ _ | (with_reducible exact Chg.of_ext (by with_reducible assumption)) | with_reducible assumption | ((with_reducible refine Chg.setCell ?_ ?_ _); rotate_left; focus (first | (simp; done) | (simp; omega))) | (with_reducible refine Chg.alloc ?_ _) | (with_reducible refine Chg.drew ?_) | (with_reducible refine Chg.trans ?_ (Chg.of_ext (by with_reducible assumption)))))) (fun k hk => by omega))
set_option maxRecDepth 100000 in
set_option maxHeartbeats 4000000 in
theorem l02Mul_any {sp sq : Option Nat} (bt ot : Nat) (r c : Int) (q0 : Option Addr) (n cp : Nat) (us : List Value) (xs : List Nat) (bu ou : Nat) (q1 : Option Addr) (m cm : Nat) (vs : List Value) (ys : List Nat) (w : World) (t0 : w.cell? ⟨bt, ot, sp⟩ = some (.int .i64 r)) (t1 : w.cell? ⟨bt, ot + 1, none⟩ = some (.int .i64 c)) (t2 : w.cell? ⟨bt, ot + 2, none⟩ = some (.slice q0 n cp)) (hx : xs.length = n) (hn : n ≤ 1048576) (hp : Cs w q0 us) (hf : F32s us xs) (t3 : w.cell? ⟨bu, ou + 2, none⟩ = some (.slice q1 m cm)) (hy : ys.length = m) (hnm : n ≤ m) (hm : m ≤ 1048576) (hp2 : Cs w q1 vs) (hf2 : F32s vs ys) :
 Calls Tryz.prog 93 #[.pointer (some ⟨bt, ot, sp⟩), .pointer (some ⟨bu, ou, sq⟩)] w (RetTen w r c (mulX n xs ys)) := by
 have X := hid hx
 obtain ⟨W0, hW0⟩ : ∃ W0, W0 = w.alloc (.cells #[.int .i64 0, .int .i64 0, .slice none 0 0] 37) := ⟨_, rfl⟩
 have E0 : Ext w W0 := by rw [hW0]; exact Ext.alloc _ _
 have s0 : W0.heap.size = w.heap.size + 1 := by rw [hW0]; simp
 have b1 : HB W0 w.heap.size #[.int .i64 0, .int .i64 0, .slice none 0 0] 37 := by rw [hW0]; exact HB.new _ _ _
 have t0' := E0.cell t0
 have t1' := E0.cell t1
 have t2' := E0.cell t2
 have Y := hid hy
 have t3' := E0.cell t3
 clear hx t0 t1 t2 t3 hy
 go_enter Tryz.func93, Tryz.ntmps93
 go_wp2
 rw [← hW0]
 clear hW0
 have e1 := Ext.drew W0
 have u0 := e1.cell t0'
 have u1 := e1.cell t1'
 refine wp_region_xt 11 (F := fun _ _ _ => False) (by kernel_rfl) (by kernel_rfl) (by kernel_rfl) (by kernel_rfl) (by kernel_rfl) ?_
 intro wf hwf
 simp only [List.take_succ_cons, List.take_zero, List.drop_succ_cons, List.drop_zero]
 repeat (first
  | (refine x_skip rfl ?_; simp only [Act.put, ev_tmp, pu1, pu2, pu3, pu4, pu5])
  | (refine x_mv rfl rfl rfl ?_; simp only [Act.put, ev_tmp, pu1, pu2, pu3, pu4, pu5])
  | (refine x_as rfl rfl rfl ?_; simp only [Act.put, ev_tmp, pu1, pu2, pu3, pu4, pu5])
  | ((with_reducible show wpX _ _ _ _ _ _ (Oper.mk _ (Op.alloc _) _ _ _ _ :: _) _); refine x_alloc (t := 37) (Z := #[.int .i64 0, .int .i64 0, .slice none 0 0]) rfl (fun w1 => by go_simp) ?_; intro b hb1 hb2 hb3; simp only [Act.put, ev_tmp, pu1, pu2, pu3, pu4, pu5])
  | ((with_reducible show wpX _ _ _ _ _ _ (Oper.mk _ (Op.buildSlice _ _ _) _ _ _ _ :: _) _); refine x_empty (te := 48) (s := 1) rfl (fun w1 => by go_simp) (by decide) ?_; intro g hg; simp only [Act.put, ev_tmp, pu1, pu2, pu3, pu4, pu5])
  | (refine x_run rfl fun K hK w1 hw1 => ?_; have k0 := hw1.cell (u0); have k1 := hw1.cell (u1); go_simp; refine hK _ ?_; clear hK K k0 k1 hw1 w1))
 refine x_nil ?_
 have E1 := e1.trans hwf
 have hb3 : HB wf b #[.int .i64 0, .int .i64 0, .slice none 0 0] 37 := hb3
 have o0 := hb3.cell 0 rfl; have o1 := hb3.cell 1 rfl; have o2 := hb3.cell 2 rfl
 have o3 := hb3.froz 0; have o4 := hb3.froz 1; have o5 := hb3.froz 2
 have hb1' : w.heap.size + 1 ≤ b := by have := e1.size; omega
 have hst : HB (((wf.setCell ⟨b, 0, none⟩ (.int .i64 r)).setCell ⟨b, 1, none⟩ (.int .i64 c)).setCell ⟨b, 2, none⟩ (.slice (some ⟨g, 0, none⟩) 0 0)) b #[.int .i64 r, .int .i64 c, .slice (some ⟨g, 0, none⟩) 0 0] 37 := ((hb3.set 0 _).set 1 _).set 2 _
 have hchg : Chg (fun k => k = b) wf (((wf.setCell ⟨b, 0, none⟩ (.int .i64 r)).setCell ⟨b, 1, none⟩ (.int .i64 c)).setCell ⟨b, 2, none⟩ (.slice (some ⟨g, 0, none⟩) 0 0)) := by (repeat (first | with_reducible exact Chg.refl _ _ | (with_reducible exact Chg.of_ext (by with_reducible assumption)) | with_reducible assumption | ((with_reducible refine Chg.setCell ?_ ?_ _); rotate_left; focus (first | (simp; done) | (simp; omega))) | (with_reducible refine Chg.alloc ?_ _) | (with_reducible refine Chg.drew ?_) | (with_reducible refine Chg.trans ?_ (Chg.of_ext (by with_reducible assumption)))))
 have hg0 := ownsRow_chg hg hchg (fun k hk hs => own_neHB hg hb3 (by decide) k hk hs)
 have he0 := E1.chg hchg (fun k hk => by omega)
 have hb10 := (b1.ext E1).chg hchg (by omega)
 go_wp2
 go_loopw [6] (fun iv wr => ∃ (i : Nat) (vs9 : List Value) (q : Option Addr) (cq : Nat), i ≤ n ∧ iv = .int .i64 (i : Int) ∧ HB wr b #[.int .i64 r, .int .i64 c, .slice q i cq] 37 ∧ HB wr w.heap.size #[.int .i64 0, .int .i64 0, .slice none 0 0] 37 ∧ wr.ownsRow w.heap.size 48 1 (.slice q i cq) i vs9 ∧ Hid (F32s vs9 (ntab i (fun i => fop .mul .f32 (xs.getD i 0) (ys.getD i 0)))) ∧ Ext W0 wr) (fun iv _ => n - (intOf iv).toNat)
 case atStart => exact ⟨0, [], some ⟨g, 0, none⟩, 0, by omega, rfl, hst, hb10, own_base hg0 (by have := e1.size; omega), F32s.nil, he0⟩
 case round =>
  clear b1 hb10 hg0 he0 hst hchg hb3 o0 o1 o2 o3 o4 o5 hg E1 hwf u0 u1
  obtain ⟨i, vs9, q, cq, hi, rfl, b2, b1, own, HV, he⟩ := hrel
  have u2 := he.cell t2'
  by_cases hlt : i < n
  · have eW := he.trans (Ext.drew wr)
    have eD := Ext.drew wr
    have u2 := eW.cell t2'
    have k1 := hp.ext (E0.trans eW)
    have u3 := eW.cell t3'
    have k2 := hp2.ext (E0.trans eW)
    have c2 := b2.ext eD
    have c1 := b1.ext eD
    have y2 := c2.cell 2 rfl
    have o1 := own_ext own eD
    go_wp2
    refine wp_region_xt 18 (F := fun _ _ _ => False) (by kernel_rfl) (by kernel_rfl) (by kernel_rfl) (by kernel_rfl) (by kernel_rfl) ?_
    intro wf hwf
    simp only [List.take_succ_cons, List.take_zero, List.drop_succ_cons, List.drop_zero]
    repeat (first
     | (refine x_skip rfl ?_; simp only [Act.put, ev_tmp, pu1, pu2, pu3, pu4, pu5])
     | (refine x_mv rfl rfl rfl ?_; simp only [Act.put, ev_tmp, pu1, pu2, pu3, pu4, pu5])
     | (refine x_as rfl rfl rfl ?_; simp only [Act.put, ev_tmp, pu1, pu2, pu3, pu4, pu5])
     | ((with_reducible show wpX _ _ _ _ _ _ (Oper.mk _ (Op.indexAddr _ _ _) _ _ _ _ :: Oper.mk _ (Op.load _ _) _ _ _ _ :: _) _); refine x_ldF rfl rfl (fun _ => rfl) rfl (fun _ => rfl) rfl rfl k1 hf X.out (by omega) (by omega) ?_; intro r1 g1; have G1 := hid g1; clear g1; simp only [Act.put, ev_tmp, pu1, pu2, pu3, pu4, pu5])
     | ((with_reducible show wpX _ _ _ _ _ _ (Oper.mk _ (Op.indexAddr _ _ _) _ _ _ _ :: Oper.mk _ (Op.load _ _) _ _ _ _ :: _) _); refine x_ldF rfl rfl (fun _ => rfl) rfl (fun _ => rfl) rfl rfl k2 hf2 Y.out (by omega) (by omega) ?_; intro r2 g2; have G2 := hid g2; clear g2; simp only [Act.put, ev_tmp, pu1, pu2, pu3, pu4, pu5])
     | ((with_reducible show wpX _ _ _ _ _ _ (Oper.mk _ (Op.binOp _ _ _ _ _) _ _ _ _ :: _) _); refine x_fop rfl rfl rfl rfl rfl ?_; intro b3 g3; have G3 := hid g3; clear g3; simp only [Act.put, ev_tmp, pu1, pu2, pu3, pu4, pu5])
     | (refine x_build1 (u := .float .f32 b3) rfl rfl rfl rfl ?_; intro g7 hg7 hg7' hc7; simp only [Act.put, ev_tmp, pu1, pu2, pu3, pu4, pu5])
     | (refine x_run rfl fun K hK w1 hw1 => ?_; have k0 := hw1.cell (y2); have k1 := hw1.cell (u2); have k2 := hw1.cell (u3); go_simp; refine hK _ ?_; clear hK K k0 k1 k2 hw1 w1))
    refine x_nil ?_
    have d2 := c2.ext hwf
    have d1 := c1.ext hwf
    have o2 := own_ext o1 hwf
    have hz := d2.lt
    have l2 := d2.cell 2 rfl
    have f2 := d2.froz 2
    have hsz := he.trans (eD.trans hwf)
    have hs2 := hsz.size
    have hv : cn .f32 b3 = (fun i => fop .mul .f32 (xs.getD i 0) (ys.getD i 0)) i := by have h1 := G1.out; have h2 := G2.out; simp only [Int.toNat_natCast] at h1 h2; rw [G3.out, h1, h2]
    have Hb := hid hv
    clear y2 k1 hv u2
    go_wp2_with ((with_reducible show wpList _ _ _ (Oper.mk _ (Op.call _) _ _ _ _ :: _) _ _); refine wl_app1s rfl rfl rfl rfl o2 hc7 rfl (by simp [Value.cells, Value.oneCell']) (by unfold maxLen; omega) (by omega) (by omega) ?_; intro g9 c9 w9 own9 gr9 hg9; have d3 := d2.chg (Chg.of_grown gr9) (fun h => own_neHB o2 d2 (by decide) _ h.symm rfl); have l3 := d3.cell 2 rfl; have f3 := d3.froz 2)
    go_roundw
    case rel =>
     have e9 : Ext w w9 := (E0.trans hsz).grown gr9 (fun k hk => by have := own_le o2 k hk; omega)
     have hch := chg_cell w9 b 2 (.slice (some ⟨g9, 0, none⟩) (i + 1) c9)
     exact ⟨i + 1, _, some ⟨g9, 0, none⟩, c9, by omega, by go_num, d3.set 2 _, (d1.chg (Chg.of_grown gr9) (fun h => own_neHB o2 d1 (by decide) _ h.symm rfl)).chg hch (fun h => by omega), ownsRow_chg own9 hch (fun k hk hs => own_neHB own9 d3 (by decide) k hk hs), f32s_snoc HV.out Hb.out, (hsz.grown gr9 (fun k hk => by have h1 := own_le o2 k hk; have := (own_neHB o2 d1 (by decide) k hk); omega)).chg hch (fun k hk => by omega)⟩
    case measure => simp [intOf]; omega
  · obtain rfl : i = n := by omega
    have y0 := b2.cell 0 rfl; have y1 := b2.cell 1 rfl; have y2 := b2.cell 2 rfl
    have n0 := b1.cell 0 rfl; have n1 := b1.cell 1 rfl; have n2 := b1.cell 2 rfl
    have m0 := b1.froz 0; have m1 := b1.froz 1; have m2 := b1.froz 2
    go_wp2
    refine bodyPost_ret (v := .agg #[.int .i64 r, .int .i64 c, .slice q i cq]) (by simp [results, Tryz.results93, go_sem, n0, n1, n2, m0, m1, m2]) rfl ?_
    exact RetTen.of (ntab_len _ _) (ownsRow_chg own (S := fun k => k = w.heap.size) (by (repeat (first | with_reducible exact Chg.refl _ _ | (with_reducible exact Chg.of_ext (by with_reducible assumption)) | with_reducible assumption | ((with_reducible refine Chg.setCell ?_ ?_ _); rotate_left; focus (first | (simp; done) | (simp; omega))) | (with_reducible refine Chg.alloc ?_ _) | (with_reducible refine Chg.drew ?_) | (with_reducible refine Chg.trans ?_ (Chg.of_ext (by with_reducible assumption)))))) (fun k hk hs => own_neHB own b1 (by decide) k hk hs)) HV.out rfl ((E0.trans he).chg (S := fun k => k = w.heap.size) (by (repeat (first | with_reducible exact Chg.refl _ _ | (with_reducible exact Chg.of_ext (by with_reducible assumption)) | with_reducible assumption | ((with_reducible refine Chg.setCell ?_ ?_ _); rotate_left; focus (first | (simp; done) | (simp; omega))) | (with_reducible refine Chg.alloc ?_ _) | (with_reducible refine Chg.drew ?_) | (with_reducible refine Chg.trans ?_ (Chg.of_ext (by with_reducible assumption)))))) (fun k hk => by omega))
set_option maxRecDepth 100000 in
set_option maxHeartbeats 4000000 in
theorem l02AddRow_any {sp : Option Nat} (bt ot : Nat) (r : Int) (q0 : Option Addr) (n cp : Nat) (us : List Value) (xs : List Nat) (q1 : Option Addr) (m cm : Nat) (vs : List Value) (ys : List Nat) (w : World) (t0 : w.cell? ⟨bt, ot, sp⟩ = some (.int .i64 r)) (t1 : w.cell? ⟨bt, ot + 1, none⟩ = some (.int .i64 m)) (t2 : w.cell? ⟨bt, ot + 2, none⟩ = some (.slice q0 n cp)) (hx : xs.length = n) (hn : n ≤ 1048576) (hp : Cs w q0 us) (hf : F32s us xs) (hy : ys.length = m) (hm1 : 1 ≤ m) (hm : m ≤ 1048576) (hp2 : Cs w q1 vs) (hf2 : F32s vs ys) :
 Calls Tryz.prog 92 #[.pointer (some ⟨bt, ot, sp⟩), .slice q1 m cm] w (RetTen w r m (addRX n m xs ys)) := by
 have X := hid hx
 obtain ⟨W0, hW0⟩ : ∃ W0, W0 = w.alloc (.cells #[.int .i64 0, .int .i64 0, .slice none 0 0] 37) := ⟨_, rfl⟩
 have E0 : Ext w W0 := by rw [hW0]; exact Ext.alloc _ _
 have s0 : W0.heap.size = w.heap.size + 1 := by rw [hW0]; simp
 have b1 : HB W0 w.heap.size #[.int .i64 0, .int .i64 0, .slice none 0 0] 37 := by rw [hW0]; exact HB.new _ _ _
 have t0' := E0.cell t0
 have t1' := E0.cell t1
 have t2' := E0.cell t2
 have Y := hid hy
 clear hx t0 t1 t2 hy
 go_enter Tryz.func92, Tryz.ntmps92
 go_wp2
 rw [← hW0]
 clear hW0
 have e1 := Ext.drew W0
 have u0 := e1.cell t0'
 have u1 := e1.cell t1'
 refine wp_region_xt 11 (F := fun _ _ _ => False) (by kernel_rfl) (by kernel_rfl) (by kernel_rfl) (by kernel_rfl) (by kernel_rfl) ?_
 intro wf hwf
 simp only [List.take_succ_cons, List.take_zero, List.drop_succ_cons, List.drop_zero]
 repeat (first
  | (refine x_skip rfl ?_; simp only [Act.put, ev_tmp, pu1, pu2, pu3, pu4, pu5])
  | (refine x_mv rfl rfl rfl ?_; simp only [Act.put, ev_tmp, pu1, pu2, pu3, pu4, pu5])
  | (refine x_as rfl rfl rfl ?_; simp only [Act.put, ev_tmp, pu1, pu2, pu3, pu4, pu5])
  | ((with_reducible show wpX _ _ _ _ _ _ (Oper.mk _ (Op.alloc _) _ _ _ _ :: _) _); refine x_alloc (t := 37) (Z := #[.int .i64 0, .int .i64 0, .slice none 0 0]) rfl (fun w1 => by go_simp) ?_; intro b hb1 hb2 hb3; simp only [Act.put, ev_tmp, pu1, pu2, pu3, pu4, pu5])
  | ((with_reducible show wpX _ _ _ _ _ _ (Oper.mk _ (Op.buildSlice _ _ _) _ _ _ _ :: _) _); refine x_empty (te := 48) (s := 1) rfl (fun w1 => by go_simp) (by decide) ?_; intro g hg; simp only [Act.put, ev_tmp, pu1, pu2, pu3, pu4, pu5])
  | (refine x_run rfl fun K hK w1 hw1 => ?_; have k0 := hw1.cell (u0); have k1 := hw1.cell (u1); go_simp; refine hK _ ?_; clear hK K k0 k1 hw1 w1))
 refine x_nil ?_
 have E1 := e1.trans hwf
 have hb3 : HB wf b #[.int .i64 0, .int .i64 0, .slice none 0 0] 37 := hb3
 have o0 := hb3.cell 0 rfl; have o1 := hb3.cell 1 rfl; have o2 := hb3.cell 2 rfl
 have o3 := hb3.froz 0; have o4 := hb3.froz 1; have o5 := hb3.froz 2
 have hb1' : w.heap.size + 1 ≤ b := by have := e1.size; omega
 have hst : HB (((wf.setCell ⟨b, 0, none⟩ (.int .i64 r)).setCell ⟨b, 1, none⟩ (.int .i64 m)).setCell ⟨b, 2, none⟩ (.slice (some ⟨g, 0, none⟩) 0 0)) b #[.int .i64 r, .int .i64 m, .slice (some ⟨g, 0, none⟩) 0 0] 37 := ((hb3.set 0 _).set 1 _).set 2 _
 have hchg : Chg (fun k => k = b) wf (((wf.setCell ⟨b, 0, none⟩ (.int .i64 r)).setCell ⟨b, 1, none⟩ (.int .i64 m)).setCell ⟨b, 2, none⟩ (.slice (some ⟨g, 0, none⟩) 0 0)) := by (repeat (first | with_reducible exact Chg.refl _ _ | (with_reducible exact Chg.of_ext (by with_reducible assumption)) | with_reducible assumption | ((with_reducible refine Chg.setCell ?_ ?_ _); rotate_left; focus (first | (simp; done) | (simp; omega))) | (with_reducible refine Chg.alloc ?_ _) | (with_reducible refine Chg.drew ?_) | (with_reducible refine Chg.trans ?_ (Chg.of_ext (by with_reducible assumption)))))
 have hg0 := ownsRow_chg hg hchg (fun k hk hs => own_neHB hg hb3 (by decide) k hk hs)
 have he0 := E1.chg hchg (fun k hk => by omega)
 have hb10 := (b1.ext E1).chg hchg (by omega)
 go_wp2
 go_loopw [6] (fun iv wr => ∃ (i : Nat) (vs9 : List Value) (q : Option Addr) (cq : Nat), i ≤ n ∧ iv = .int .i64 (i : Int) ∧ HB wr b #[.int .i64 r, .int .i64 m, .slice q i cq] 37 ∧ HB wr w.heap.size #[.int .i64 0, .int .i64 0, .slice none 0 0] 37 ∧ wr.ownsRow w.heap.size 48 1 (.slice q i cq) i vs9 ∧ Hid (F32s vs9 (ntab i (fun i => fop .add .f32 (xs.getD i 0) (ys.getD (i % m) 0)))) ∧ Ext W0 wr) (fun iv _ => n - (intOf iv).toNat)
 case atStart => exact ⟨0, [], some ⟨g, 0, none⟩, 0, by omega, rfl, hst, hb10, own_base hg0 (by have := e1.size; omega), F32s.nil, he0⟩
 case round =>
  clear b1 hb10 hg0 he0 hst hchg hb3 o0 o1 o2 o3 o4 o5 hg E1 hwf u0 u1
  obtain ⟨i, vs9, q, cq, hi, rfl, b2, b1, own, HV, he⟩ := hrel
  have u2 := he.cell t2'
  by_cases hlt : i < n
  · have eW := he.trans (Ext.drew wr)
    have eD := Ext.drew wr
    have u2 := eW.cell t2'
    have k1 := hp.ext (E0.trans eW)
    have u3 := eW.cell t1'
    have k2 := hp2.ext (E0.trans eW)
    obtain ⟨f, hfe⟩ : ∃ f, f = i % m := ⟨_, rfl⟩
    have hfm : f < m := by rw [hfe]; exact Nat.mod_lt _ (by omega)
    have hmod : Int.tmod (i : Int) (m : Int) = (f : Int) := by rw [hfe]; rfl
    have hz0 : ¬ ((m : Int) = 0) := by omega
    have Hfe := hid hfe
    clear hfe
    have c2 := b2.ext eD
    have c1 := b1.ext eD
    have y2 := c2.cell 2 rfl
    have o1 := own_ext own eD
    go_wp2
    refine wp_region_xt 20 (F := fun _ _ _ => False) (by kernel_rfl) (by kernel_rfl) (by kernel_rfl) (by kernel_rfl) (by kernel_rfl) ?_
    intro wf hwf
    simp only [List.take_succ_cons, List.take_zero, List.drop_succ_cons, List.drop_zero]
    repeat (first
     | (refine x_skip rfl ?_; simp only [Act.put, ev_tmp, pu1, pu2, pu3, pu4, pu5])
     | (refine x_mv rfl rfl rfl ?_; simp only [Act.put, ev_tmp, pu1, pu2, pu3, pu4, pu5])
     | (refine x_as rfl rfl rfl ?_; simp only [Act.put, ev_tmp, pu1, pu2, pu3, pu4, pu5])
     | (((with_reducible show wpX _ _ _ _ _ _ (Oper.mk _ (Op.binOp BinOp.rem _ _ _ _) _ _ _ _ :: _) _); refine x_pure (v := .int .i64 (f : Int)) rfl (fun w1 hw1 => ?_) ?_; focus (go_simp; omega)); simp only [Act.put, ev_tmp, pu1, pu2, pu3, pu4, pu5])
     | ((with_reducible show wpX _ _ _ _ _ _ (Oper.mk _ (Op.indexAddr _ _ _) _ _ _ _ :: Oper.mk _ (Op.load _ _) _ _ _ _ :: _) _); refine x_ldF rfl rfl (fun _ => rfl) rfl (fun _ => rfl) rfl rfl k1 hf X.out (by omega) (by omega) ?_; intro r1 g1; have G1 := hid g1; clear g1; simp only [Act.put, ev_tmp, pu1, pu2, pu3, pu4, pu5])
     | ((with_reducible show wpX _ _ _ _ _ _ (Oper.mk _ (Op.indexAddr _ _ _) _ _ _ _ :: Oper.mk _ (Op.load _ _) _ _ _ _ :: _) _); refine x_ldF rfl rfl (fun _ => rfl) rfl (fun _ => rfl) rfl rfl k2 hf2 Y.out (by omega) (by omega) ?_; intro r2 g2; have G2 := hid g2; clear g2; simp only [Act.put, ev_tmp, pu1, pu2, pu3, pu4, pu5])
     | ((with_reducible show wpX _ _ _ _ _ _ (Oper.mk _ (Op.binOp _ _ _ _ _) _ _ _ _ :: _) _); refine x_fop rfl rfl rfl rfl rfl ?_; intro b3 g3; have G3 := hid g3; clear g3; simp only [Act.put, ev_tmp, pu1, pu2, pu3, pu4, pu5])
     | (refine x_build1 (u := .float .f32 b3) rfl rfl rfl rfl ?_; intro g7 hg7 hg7' hc7; simp only [Act.put, ev_tmp, pu1, pu2, pu3, pu4, pu5])
     | (refine x_run rfl fun K hK w1 hw1 => ?_; have k0 := hw1.cell (y2); have k1 := hw1.cell (u2); have k2 := hw1.cell (u3); go_simp; refine hK _ ?_; clear hK K k0 k1 k2 hw1 w1))
    refine x_nil ?_
    have d2 := c2.ext hwf
    have d1 := c1.ext hwf
    have o2 := own_ext o1 hwf
    have hz := d2.lt
    have l2 := d2.cell 2 rfl
    have f2 := d2.froz 2
    have hsz := he.trans (eD.trans hwf)
    have hs2 := hsz.size
    have hv : cn .f32 b3 = (fun i => fop .add .f32 (xs.getD i 0) (ys.getD (i % m) 0)) i := by have h1 := G1.out; have h2 := G2.out; simp only [Int.toNat_natCast] at h1 h2; rw [Hfe.out] at h2; rw [G3.out, h1, h2]
    have Hb := hid hv
    clear y2 k1 hv u2
    clear hmod hz0
    go_wp2_with ((with_reducible show wpList _ _ _ (Oper.mk _ (Op.call _) _ _ _ _ :: _) _ _); refine wl_app1s rfl rfl rfl rfl o2 hc7 rfl (by simp [Value.cells, Value.oneCell']) (by unfold maxLen; omega) (by omega) (by omega) ?_; intro g9 c9 w9 own9 gr9 hg9; have d3 := d2.chg (Chg.of_grown gr9) (fun h => own_neHB o2 d2 (by decide) _ h.symm rfl); have l3 := d3.cell 2 rfl; have f3 := d3.froz 2)
    go_roundw
    case rel =>
     have e9 : Ext w w9 := (E0.trans hsz).grown gr9 (fun k hk => by have := own_le o2 k hk; omega)
     have hch := chg_cell w9 b 2 (.slice (some ⟨g9, 0, none⟩) (i + 1) c9)
     exact ⟨i + 1, _, some ⟨g9, 0, none⟩, c9, by omega, by go_num, d3.set 2 _, (d1.chg (Chg.of_grown gr9) (fun h => own_neHB o2 d1 (by decide) _ h.symm rfl)).chg hch (fun h => by omega), ownsRow_chg own9 hch (fun k hk hs => own_neHB own9 d3 (by decide) k hk hs), f32s_snoc HV.out Hb.out, (hsz.grown gr9 (fun k hk => by have h1 := own_le o2 k hk; have := (own_neHB o2 d1 (by decide) k hk); omega)).chg hch (fun k hk => by omega)⟩
    case measure => simp [intOf]; omega
  · obtain rfl : i = n := by omega
    have y0 := b2.cell 0 rfl; have y1 := b2.cell 1 rfl; have y2 := b2.cell 2 rfl
    have n0 := b1.cell 0 rfl; have n1 := b1.cell 1 rfl; have n2 := b1.cell 2 rfl
    have m0 := b1.froz 0; have m1 := b1.froz 1; have m2 := b1.froz 2
    go_wp2
    refine bodyPost_ret (v := .agg #[.int .i64 r, .int .i64 m, .slice q i cq]) (by simp [results, Tryz.results92, go_sem, n0, n1, n2, m0, m1, m2]) rfl ?_
    exact RetTen.of (ntab_len _ _) (ownsRow_chg own (S := fun k => k = w.heap.size) (by (repeat (first | with_reducible exact Chg.refl _ _ | (with_reducible exact Chg.of_ext (by with_reducible assumption)) | with_reducible assumption | ((with_reducible refine Chg.setCell ?_ ?_ _); rotate_left; focus (first | (simp; done) | (simp; omega))) | (with_reducible refine Chg.alloc ?_ _) | (with_reducible refine Chg.drew ?_) | (with_reducible refine Chg.trans ?_ (Chg.of_ext (by with_reducible assumption)))))) (fun k hk hs => own_neHB own b1 (by decide) k hk hs)) HV.out rfl ((E0.trans he).chg (S := fun k => k = w.heap.size) (by (repeat (first | with_reducible exact Chg.refl _ _ | (with_reducible exact Chg.of_ext (by with_reducible assumption)) | with_reducible assumption | ((with_reducible refine Chg.setCell ?_ ?_ _); rotate_left; focus (first | (simp; done) | (simp; omega))) | (with_reducible refine Chg.alloc ?_ _) | (with_reducible refine Chg.drew ?_) | (with_reducible refine Chg.trans ?_ (Chg.of_ext (by with_reducible assumption)))))) (fun k hk => by omega))
set_option maxRecDepth 100000 in
set_option maxHeartbeats 4000000 in
theorem l02MulRow_any {sp : Option Nat} (bt ot : Nat) (r : Int) (q0 : Option Addr) (n cp : Nat) (us : List Value) (xs : List Nat) (q1 : Option Addr) (m cm : Nat) (vs : List Value) (ys : List Nat) (w : World) (t0 : w.cell? ⟨bt, ot, sp⟩ = some (.int .i64 r)) (t1 : w.cell? ⟨bt, ot + 1, none⟩ = some (.int .i64 m)) (t2 : w.cell? ⟨bt, ot + 2, none⟩ = some (.slice q0 n cp)) (hx : xs.length = n) (hn : n ≤ 1048576) (hp : Cs w q0 us) (hf : F32s us xs) (hy : ys.length = m) (hm1 : 1 ≤ m) (hm : m ≤ 1048576) (hp2 : Cs w q1 vs) (hf2 : F32s vs ys) :
 Calls Tryz.prog 94 #[.pointer (some ⟨bt, ot, sp⟩), .slice q1 m cm] w (RetTen w r m (mulRX n m xs ys)) := by
 have X := hid hx
 obtain ⟨W0, hW0⟩ : ∃ W0, W0 = w.alloc (.cells #[.int .i64 0, .int .i64 0, .slice none 0 0] 37) := ⟨_, rfl⟩
 have E0 : Ext w W0 := by rw [hW0]; exact Ext.alloc _ _
 have s0 : W0.heap.size = w.heap.size + 1 := by rw [hW0]; simp
 have b1 : HB W0 w.heap.size #[.int .i64 0, .int .i64 0, .slice none 0 0] 37 := by rw [hW0]; exact HB.new _ _ _
 have t0' := E0.cell t0
 have t1' := E0.cell t1
 have t2' := E0.cell t2
 have Y := hid hy
 clear hx t0 t1 t2 hy
 go_enter Tryz.func94, Tryz.ntmps94
 go_wp2
 rw [← hW0]
 clear hW0
 have e1 := Ext.drew W0
 have u0 := e1.cell t0'
 have u1 := e1.cell t1'
 refine wp_region_xt 11 (F := fun _ _ _ => False) (by kernel_rfl) (by kernel_rfl) (by kernel_rfl) (by kernel_rfl) (by kernel_rfl) ?_
 intro wf hwf
 simp only [List.take_succ_cons, List.take_zero, List.drop_succ_cons, List.drop_zero]
 repeat (first
  | (refine x_skip rfl ?_; simp only [Act.put, ev_tmp, pu1, pu2, pu3, pu4, pu5])
  | (refine x_mv rfl rfl rfl ?_; simp only [Act.put, ev_tmp, pu1, pu2, pu3, pu4, pu5])
  | (refine x_as rfl rfl rfl ?_; simp only [Act.put, ev_tmp, pu1, pu2, pu3, pu4, pu5])
  | ((with_reducible show wpX _ _ _ _ _ _ (Oper.mk _ (Op.alloc _) _ _ _ _ :: _) _); refine x_alloc (t := 37) (Z := #[.int .i64 0, .int .i64 0, .slice none 0 0]) rfl (fun w1 => by go_simp) ?_; intro b hb1 hb2 hb3; simp only [Act.put, ev_tmp, pu1, pu2, pu3, pu4, pu5])
  | ((with_reducible show wpX _ _ _ _ _ _ (Oper.mk _ (Op.buildSlice _ _ _) _ _ _ _ :: _) _); refine x_empty (te := 48) (s := 1) rfl (fun w1 => by go_simp) (by decide) ?_; intro g hg; simp only [Act.put, ev_tmp, pu1, pu2, pu3, pu4, pu5])
  | (refine x_run rfl fun K hK w1 hw1 => ?_; have k0 := hw1.cell (u0); have k1 := hw1.cell (u1); go_simp; refine hK _ ?_; clear hK K k0 k1 hw1 w1))
 refine x_nil ?_
 have E1 := e1.trans hwf
 have hb3 : HB wf b #[.int .i64 0, .int .i64 0, .slice none 0 0] 37 := hb3
 have o0 := hb3.cell 0 rfl; have o1 := hb3.cell 1 rfl; have o2 := hb3.cell 2 rfl
 have o3 := hb3.froz 0; have o4 := hb3.froz 1; have o5 := hb3.froz 2
 have hb1' : w.heap.size + 1 ≤ b := by have := e1.size; omega
 have hst : HB (((wf.setCell ⟨b, 0, none⟩ (.int .i64 r)).setCell ⟨b, 1, none⟩ (.int .i64 m)).setCell ⟨b, 2, none⟩ (.slice (some ⟨g, 0, none⟩) 0 0)) b #[.int .i64 r, .int .i64 m, .slice (some ⟨g, 0, none⟩) 0 0] 37 := ((hb3.set 0 _).set 1 _).set 2 _
 have hchg : Chg (fun k => k = b) wf (((wf.setCell ⟨b, 0, none⟩ (.int .i64 r)).setCell ⟨b, 1, none⟩ (.int .i64 m)).setCell ⟨b, 2, none⟩ (.slice (some ⟨g, 0, none⟩) 0 0)) := by (repeat (first | with_reducible exact Chg.refl _ _ | (with_reducible exact Chg.of_ext (by with_reducible assumption)) | with_reducible assumption | ((with_reducible refine Chg.setCell ?_ ?_ _); rotate_left; focus (first | (simp; done) | (simp; omega))) | (with_reducible refine Chg.alloc ?_ _) | (with_reducible refine Chg.drew ?_) | (with_reducible refine Chg.trans ?_ (Chg.of_ext (by with_reducible assumption)))))
 have hg0 := ownsRow_chg hg hchg (fun k hk hs => own_neHB hg hb3 (by decide) k hk hs)
 have he0 := E1.chg hchg (fun k hk => by omega)
 have hb10 := (b1.ext E1).chg hchg (by omega)
 go_wp2
 go_loopw [6] (fun iv wr => ∃ (i : Nat) (vs9 : List Value) (q : Option Addr) (cq : Nat), i ≤ n ∧ iv = .int .i64 (i : Int) ∧ HB wr b #[.int .i64 r, .int .i64 m, .slice q i cq] 37 ∧ HB wr w.heap.size #[.int .i64 0, .int .i64 0, .slice none 0 0] 37 ∧ wr.ownsRow w.heap.size 48 1 (.slice q i cq) i vs9 ∧ Hid (F32s vs9 (ntab i (fun i => fop .mul .f32 (xs.getD i 0) (ys.getD (i % m) 0)))) ∧ Ext W0 wr) (fun iv _ => n - (intOf iv).toNat)
 case atStart => exact ⟨0, [], some ⟨g, 0, none⟩, 0, by omega, rfl, hst, hb10, own_base hg0 (by have := e1.size; omega), F32s.nil, he0⟩
 case round =>
  clear b1 hb10 hg0 he0 hst hchg hb3 o0 o1 o2 o3 o4 o5 hg E1 hwf u0 u1
  obtain ⟨i, vs9, q, cq, hi, rfl, b2, b1, own, HV, he⟩ := hrel
  have u2 := he.cell t2'
  by_cases hlt : i < n
  · have eW := he.trans (Ext.drew wr)
    have eD := Ext.drew wr
    have u2 := eW.cell t2'
    have k1 := hp.ext (E0.trans eW)
    have u3 := eW.cell t1'
    have k2 := hp2.ext (E0.trans eW)
    obtain ⟨f, hfe⟩ : ∃ f, f = i % m := ⟨_, rfl⟩
    have hfm : f < m := by rw [hfe]; exact Nat.mod_lt _ (by omega)
    have hmod : Int.tmod (i : Int) (m : Int) = (f : Int) := by rw [hfe]; rfl
    have hz0 : ¬ ((m : Int) = 0) := by omega
    have Hfe := hid hfe
    clear hfe
    have c2 := b2.ext eD
    have c1 := b1.ext eD
    have y2 := c2.cell 2 rfl
    have o1 := own_ext own eD
    go_wp2
    refine wp_region_xt 20 (F := fun _ _ _ => False) (by kernel_rfl) (by kernel_rfl) (by kernel_rfl) (by kernel_rfl) (by kernel_rfl) ?_
    intro wf hwf
    simp only [List.take_succ_cons, List.take_zero, List.drop_succ_cons, List.drop_zero]
    repeat (first
     | (refine x_skip rfl ?_; simp only [Act.put, ev_tmp, pu1, pu2, pu3, pu4, pu5])
     | (refine x_mv rfl rfl rfl ?_; simp only [Act.put, ev_tmp, pu1, pu2, pu3, pu4, pu5])
     | (refine x_as rfl rfl rfl ?_; simp only [Act.put, ev_tmp, pu1, pu2, pu3, pu4, pu5])
     | (((with_reducible show wpX _ _ _ _ _ _ (Oper.mk _ (Op.binOp BinOp.rem _ _ _ _) _ _ _ _ :: _) _); refine x_pure (v := .int .i64 (f : Int)) rfl (fun w1 hw1 => ?_) ?_; focus (go_simp; omega)); simp only [Act.put, ev_tmp, pu1, pu2, pu3, pu4, pu5])
     | ((with_reducible show wpX _ _ _ _ _ _ (Oper.mk _ (Op.indexAddr _ _ _) _ _ _ _ :: Oper.mk _ (Op.load _ _) _ _ _ _ :: _) _); refine x_ldF rfl rfl (fun _ => rfl) rfl (fun _ => rfl) rfl rfl k1 hf X.out (by omega) (by omega) ?_; intro r1 g1; have G1 := hid g1; clear g1; simp only [Act.put, ev_tmp, pu1, pu2, pu3, pu4, pu5])
     | ((with_reducible show wpX _ _ _ _ _ _ (Oper.mk _ (Op.indexAddr _ _ _) _ _ _ _ :: Oper.mk _ (Op.load _ _) _ _ _ _ :: _) _); refine x_ldF rfl rfl (fun _ => rfl) rfl (fun _ => rfl) rfl rfl k2 hf2 Y.out (by omega) (by omega) ?_; intro r2 g2; have G2 := hid g2; clear g2; simp only [Act.put, ev_tmp, pu1, pu2, pu3, pu4, pu5])
     | ((with_reducible show wpX _ _ _ _ _ _ (Oper.mk _ (Op.binOp _ _ _ _ _) _ _ _ _ :: _) _); refine x_fop rfl rfl rfl rfl rfl ?_; intro b3 g3; have G3 := hid g3; clear g3; simp only [Act.put, ev_tmp, pu1, pu2, pu3, pu4, pu5])
     | (refine x_build1 (u := .float .f32 b3) rfl rfl rfl rfl ?_; intro g7 hg7 hg7' hc7; simp only [Act.put, ev_tmp, pu1, pu2, pu3, pu4, pu5])
     | (refine x_run rfl fun K hK w1 hw1 => ?_; have k0 := hw1.cell (y2); have k1 := hw1.cell (u2); have k2 := hw1.cell (u3); go_simp; refine hK _ ?_; clear hK K k0 k1 k2 hw1 w1))
    refine x_nil ?_
    have d2 := c2.ext hwf
    have d1 := c1.ext hwf
    have o2 := own_ext o1 hwf
    have hz := d2.lt
    have l2 := d2.cell 2 rfl
    have f2 := d2.froz 2
    have hsz := he.trans (eD.trans hwf)
    have hs2 := hsz.size
    have hv : cn .f32 b3 = (fun i => fop .mul .f32 (xs.getD i 0) (ys.getD (i % m) 0)) i := by have h1 := G1.out; have h2 := G2.out; simp only [Int.toNat_natCast] at h1 h2; rw [Hfe.out] at h2; rw [G3.out, h1, h2]
    have Hb := hid hv
    clear y2 k1 hv u2
    clear hmod hz0
    go_wp2_with ((with_reducible show wpList _ _ _ (Oper.mk _ (Op.call _) _ _ _ _ :: _) _ _); refine wl_app1s rfl rfl rfl rfl o2 hc7 rfl (by simp [Value.cells, Value.oneCell']) (by unfold maxLen; omega) (by omega) (by omega) ?_; intro g9 c9 w9 own9 gr9 hg9; have d3 := d2.chg (Chg.of_grown gr9) (fun h => own_neHB o2 d2 (by decide) _ h.symm rfl); have l3 := d3.cell 2 rfl; have f3 := d3.froz 2)
    go_roundw
    case rel =>
     have e9 : Ext w w9 := (E0.trans hsz).grown gr9 (fun k hk => by have := own_le o2 k hk; omega)
     have hch := chg_cell w9 b 2 (.slice (some ⟨g9, 0, none⟩) (i + 1) c9)
     exact ⟨i + 1, _, some ⟨g9, 0, none⟩, c9, by omega, by go_num, d3.set 2 _, (d1.chg (Chg.of_grown gr9) (fun h => own_neHB o2 d1 (by decide) _ h.symm rfl)).chg hch (fun h => by omega), ownsRow_chg own9 hch (fun k hk hs => own_neHB own9 d3 (by decide) k hk hs), f32s_snoc HV.out Hb.out, (hsz.grown gr9 (fun k hk => by have h1 := own_le o2 k hk; have := (own_neHB o2 d1 (by decide) k hk); omega)).chg hch (fun k hk => by omega)⟩
    case measure => simp [intOf]; omega
  · obtain rfl : i = n := by omega
    have y0 := b2.cell 0 rfl; have y1 := b2.cell 1 rfl; have y2 := b2.cell 2 rfl
    have n0 := b1.cell 0 rfl; have n1 := b1.cell 1 rfl; have n2 := b1.cell 2 rfl
    have m0 := b1.froz 0; have m1 := b1.froz 1; have m2 := b1.froz 2
    go_wp2
    refine bodyPost_ret (v := .agg #[.int .i64 r, .int .i64 m, .slice q i cq]) (by simp [results, Tryz.results94, go_sem, n0, n1, n2, m0, m1, m2]) rfl ?_
    exact RetTen.of (ntab_len _ _) (ownsRow_chg own (S := fun k => k = w.heap.size) (by (repeat (first | with_reducible exact Chg.refl _ _ | (with_reducible exact Chg.of_ext (by with_reducible assumption)) | with_reducible assumption | ((with_reducible refine Chg.setCell ?_ ?_ _); rotate_left; focus (first | (simp; done) | (simp; omega))) | (with_reducible refine Chg.alloc ?_ _) | (with_reducible refine Chg.drew ?_) | (with_reducible refine Chg.trans ?_ (Chg.of_ext (by with_reducible assumption)))))) (fun k hk hs => own_neHB own b1 (by decide) k hk hs)) HV.out rfl ((E0.trans he).chg (S := fun k => k = w.heap.size) (by (repeat (first | with_reducible exact Chg.refl _ _ | (with_reducible exact Chg.of_ext (by with_reducible assumption)) | with_reducible assumption | ((with_reducible refine Chg.setCell ?_ ?_ _); rotate_left; focus (first | (simp; done) | (simp; omega))) | (with_reducible refine Chg.alloc ?_ _) | (with_reducible refine Chg.drew ?_) | (with_reducible refine Chg.trans ?_ (Chg.of_ext (by with_reducible assumption)))))) (fun k hk => by omega))
end Go.Proofs.YtlimabbeaimdgaaGreat
