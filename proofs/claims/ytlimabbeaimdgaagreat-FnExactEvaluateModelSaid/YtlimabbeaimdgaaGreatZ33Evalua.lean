/- A part of the proofs: TnZ, TnXg, TnLs, HExamples, Exa, TnY. -/
import Derived.Test.YtlimabbeaimdgaaGreatZ21Evalua
import Derived.Test.YtlimabbeaimdgaaGreatTnX
import Derived.Test.YtlimabbeaimdgaaGreatZ22Evalua
import Derived.Test.YtlimabbeaimdgaaGreatZ29Evalua
import Derived.Test.YtlimabbeaimdgaaGreatTnGa
import Derived.Test.YtlimabbeaimdgaaGreatTnRn
import Derived.Test.YtlimabbeaimdgaaGreatZ03Evalua
import Derived.Test.YtlimabbeaimdgaaGreatZ02Evalua
import Derived.Test.YtlimabbeaimdgaaGreatZ04Evalua
import Derived.Test.YtlimabbeaimdgaaGreatZ24Evalua
set_option linter.unusedSimpArgs false
set_option linter.unusedVariables false
namespace Go.Proofs.YtlimabbeaimdgaaGreat
open Go.RowKit
set_option maxRecDepth 100000 in
set_option maxHeartbeats 4000000 in
theorem l04Flat_any {sh : Nat → Nat × Nat} (pg pw : Option Addr) (n cg nw cw : Nat) (gcs : List (List Value)) (ops : List shOp.T) (ws : List Int) (w : World) (hG : Tens w pg n gcs (gradsT ops)) (hlen : ops.length = n) (hT : TapeOk sh ops) (h1 : 1 ≤ n) (hw : Cs w pw (ws.map (Value.int .i64))) (hwl : ws.length = nw) (hnw : nw ≤ 48) (hwb : ∀ z ∈ ws, 0 ≤ z ∧ z < ops.length) :
 Calls Tryz.prog 80 #[.slice pg n cg, .slice pw nw cw] w (RetFl w (flatW ops ws)) := by
 have hps : pg.isSome = true := by have h := hG.cnt; exact hG.cs.some_of (s := 3) (i := 0) hG.size (by decide) (by omega)
 have HLen := hid hlen
 have HWl := hid hwl
 have Hpre := hid (fun j => show (flatW ops (ws.take j)).length ≤ 256 * j by
  have h := flatW_len hT (by omega) (ws.take j) (fun z hz => hwb z (List.mem_of_mem_take hz))
  have h2 : (ws.take j).length ≤ j := List.length_take_le _ _
  omega)
 have HT := hid hT
 have HWb := hid hwb
 have hstart : (w.alloc (.cells #[] 48)).ownsRow w.heap.size 48 1 (.slice (some ⟨w.heap.size, 0, none⟩) 0 0) 0 [] := World.ownsRow_made w #[] 0 (Nat.le_refl _) (by decide) rfl
 have e0 := Ext.alloc w (.cells #[] 48)
 have hp0 : flatW ops (ws.take 0) = [] := by simp [flatW]
 clear hlen hT hwb hwl
 go_enter Tryz.func80, Tryz.ntmps80
 go_wp2
 go_loopw [5, 6] (fun v iv wr => ∃ (j : Nat) (q : Option Addr) (k : Nat) (us : List Value), j ≤ nw ∧ iv = .int .i64 (j : Int) ∧ v = .slice q (flatW ops (ws.take j)).length k ∧ wr.ownsRow w.heap.size 48 1 (.slice q (flatW ops (ws.take j)).length k) (flatW ops (ws.take j)).length us ∧ Hid (F32s us (flatW ops (ws.take j))) ∧ Ext w wr) (fun _ iv _ => nw - (intOf iv).toNat)
 case atStart => exact ⟨0, _, _, [], by omega, rfl, by rw [hp0]; rfl, by rw [hp0]; exact hstart, by rw [Hid, hp0]; exact F32s.nil, e0⟩
 case round =>
  clear hstart e0 hp0
  obtain ⟨j, q, k, us, hj, rfl, rfl, own, HF, he⟩ := hrel
  by_cases hlt : j < nw
  · have hz := HWb.out (ws[j]'(by rw [HWl.out]; exact hlt)) (List.getElem_mem _)
    obtain ⟨z, hze⟩ : ∃ z : Nat, (ws[j]'(by rw [HWl.out]; exact hlt)) = (z : Int) := ⟨(ws[j]'(by rw [HWl.out]; exact hlt)).toNat, by omega⟩
    have hzn : z < n := by have := HLen.out; omega
    have htk : flatW ops (ws.take (j + 1)) = flatW ops (ws.take j) ++ ((gradsT ops).getD z t0).2.2.1 := by
     rw [List.take_add_one, List.getElem?_eq_getElem (by rw [HWl.out]; exact hlt), Option.toList_some, flatW_snoc, hze, Int.toNat_natCast]
    have hGr := hG.ext he
    obtain ⟨gc, hgc, tg⟩ := hGr.at' (sh := sh) (fun x hx => grads_shaped HT.out (by rw [HLen.out]; exact h1) (by rw [HLen.out]; exact hx)) hzn
    obtain ⟨gq, gk, gus, gxs, rfl, gde, gl, g1, g2, g3, g4⟩ := tg
    have hside := HT.out.side z (by rw [HLen.out]; exact hzn)
    obtain ⟨N, hN⟩ : ∃ N, N = (sh z).1 * (sh z).2 := ⟨_, rfl⟩
    have hN2 : N ≤ 256 := by rw [hN]; exact Nat.mul_le_mul hside.2.1 hside.2.2.2
    rw [gde] at htk
    simp only [tn] at htk
    rw [← hN] at hgc gl g3
    have hone := hid g2.one
    have hcw := hw.ext he
    have hcs := hGr.cs
    have hsz := hGr.size
    have hcnt := hGr.cnt
    have hp1 : Hid ((flatW ops (ws.take j)).length ≤ 256 * j) := Hpre.out j
    have HTk := hid htk
    have Hgc := hid hgc
    have hxe : (ws.getD j 0) = (z : Int) := by rw [List.getD_eq_getElem?_getD, List.getElem?_eq_getElem (by rw [HWl.out]; exact hlt)]; exact hze
    have Hxe := hid hxe
    have hgl := gl
    have hbs := he.size
    generalize hfe : flatW ops (ws.take j) = fj at *
    have Hfe := hid hfe
    have hfl2 := hp1.out
    clear htk hgc hxe hze hfe hN hp1
    obtain ⟨fn, hfn⟩ : ∃ x, x = fj.length := ⟨_, rfl⟩
    rw [← hfn] at own hfl2
    rw [← hfn]
    have Hfn := hid hfn
    clear hfn
    go_wp2_with (first | ((with_reducible show wpList _ _ _ (Oper.mk _ (Op.indexAddr _ _ _) _ _ _ _ :: Oper.mk _ (Op.load _ _) _ _ _ _ :: _) _ _); refine wl_ldI rfl rfl rfl rfl (fun _ => rfl) rfl rfl hcw HWl.out (by omega) (by omega) ?_; rw [Int.toNat_natCast, Hxe.out]) | ((with_reducible show wpList _ _ _ (Oper.mk _ (Op.indexAddr _ _ _) _ _ _ _ :: Oper.mk _ (Op.fieldAddr _ _ _) _ _ _ _ :: Oper.mk _ (Op.load _ _) _ _ _ _ :: _) _ _); refine wl_ldField (s := 3) (f := 2) (off := 2) (j := z) rfl rfl rfl rfl rfl rfl (fun _ => rfl) (fun _ _ => rfl) fo_implTensor_2 rfl rfl rfl hcs hsz hcnt hzn hps Hgc.out rfl ?_) | ((with_reducible show wpList _ _ _ (Oper.mk _ (Op.call _) _ _ _ _ :: _) _ _); refine wl_appz rfl rfl rfl rfl own g1 (by rw [g2.1, hgl, Nat.mul_one]) g3 hone.out (by unfold maxLen; omega) (by omega) (by omega) ?_; intro v9 w9 own9 gr9))
    go_roundw
    case rel =>
     obtain ⟨q9, k9, rfl⟩ := own_slice own9
     have hlen9 : (flatW ops (ws.take (j + 1))).length = fn + N := by rw [HTk.out, List.length_append, gl, Hfn.out]
     exact ⟨j + 1, q9, k9, _, by omega, by go_num, by rw [hlen9], by rw [hlen9]; exact own9, by rw [Hid, HTk.out]; exact HF.out.app g2, he.grown gr9 (fun x hx => own_le own x hx)⟩
    case measure => simp [intOf]; omega
  · obtain rfl : j = nw := by omega
    rw [show ws.take j = ws from List.take_of_length_le (by rw [HWl.out]; exact Nat.le_refl _)] at own HF ⊢
    go_wp2
    go_ret
    exact retFl_of rfl own HF.out rfl he
set_option maxRecDepth 100000 in
set_option maxHeartbeats 4000000 in
theorem l04Share_any {sp : Option Nat} (bt ot R C : Nat) (w : World) (t0 : w.cell? ⟨bt, ot, sp⟩ = some (.int .i64 (R : Int))) (t1 : w.cell? ⟨bt, ot + 1, none⟩ = some (.int .i64 (C : Int))) (h256 : R * C ≤ 256) :
 Calls Tryz.prog 54 #[.pointer (some ⟨bt, ot, sp⟩)] w (RF .f32 w (fop .quo .f32 oneB32 (cn .f32 (floatOfInt .f32 ((R * C : Nat) : Int))))) := by
 have q1 : IntKind.i64.wrap ((R : Int) * C) = ((R * C : Nat) : Int) := by rw [← Int.natCast_mul]; exact wrap_in _ (by omega) (by omega)
 generalize hA : R * C = A at *
 have e1 := Ext.drew w
 have d0 := e1.cell t0
 have d1 := e1.cell t1
 clear hA t0 t1
 go_enter Tryz.func54, Tryz.ntmps54
 go_wp2
 refine wp_region_xall (F := fun _ _ _ => False) (by kernel_rfl) (by kernel_rfl) (by kernel_rfl) ?_
 intro wf hwf
 repeat (first
  | (refine x_skip rfl ?_; simp only [Act.put, ev_tmp, pu1, pu2, pu3, pu4, pu5])
  | (refine x_mv rfl rfl rfl ?_; simp only [Act.put, ev_tmp, pu1, pu2, pu3, pu4, pu5])
  | (refine x_as rfl rfl rfl ?_; simp only [Act.put, ev_tmp, pu1, pu2, pu3, pu4, pu5])
  | (((with_reducible show wpX _ _ _ _ _ _ (Oper.mk _ (Op.convert _ _ _) _ _ _ _ :: _) _); refine x_pure (v := .float .f32 (floatOfInt .f32 (A : Int))) rfl (fun w1 hw1 => ?_) ?_; focus (go_simp; (try rw [q1]))); simp only [Act.put, ev_tmp, pu1, pu2, pu3, pu4, pu5])
  | ((with_reducible show wpX _ _ _ _ _ _ (Oper.mk _ (Op.binOp _ _ _ _ _) _ _ _ _ :: _) _); refine x_fop rfl rfl rfl rfl rfl ?_; intro r3 g3; have G3 := hid g3; clear g3; simp only [Act.put, ev_tmp, pu1, pu2, pu3, pu4, pu5])
  | (refine x_run rfl fun K hK w1 hw1 => ?_; have k0 := hw1.cell (d0); have k1 := hw1.cell (d1); go_simp; refine hK _ ?_; clear hK K k0 k1 hw1 w1))
 refine x_nil ?_
 go_wp2
 go_ret
 exact ⟨r3, rfl, by rw [G3.out, cn_one1], e1.trans hwf⟩
def LsRet (w : World) (L : List shLayer.T) (r k : Int) (xs : List Nat) (r2 k2 : Int) (ys : List Nat) (z : Nat) (e : Ending) (w' : World) : Prop :=
 (gradB L r k xs.length r2 k2 ys.length = false ∧ ∃ u, e = .returned (.tuple #[u, .float .f32 0, .bool false])) ∨
 (gradB L r k xs.length r2 k2 ys.length = true ∧ ∃ (q : Option Addr) (c b : Nat) (us : List Value), e = .returned (.tuple #[.slice q (flatW (mtape L (r, k, xs, ()) (r2, k2, ys, ()) z) (wtsOf L r k xs r2 k2 ys)).length c, .float .f32 b, .bool true]) ∧ w'.ownsRow w.heap.size 48 1 (.slice q (flatW (mtape L (r, k, xs, ()) (r2, k2, ys, ()) z) (wtsOf L r k xs r2 k2 ys)).length c) (flatW (mtape L (r, k, xs, ()) (r2, k2, ys, ()) z) (wtsOf L r k xs r2 k2 ys)).length us ∧ F32s us (flatW (mtape L (r, k, xs, ()) (r2, k2, ys, ()) z) (wtsOf L r k xs r2 k2 ys)) ∧ cn .f32 b = lossT (mtape L (r, k, xs, ()) (r2, k2, ys, ()) z))
set_option maxRecDepth 100000 in
set_option maxHeartbeats 4000000 in
theorem l04Loss_any {sm sx sy : Option Nat} (bm om bx ox bz oz : Nat) (p q q2 : Option Addr) (n c nx cx ny cy : Nat) (r k r2 k2 : Int) (css : List (List Value)) (L : List shLayer.T) (xs ys : List Nat) (us vs : List Value) (z zb : Nat) (w : World) (m0 : w.cell? ⟨bm, om, sm⟩ = some (.slice p n c)) (x0 : w.cell? ⟨bx, ox, sx⟩ = some (.int .i64 r)) (x1 : w.cell? ⟨bx, ox + 1, none⟩ = some (.int .i64 k)) (x2 : w.cell? ⟨bx, ox + 2, none⟩ = some (.slice q nx cx)) (y0 : w.cell? ⟨bz, oz, sy⟩ = some (.int .i64 r2)) (y1 : w.cell? ⟨bz, oz + 1, none⟩ = some (.int .i64 k2)) (y2 : w.cell? ⟨bz, oz + 2, none⟩ = some (.slice q2 ny cy)) (hL : Lays w p n css L) (hnx : nx ≤ maxLen) (hny : ny ≤ maxLen) (hxl : xs.length = nx) (hyl : ys.length = ny) (hcx : nx ≤ cx) (hcy : ny ≤ cy) (hqx : Cs w q us) (hfx : F32s us xs) (hqy : Cs w q2 vs) (hfy : F32s vs ys) (hz : cn .f32 zb = z) :
 Calls Tryz.prog 53 #[.pointer (some ⟨bm, om, sm⟩), .pointer (some ⟨bx, ox, sx⟩), .pointer (some ⟨bz, oz, sy⟩), .float .f32 zb] w fun e w' => LsRet w L r k xs r2 k2 ys z e w' ∧ Ext w w' := by
 have K := hid (l04Model_any bm om bx ox bz oz p q q2 n c nx cx ny cy r k r2 k2 css L xs ys us vs z zb w m0 x0 x1 x2 y0 y1 y2 hL hnx hny hxl hyl hcx hcy hqx hfx hqy hfy hz)
 clear m0 x0 x1 x2 y0 y1 y2 hL hqx hfx hqy hfy hz hxl hyl
 go_enter Tryz.func53, Tryz.ntmps53
 go_wp2_with fail
 refine K.out.mono ?_
 rintro e w1 ⟨⟨hg, u, v, rfl⟩ | ⟨hg, q5, q6, c5, c6, cs5, rfl, hO, hW⟩, e1⟩
 · have HG := hid hg
   clear hg
   go_wp2
   refine bodyPost_ret (results_tmp3 (t := 8) (u := 9) (v := 10) (by kernel_rfl) _ _ _) rfl ?_
   exact ⟨Or.inl ⟨HG.out, _, rfl⟩, e1.trans (Ext.alloc _ _)⟩
 · obtain ⟨sh, t1, t2, t3, t4⟩ := mtapeZ_ok hg z
   have HG := hid hg
   obtain ⟨ops, hops⟩ : ∃ x, mtape L (r, k, xs, ()) (r2, k2, ys, ()) z = x := ⟨_, rfl⟩
   obtain ⟨ws, hws⟩ : ∃ x, wtsOf L r k xs r2 k2 ys = x := ⟨_, rfl⟩
   rw [hops] at t1 t2 hO t4 ⊢
   rw [hws] at t3 hW t4 ⊢
   have Hops := hid hops; have Hws := hid hws
   clear hops hws hg
   obtain ⟨no, hno⟩ : ∃ x, ops.length = x := ⟨_, rfl⟩
   obtain ⟨nw, hnw⟩ : ∃ x, ws.length = x := ⟨_, rfl⟩
   rw [hno] at hO t2 ⊢
   rw [hnw] at t3 ⊢
   have KR := hid (l04Run_any q5 no c5 cs5 ops w1 hO t1 t2)
   have Hno := hid hno; have Hnw := hid hnw; have HO := hid hO; have HW := hid hW; have HT := hid t1; have H4 := hid t4
   clear hno hnw hO hW t1 t4
   go_wp2_with fail
   refine KR.out.mono ?_
   rintro e w2 ⟨u2, rfl, hIs, e2⟩
   obtain ⟨q7, k7, vcs, rfl, hT7, hk1, hk2⟩ := hIs.tens
   rw [valsT_len] at hT7 ⊢
   have HT7 := hid hT7
   clear hT7 hIs
   go_wp2_with fail
   have eD := Ext.drew w2
   have hn48 : no ≤ 48 := by rw [← Hno.out]; exact HT.out.len
   obtain ⟨M, hM⟩ : ∃ M : Nat, (no : Int) - 1 = (M : Int) := ⟨no - 1, by omega⟩
   have hMn : M < no := by omega
   have hqs : q7.isSome = true := HT7.out.cs.some_of (s := 3) (i := 0) HT7.out.size (by decide) (by have := HT7.out.cnt; omega)
   have hwM : IntKind.i64.wrap ((no : Int) - 1) = (M : Int) := by rw [hM]; exact wrap_in _ (by omega) (by omega)
   obtain ⟨cv, hcv, hvv⟩ := HT7.out.at' (sh := sh) (fun j hj => by have := vals_shaped HT.out no (by rw [Hno.out]; exact Nat.le_refl _) j hj; exact this) hMn
   obtain ⟨qv, kv, uv, xv, rfl, dv, lv, v1, v2, v3, v4⟩ := hvv
   have hside := HT.out.side M (by rw [Hno.out]; exact hMn)
   have hN1 : 1 ≤ (sh M).1 * (sh M).2 := Nat.mul_le_mul hside.1 hside.2.2.1
   obtain ⟨rb, hr1, hr2⟩ := v2.2 0 (by omega)
   have hqv : qv.isSome = true := v1.isS (by intro h; rw [h] at hr1; simp at hr1)
   have hcellv := (v1.ext eD).cell 0 _ hr1
   have Hrb := hid hr2
   have HM := hid hM
   have Hcv := hid hcv
   have hT7D := HT7.out.ext eD
   refine wp_region_T (n := 16) (S := fun W => Ext w2.drew W) (by kernel_rfl) rfl ?_
   have hS0 : Ext w2.drew w2.drew := Ext.refl _
   refine hs_take (k := 0) (.slice q5 no c5) (by kernel_rfl) rfl rfl (fun _ _ _ h => h) hS0 (fun W hW => by go_simp) ?_
   (try simp only [List.getElem_toArray, List.getElem_cons_succ, List.getElem_cons_zero])
   simp only [Act.put, ev_tmp, pu1, pu2, pu3, pu4, pu5]
   refine hs_take (k := 1) (.slice q7 no k7) (by kernel_rfl) rfl rfl (fun _ _ _ h => h) hS0 (fun W hW => by go_simp) ?_
   (try simp only [List.getElem_toArray, List.getElem_cons_succ, List.getElem_cons_zero])
   simp only [Act.put, ev_tmp, pu1, pu2, pu3, pu4, pu5]
   refine hs_take (k := 3) (.slice q6 nw c6) (by kernel_rfl) rfl rfl (fun _ _ _ h => h) hS0 (fun W hW => by go_simp) ?_
   (try simp only [List.getElem_toArray, List.getElem_cons_succ, List.getElem_cons_zero])
   simp only [Act.put, ev_tmp, pu1, pu2, pu3, pu4, pu5]
   refine hs_take (k := 5) (.slice q7 no k7) (by kernel_rfl) rfl rfl (fun _ _ _ h => h) hS0 (fun W hW => by go_simp) ?_
   (try simp only [List.getElem_toArray, List.getElem_cons_succ, List.getElem_cons_zero])
   simp only [Act.put, ev_tmp, pu1, pu2, pu3, pu4, pu5]
   refine hs_take (k := 6) (.slice q7 no k7) (by kernel_rfl) rfl rfl (fun _ _ _ h => h) hS0 (fun W hW => by go_simp) ?_
   (try simp only [List.getElem_toArray, List.getElem_cons_succ, List.getElem_cons_zero])
   simp only [Act.put, ev_tmp, pu1, pu2, pu3, pu4, pu5]
   refine hs_take (k := 7) (.int .i64 (no : Int)) (by kernel_rfl) rfl rfl (fun _ _ _ h => h) hS0 (fun W hW => by go_simp) ?_
   (try simp only [List.getElem_toArray, List.getElem_cons_succ, List.getElem_cons_zero])
   simp only [Act.put, ev_tmp, pu1, pu2, pu3, pu4, pu5]
   refine hs_take (k := 8) (.int .i64 (M : Int)) (by kernel_rfl) rfl rfl (fun _ _ _ h => h) hS0 (fun W hW => by have h1 := hwM; have h2 := HM.out; go_simp; exact wrap_in _ (by omega) (by omega)) ?_
   (try simp only [List.getElem_toArray, List.getElem_cons_succ, List.getElem_cons_zero])
   simp only [Act.put, ev_tmp, pu1, pu2, pu3, pu4, pu5]
   refine hs_idx (k := 9) (p := q7) (m := no) (c := k7) (kk := .i64) (j := M) (i := (M : Int)) (by kernel_rfl) rfl rfl (fun _ _ _ h => h) hS0 rfl (by simp [Act.eval]) (by simp [Act.eval]) rfl hqs hMn ?_
   (try simp only [List.getElem_toArray, List.getElem_cons_succ, List.getElem_cons_zero])
   simp only [Act.put, ev_tmp, pu1, pu2, pu3, pu4, pu5]
   refine hs_fa (k := 10) (p := q7) (i := M * shTensor.sz) (off := 2) (by kernel_rfl) rfl rfl (fun _ _ _ h => h) hS0 rfl (by simp [Act.eval]) fo_implTensor_2 ?_
   (try simp only [List.getElem_toArray, List.getElem_cons_succ, List.getElem_cons_zero])
   simp only [Act.put, ev_tmp, pu1, pu2, pu3, pu4, pu5]
   refine hs_ld1 (k := 11) (q := adr q7 (M * shTensor.sz + 2)) (u := .slice qv ((sh M).1 * (sh M).2) kv) (by kernel_rfl) rfl rfl (fun _ _ _ h => h) hS0 rfl (by simp [Act.eval]) (fun W hW => by exact (hT7D.ext hW).cell Hcv.out rfl) ?_
   (try simp only [List.getElem_toArray, List.getElem_cons_succ, List.getElem_cons_zero])
   simp only [Act.put, ev_tmp, pu1, pu2, pu3, pu4, pu5]
   refine hs_idx (k := 12) (p := qv) (m := (sh M).1 * (sh M).2) (c := kv) (kk := .i64) (j := 0) (i := (0 : Int)) (by kernel_rfl) rfl rfl (fun _ _ _ h => h) hS0 rfl (by simp [Act.eval]) (by simp [Act.eval]) rfl hqv (by omega) ?_
   (try simp only [List.getElem_toArray, List.getElem_cons_succ, List.getElem_cons_zero])
   simp only [Act.put, ev_tmp, pu1, pu2, pu3, pu4, pu5]
   refine hs_ld1 (k := 13) (q := adr qv 0) (u := .float .f32 rb) (by kernel_rfl) rfl rfl (fun _ _ _ h => h) hS0 rfl (by simp [Act.eval]) (fun W hW => by exact hW.cell hcellv) ?_
   (try simp only [List.getElem_toArray, List.getElem_cons_succ, List.getElem_cons_zero])
   simp only [Act.put, ev_tmp, pu1, pu2, pu3, pu4, pu5]
   refine hs_only (k := 2) (by kernel_rfl) ?_
   refine wpOp_call (f := 81) (args := #[.slice q5 no c5, .slice q7 no k7]) rfl rfl rfl Tryz.func81 rfl (by kernel_rfl) (by simp [Act.eval]) (l04Gradients_any q5 q7 no c5 k7 cs5 vcs ops w2.drew (HO.out.ext (e2.trans eD)) hT7D HT.out t2) ?_
   rintro e W3 ⟨g, cc, gcs, rfl, hGT, e3⟩
   refine ⟨_, rfl, e3, ?_⟩
   (try simp only [List.getElem_toArray, List.getElem_cons_succ, List.getElem_cons_zero])
   simp only [Act.put, ev_tmp, pu1, pu2, pu3, pu4, pu5]
   refine hs_only (k := 4) (by kernel_rfl) ?_
   refine wpOp_call (f := 80) (args := #[.slice g no cc, .slice q6 nw c6]) rfl rfl rfl Tryz.func80 rfl (by kernel_rfl) (by simp [Act.eval]) (l04Flat_any g q6 no cc nw c6 gcs ops ws W3 hGT Hno.out HT.out t2 (HW.out.ext ((e2.trans eD).trans e3)) Hnw.out t3 H4.out) ?_
   rintro e W4 ⟨q9, c9, vs9, rfl, own9, f9, e4⟩
   have hS4 := e3.trans e4
   refine ⟨_, rfl, hS4, ?_⟩
   (try simp only [List.getElem_toArray, List.getElem_cons_succ, List.getElem_cons_zero])
   simp only [Act.put, ev_tmp, pu1, pu2, pu3, pu4, pu5]
   refine hs_take (k := 14) (.slice q9 (flatW ops ws).length c9) (by kernel_rfl) rfl rfl (fun _ _ _ h => h) hS4 (fun W hW => by go_simp) ?_
   (try simp only [List.getElem_toArray, List.getElem_cons_succ, List.getElem_cons_zero])
   simp only [Act.put, ev_tmp, pu1, pu2, pu3, pu4, pu5]
   refine hs_take (k := 15) (.float .f32 rb) (by kernel_rfl) rfl rfl (fun _ _ _ h => h) hS4 (fun W hW => by go_simp) ?_
   (try simp only [List.getElem_toArray, List.getElem_cons_succ, List.getElem_cons_zero])
   simp only [Act.put, ev_tmp, pu1, pu2, pu3, pu4, pu5]
   refine hs_last (k := 16) (by kernel_rfl) rfl ?_
   go_wp2
   refine bodyPost_ret (results_tmp3 (t := 8) (u := 9) (v := 10) (by kernel_rfl) _ _ _) rfl ?_
   have hE := (e1.trans e2).trans (eD.trans hS4)
   have hsz := ((e1.trans e2).trans (eD.trans e3)).size
   refine ⟨Or.inr ⟨HG.out, q9, c9, rb, vs9, ?_, ?_, ?_, ?_⟩, hE⟩
   · rw [Hops.out, Hws.out]; first | rfl | (congr 2; done) | simp
   · rw [Hops.out, Hws.out]; exact own_base own9 hsz
   · rw [Hops.out, Hws.out]; exact f9
   · rw [Hops.out]
     have hL1 : no - 1 = M := by have := HM.out; omega
     unfold lossT
     rw [Hno.out, hL1, ← valsT_at ops (show M < no from hMn), dv]
     exact Hrb.out
abbrev shExamples : Sh := .pr shTensor (.pr shTensor (.un))
instance elStExamplesimpl : ElTy Tryz.prog 60 shExamples := ⟨by kernel_rfl, by kernel_rfl⟩
instance elStExampleslaws : ElTy Tryz.prog 55 shExamples := ⟨by kernel_rfl, by kernel_rfl⟩
set_option maxRecDepth 100000 in
set_option maxHeartbeats 1000000 in
theorem eqExamples_ok : EqOk 29 shExamples := by
 intro cs cs' d w hu hv hn
 obtain ⟨⟨a1_1, a1_2, a1_3, a1_u⟩, ⟨a2_1, a2_2, a2_3, a2_u⟩, au⟩ := d
 obtain ⟨_, _, rfl, ⟨_, _, rfl, rfl, _, _, rfl, rfl, _, _, rfl, ha1_3, rfl⟩, _, _, rfl, ⟨_, _, rfl, rfl, _, _, rfl, rfl, _, _, rfl, ha2_3, rfl⟩, rfl⟩ := hu
 obtain ⟨pa1_3, ca1_3, rfl, hla1_3⟩ := rep_val ha1_3
 obtain ⟨pa2_3, ca2_3, rfl, hla2_3⟩ := rep_val ha2_3
 obtain ⟨_, _, rfl, ⟨_, _, rfl, rfl, _, _, rfl, rfl, _, _, rfl, hqa1_3, rfl⟩, _, _, rfl, ⟨_, _, rfl, rfl, _, _, rfl, rfl, _, _, rfl, hqa2_3, rfl⟩, rfl⟩ := hv
 obtain ⟨pqa1_3, cqa1_3, rfl, hlqa1_3⟩ := rep_val hqa1_3
 obtain ⟨pqa2_3, cqa2_3, rfl, hlqa2_3⟩ := rep_val hqa2_3
 have hba1 : tot shTensor (a1_1, a1_2, a1_3, a1_u) ≤ 1048576 := by simp only [tot] at hn ⊢; omega
 have hba2 : tot shTensor (a2_1, a2_2, a2_3, a2_u) ≤ 1048576 := by simp only [tot] at hn ⊢; omega
 simp only [ofCs, Sh.agg, List.cons_append, List.nil_append, if_true]
 go_enter Tryz.func29, Tryz.ntmps29
 go_wp2_with fail
 refine (eqTensor_ok [.int .i64 a1_1, .int .i64 a1_2, .slice pa1_3 (List.length a1_3) ca1_3] [.int .i64 a1_1, .int .i64 a1_2, .slice pqa1_3 (List.length a1_3) cqa1_3] (a1_1, a1_2, a1_3, a1_u) _ (Rep.ext (w := w) ?_ (⟨[.int .i64 a1_1], [.int .i64 a1_2, .slice pa1_3 (List.length a1_3) ca1_3], rfl, rfl, [.int .i64 a1_2], [.slice pa1_3 (List.length a1_3) ca1_3], rfl, rfl, [.slice pa1_3 (List.length a1_3) ca1_3], [], rfl, ha1_3, rfl⟩ : Rep w shTensor [.int .i64 a1_1, .int .i64 a1_2, .slice pa1_3 (List.length a1_3) ca1_3] (a1_1, a1_2, a1_3, a1_u))) (Rep.ext (w := w) ?_ (⟨[.int .i64 a1_1], [.int .i64 a1_2, .slice pqa1_3 (List.length a1_3) cqa1_3], rfl, rfl, [.int .i64 a1_2], [.slice pqa1_3 (List.length a1_3) cqa1_3], rfl, rfl, [.slice pqa1_3 (List.length a1_3) cqa1_3], [], rfl, hqa1_3, rfl⟩ : Rep w shTensor [.int .i64 a1_1, .int .i64 a1_2, .slice pqa1_3 (List.length a1_3) cqa1_3] (a1_1, a1_2, a1_3, a1_u))) hba1).mono ?_
 · (repeat (first | with_reducible exact Ext.refl _ | with_reducible assumption | ((with_reducible refine Ext.setCell ?_ ?_ _); rotate_left; focus (first | (simp; done) | (simp; omega))) | (with_reducible refine Ext.trans ?_ (Ext.alloc _ _)) | (with_reducible refine Ext.trans ?_ (Ext.drew _)) | (with_reducible refine Ext.trans ?_ (by with_reducible assumption))))
 · (repeat (first | with_reducible exact Ext.refl _ | with_reducible assumption | ((with_reducible refine Ext.setCell ?_ ?_ _); rotate_left; focus (first | (simp; done) | (simp; omega))) | (with_reducible refine Ext.trans ?_ (Ext.alloc _ _)) | (with_reducible refine Ext.trans ?_ (Ext.drew _)) | (with_reducible refine Ext.trans ?_ (by with_reducible assumption))))
 rintro e w1 ⟨rfl, e1⟩
 have x1_0 := e1.cellOf (b := w.heap.size) (by first | (simp; done) | (simp; omega))
 have x1_1 := e1.cellOf (b := w.heap.size + 1) (by first | (simp; done) | (simp; omega))
 have y1 := e1.size
 go_wp2_with fail
 refine (eqTensor_ok [.int .i64 a2_1, .int .i64 a2_2, .slice pa2_3 (List.length a2_3) ca2_3] [.int .i64 a2_1, .int .i64 a2_2, .slice pqa2_3 (List.length a2_3) cqa2_3] (a2_1, a2_2, a2_3, a2_u) _ (Rep.ext (w := w) ?_ (⟨[.int .i64 a2_1], [.int .i64 a2_2, .slice pa2_3 (List.length a2_3) ca2_3], rfl, rfl, [.int .i64 a2_2], [.slice pa2_3 (List.length a2_3) ca2_3], rfl, rfl, [.slice pa2_3 (List.length a2_3) ca2_3], [], rfl, ha2_3, rfl⟩ : Rep w shTensor [.int .i64 a2_1, .int .i64 a2_2, .slice pa2_3 (List.length a2_3) ca2_3] (a2_1, a2_2, a2_3, a2_u))) (Rep.ext (w := w) ?_ (⟨[.int .i64 a2_1], [.int .i64 a2_2, .slice pqa2_3 (List.length a2_3) cqa2_3], rfl, rfl, [.int .i64 a2_2], [.slice pqa2_3 (List.length a2_3) cqa2_3], rfl, rfl, [.slice pqa2_3 (List.length a2_3) cqa2_3], [], rfl, hqa2_3, rfl⟩ : Rep w shTensor [.int .i64 a2_1, .int .i64 a2_2, .slice pqa2_3 (List.length a2_3) cqa2_3] (a2_1, a2_2, a2_3, a2_u))) hba2).mono ?_
 · (repeat (first | with_reducible exact Ext.refl _ | with_reducible assumption | ((with_reducible refine Ext.setCell ?_ ?_ _); rotate_left; focus (first | (simp; done) | (simp; omega))) | (with_reducible refine Ext.trans ?_ (Ext.alloc _ _)) | (with_reducible refine Ext.trans ?_ (Ext.drew _)) | (with_reducible refine Ext.trans ?_ (by with_reducible assumption))))
 · (repeat (first | with_reducible exact Ext.refl _ | with_reducible assumption | ((with_reducible refine Ext.setCell ?_ ?_ _); rotate_left; focus (first | (simp; done) | (simp; omega))) | (with_reducible refine Ext.trans ?_ (Ext.alloc _ _)) | (with_reducible refine Ext.trans ?_ (Ext.drew _)) | (with_reducible refine Ext.trans ?_ (by with_reducible assumption))))
 rintro e w2 ⟨rfl, e2⟩
 have x2_0 := e2.cellOf (b := w.heap.size) (by first | (simp; done) | (simp; omega) | (simp at y1 ⊢; omega) | (simp at y1; omega) | (simp at y1 ⊢; omega) | (simp at y1; omega))
 have x2_1 := e2.cellOf (b := w.heap.size + 1) (by first | (simp; done) | (simp; omega) | (simp at y1 ⊢; omega) | (simp at y1; omega) | (simp at y1 ⊢; omega) | (simp at y1; omega))
 have y2 := e2.size
 go_wp2
 go_ret
 refine ⟨rfl, ?_⟩
 (repeat (first | with_reducible exact Ext.refl _ | with_reducible assumption | ((with_reducible refine Ext.setCell ?_ ?_ _); rotate_left; focus (first | (simp; done) | (simp; omega))) | (with_reducible refine Ext.trans ?_ (Ext.alloc _ _)) | (with_reducible refine Ext.trans ?_ (Ext.drew _)) | (with_reducible refine Ext.trans ?_ (by with_reducible assumption))))
set_option maxRecDepth 100000 in
set_option maxHeartbeats 1000000 in
theorem szExamples_ok : SzOk 25 shExamples := by
 intro cs d left w hu hl0 hl1
 obtain ⟨⟨a1_1, a1_2, a1_3, a1_u⟩, ⟨a2_1, a2_2, a2_3, a2_u⟩, au⟩ := d
 obtain ⟨_, _, rfl, ⟨_, _, rfl, rfl, _, _, rfl, rfl, _, _, rfl, ha1_3, rfl⟩, _, _, rfl, ⟨_, _, rfl, rfl, _, _, rfl, rfl, _, _, rfl, ha2_3, rfl⟩, rfl⟩ := hu
 obtain ⟨pa1_3, ca1_3, rfl, hla1_3⟩ := rep_val ha1_3
 obtain ⟨pa2_3, ca2_3, rfl, hla2_3⟩ := rep_val ha2_3
 simp only [ofCs, Sh.agg, List.cons_append, List.nil_append, if_true]
 generalize hT : tot shExamples ((a1_1, a1_2, a1_3, a1_u), (a2_1, a2_2, a2_3, a2_u), au) = T
 have HT := hid hT
 clear hT
 go_enter Tryz.func25, Tryz.ntmps25
 go_wp2_with fail
 refine (szTensor_ok [.int .i64 a1_1, .int .i64 a1_2, .slice pa1_3 (List.length a1_3) ca1_3] (a1_1, a1_2, a1_3, a1_u) left _ (Rep.ext (w := w) ?_ (⟨[.int .i64 a1_1], [.int .i64 a1_2, .slice pa1_3 (List.length a1_3) ca1_3], rfl, rfl, [.int .i64 a1_2], [.slice pa1_3 (List.length a1_3) ca1_3], rfl, rfl, [.slice pa1_3 (List.length a1_3) ca1_3], [], rfl, ha1_3, rfl⟩ : Rep w shTensor [.int .i64 a1_1, .int .i64 a1_2, .slice pa1_3 (List.length a1_3) ca1_3] (a1_1, a1_2, a1_3, a1_u))) (by omega) (by omega)).mono ?_
 · (repeat (first | with_reducible exact Ext.refl _ | with_reducible assumption | ((with_reducible refine Ext.setCell ?_ ?_ _); rotate_left; focus (first | (simp; done) | (simp; omega))) | (with_reducible refine Ext.trans ?_ (Ext.alloc _ _)) | (with_reducible refine Ext.trans ?_ (Ext.drew _)) | (with_reducible refine Ext.trans ?_ (by with_reducible assumption))))
 rintro e w1 ⟨⟨r1, rfl, hr1⟩, e1⟩
 have x1_0 := e1.cellOf (b := w.heap.size) (by first | (simp; done) | (simp; omega))
 have y1 := e1.size
 by_cases hn1 : r1 < 0
 · go_wp2
   go_ret
   refine ⟨⟨-1, rfl, .inl (by omega)⟩, ?_⟩
   (repeat (first | with_reducible exact Ext.refl _ | with_reducible assumption | ((with_reducible refine Ext.setCell ?_ ?_ _); rotate_left; focus (first | (simp; done) | (simp; omega))) | (with_reducible refine Ext.trans ?_ (Ext.alloc _ _)) | (with_reducible refine Ext.trans ?_ (Ext.drew _)) | (with_reducible refine Ext.trans ?_ (by with_reducible assumption))))
 have hq1 : r1 = left - (tot shTensor (a1_1, a1_2, a1_3, a1_u) : Int) := by rcases hr1 with h | h; exact absurd h hn1; exact h.1
 have Hq1 := hid hq1
 have hz1 : 0 ≤ r1 := by omega
 have ht1 : r1 ≤ 1048576 := by omega
 clear hr1 hq1
 go_wp2_with fail
 refine (szTensor_ok [.int .i64 a2_1, .int .i64 a2_2, .slice pa2_3 (List.length a2_3) ca2_3] (a2_1, a2_2, a2_3, a2_u) r1 _ (Rep.ext (w := w) ?_ (⟨[.int .i64 a2_1], [.int .i64 a2_2, .slice pa2_3 (List.length a2_3) ca2_3], rfl, rfl, [.int .i64 a2_2], [.slice pa2_3 (List.length a2_3) ca2_3], rfl, rfl, [.slice pa2_3 (List.length a2_3) ca2_3], [], rfl, ha2_3, rfl⟩ : Rep w shTensor [.int .i64 a2_1, .int .i64 a2_2, .slice pa2_3 (List.length a2_3) ca2_3] (a2_1, a2_2, a2_3, a2_u))) (by omega) (by omega)).mono ?_
 · (repeat (first | with_reducible exact Ext.refl _ | with_reducible assumption | ((with_reducible refine Ext.setCell ?_ ?_ _); rotate_left; focus (first | (simp; done) | (simp; omega))) | (with_reducible refine Ext.trans ?_ (Ext.alloc _ _)) | (with_reducible refine Ext.trans ?_ (Ext.drew _)) | (with_reducible refine Ext.trans ?_ (by with_reducible assumption))))
 rintro e w2 ⟨⟨r2, rfl, hr2⟩, e2⟩
 have x2_0 := e2.cellOf (b := w.heap.size) (by first | (simp; done) | (simp; omega) | (simp at y1 ⊢; omega) | (simp at y1; omega) | (simp at y1 ⊢; omega) | (simp at y1; omega))
 have y2 := e2.size
 by_cases hn2 : r2 < 0
 · go_wp2
   go_ret
   refine ⟨⟨-1, rfl, .inl (by omega)⟩, ?_⟩
   (repeat (first | with_reducible exact Ext.refl _ | with_reducible assumption | ((with_reducible refine Ext.setCell ?_ ?_ _); rotate_left; focus (first | (simp; done) | (simp; omega))) | (with_reducible refine Ext.trans ?_ (Ext.alloc _ _)) | (with_reducible refine Ext.trans ?_ (Ext.drew _)) | (with_reducible refine Ext.trans ?_ (by with_reducible assumption))))
 have hq2 : r2 = r1 - (tot shTensor (a2_1, a2_2, a2_3, a2_u) : Int) := by rcases hr2 with h | h; exact absurd h hn2; exact h.1
 have Hq2 := hid hq2
 have hz2 : 0 ≤ r2 := by omega
 have ht2 : r2 ≤ 1048576 := by omega
 clear hr2 hq2
 go_wp2
 go_ret
 refine ⟨⟨_, rfl, .inr ⟨?_, by omega⟩⟩, ?_⟩
 · have h0 := HT.out
   simp only [tot] at h0
   have h1 := Hq1.out
   simp only [tot] at h1
   have h2 := Hq2.out
   simp only [tot] at h2
   omega
 · (repeat (first | with_reducible exact Ext.refl _ | with_reducible assumption | ((with_reducible refine Ext.setCell ?_ ?_ _); rotate_left; focus (first | (simp; done) | (simp; omega))) | (with_reducible refine Ext.trans ?_ (Ext.alloc _ _)) | (with_reducible refine Ext.trans ?_ (Ext.drew _)) | (with_reducible refine Ext.trans ?_ (by with_reducible assumption))))
set_option maxRecDepth 100000 in
set_option maxHeartbeats 1000000 in
theorem toExamples_ok : ToOk 27 shExamples := by
 intro cs d w hu hn
 obtain ⟨⟨a1_1, a1_2, a1_3, a1_u⟩, ⟨a2_1, a2_2, a2_3, a2_u⟩, au⟩ := d
 obtain ⟨_, _, rfl, ⟨_, _, rfl, rfl, _, _, rfl, rfl, _, _, rfl, ha1_3, rfl⟩, _, _, rfl, ⟨_, _, rfl, rfl, _, _, rfl, rfl, _, _, rfl, ha2_3, rfl⟩, rfl⟩ := hu
 obtain ⟨pa1_3, ca1_3, rfl, hla1_3⟩ := rep_val ha1_3
 obtain ⟨pa2_3, ca2_3, rfl, hla2_3⟩ := rep_val ha2_3
 have hba1 : tot shTensor (a1_1, a1_2, a1_3, a1_u) ≤ 1048576 := by simp only [tot] at hn ⊢; omega
 have hba2 : tot shTensor (a2_1, a2_2, a2_3, a2_u) ≤ 1048576 := by simp only [tot] at hn ⊢; omega
 simp only [ofCs, Sh.agg, List.cons_append, List.nil_append, if_true]
 go_enter Tryz.func27, Tryz.ntmps27
 go_wp2_with fail
 refine (toTensor_ok [.int .i64 a1_1, .int .i64 a1_2, .slice pa1_3 (List.length a1_3) ca1_3] (a1_1, a1_2, a1_3, a1_u) _ (Rep.ext (w := w) ?_ (⟨[.int .i64 a1_1], [.int .i64 a1_2, .slice pa1_3 (List.length a1_3) ca1_3], rfl, rfl, [.int .i64 a1_2], [.slice pa1_3 (List.length a1_3) ca1_3], rfl, rfl, [.slice pa1_3 (List.length a1_3) ca1_3], [], rfl, ha1_3, rfl⟩ : Rep w shTensor [.int .i64 a1_1, .int .i64 a1_2, .slice pa1_3 (List.length a1_3) ca1_3] (a1_1, a1_2, a1_3, a1_u))) hba1).mono ?_
 · (repeat (first | with_reducible exact Ext.refl _ | with_reducible assumption | ((with_reducible refine Ext.setCell ?_ ?_ _); rotate_left; focus (first | (simp; done) | (simp; omega))) | (with_reducible refine Ext.trans ?_ (Ext.alloc _ _)) | (with_reducible refine Ext.trans ?_ (Ext.drew _)) | (with_reducible refine Ext.trans ?_ (by with_reducible assumption))))
 rintro e w1 ⟨cs1, bs1, rfl, owna1, nd1, lo1, e1⟩
 have hqa1 := owna1.rep
 obtain ⟨_, _, rfl, rfl, _, _, rfl, rfl, _, _, rfl, hqa1_3, rfl⟩ := hqa1
 obtain ⟨pqa1_3, cqa1_3, rfl, glqa1_3⟩ := rep_val hqa1_3
 simp only [ofCs, Sh.agg, List.cons_append, List.nil_append, if_true] at owna1 ⊢
 have x1_0 := e1.cellOf (b := w.heap.size) (by first | (simp; done) | (simp; omega))
 have x1_1 := e1.cellOf (b := w.heap.size + 1) (by first | (simp; done) | (simp; omega))
 have x1_2 := e1.cellOf (b := w.heap.size + 2) (by first | (simp; done) | (simp; omega))
 have y1 := e1.size
 go_wp2_with fail
 refine (toTensor_ok [.int .i64 a2_1, .int .i64 a2_2, .slice pa2_3 (List.length a2_3) ca2_3] (a2_1, a2_2, a2_3, a2_u) _ (Rep.ext (w := w) ?_ (⟨[.int .i64 a2_1], [.int .i64 a2_2, .slice pa2_3 (List.length a2_3) ca2_3], rfl, rfl, [.int .i64 a2_2], [.slice pa2_3 (List.length a2_3) ca2_3], rfl, rfl, [.slice pa2_3 (List.length a2_3) ca2_3], [], rfl, ha2_3, rfl⟩ : Rep w shTensor [.int .i64 a2_1, .int .i64 a2_2, .slice pa2_3 (List.length a2_3) ca2_3] (a2_1, a2_2, a2_3, a2_u))) hba2).mono ?_
 · (repeat (first | with_reducible exact Ext.refl _ | with_reducible assumption | ((with_reducible refine Ext.setCell ?_ ?_ _); rotate_left; focus (first | (simp; done) | (simp; omega))) | (with_reducible refine Ext.trans ?_ (Ext.alloc _ _)) | (with_reducible refine Ext.trans ?_ (Ext.drew _)) | (with_reducible refine Ext.trans ?_ (by with_reducible assumption))))
 rintro e w2 ⟨cs2, bs2, rfl, owna2, nd2, lo2, e2⟩
 have hqa2 := owna2.rep
 obtain ⟨_, _, rfl, rfl, _, _, rfl, rfl, _, _, rfl, hqa2_3, rfl⟩ := hqa2
 obtain ⟨pqa2_3, cqa2_3, rfl, glqa2_3⟩ := rep_val hqa2_3
 simp only [ofCs, Sh.agg, List.cons_append, List.nil_append, if_true] at owna2 ⊢
 have x2_0 := e2.cellOf (b := w.heap.size) (by first | (simp; done) | (simp; omega) | (simp at y1 ⊢; omega) | (simp at y1; omega) | (simp at y1 ⊢; omega) | (simp at y1; omega))
 have x2_1 := e2.cellOf (b := w.heap.size + 1) (by first | (simp; done) | (simp; omega) | (simp at y1 ⊢; omega) | (simp at y1; omega) | (simp at y1 ⊢; omega) | (simp at y1; omega))
 have x2_2 := e2.cellOf (b := w.heap.size + 2) (by first | (simp; done) | (simp; omega) | (simp at y1 ⊢; omega) | (simp at y1; omega) | (simp at y1 ⊢; omega) | (simp at y1; omega))
 have y2 := e2.size
 go_wp2
 refine bodyPost_ret (v := .agg #[.int .i64 a1_1, .int .i64 a1_2, .slice pqa1_3 (List.length a1_3) cqa1_3, .int .i64 a2_1, .int .i64 a2_2, .slice pqa2_3 (List.length a2_3) cqa2_3]) (by simp [results, Tryz.results27, go_sem, x1_0, x1_1, x1_2, x2_0, x2_1, x2_2, y1, y2]) rfl ?_
 generalize hW : World.setCell _ _ _ = W
 have eW : Ext w W := by subst hW; (repeat (first | with_reducible exact Ext.refl _ | with_reducible assumption | ((with_reducible refine Ext.setCell ?_ ?_ _); rotate_left; focus (first | (simp; done) | (simp; omega))) | (with_reducible refine Ext.trans ?_ (Ext.alloc _ _)) | (with_reducible refine Ext.trans ?_ (Ext.drew _)) | (with_reducible refine Ext.trans ?_ (by with_reducible assumption))))
 have ch1 : Chg (fun b => b < w.heap.size + 3) w1 W := by subst hW; (repeat (first | with_reducible exact Chg.refl _ _ | (with_reducible exact Chg.of_ext (by with_reducible assumption)) | with_reducible assumption | ((with_reducible refine Chg.setCell ?_ ?_ _); rotate_left; focus (first | (simp; done) | (simp; omega))) | (with_reducible refine Chg.alloc ?_ _) | (with_reducible refine Chg.drew ?_) | (with_reducible refine Chg.trans ?_ (Chg.of_ext (by with_reducible assumption)))))
 have owa1 : Own W shTensor [.int .i64 a1_1, .int .i64 a1_2, .slice pqa1_3 (List.length a1_3) cqa1_3] (a1_1, a1_2, a1_3, a1_u) bs1 := owna1.chg ch1 (fun b hb => by have := lo1 b hb; simp at this; omega)
 have ch2 : Chg (fun b => b < w.heap.size + 3) w2 W := by subst hW; (repeat (first | with_reducible exact Chg.refl _ _ | (with_reducible exact Chg.of_ext (by with_reducible assumption)) | with_reducible assumption | ((with_reducible refine Chg.setCell ?_ ?_ _); rotate_left; focus (first | (simp; done) | (simp; omega))) | (with_reducible refine Chg.alloc ?_ _) | (with_reducible refine Chg.drew ?_) | (with_reducible refine Chg.trans ?_ (Chg.of_ext (by with_reducible assumption)))))
 have owa2 : Own W shTensor [.int .i64 a2_1, .int .i64 a2_2, .slice pqa2_3 (List.length a2_3) cqa2_3] (a2_1, a2_2, a2_3, a2_u) bs2 := owna2.chg ch2 (fun b hb => by have := lo2 b hb; simp at this y1; omega)
 refine ⟨[.int .i64 a1_1, .int .i64 a1_2, .slice pqa1_3 (List.length a1_3) cqa1_3, .int .i64 a2_1, .int .i64 a2_2, .slice pqa2_3 (List.length a2_3) cqa2_3], (bs1 ++ (bs2 ++ ([]))), rfl, (⟨[.int .i64 a1_1, .int .i64 a1_2, .slice pqa1_3 (List.length a1_3) cqa1_3], [.int .i64 a2_1, .int .i64 a2_2, .slice pqa2_3 (List.length a2_3) cqa2_3], bs1, (bs2 ++ ([])), rfl, owa1, ⟨[.int .i64 a2_1, .int .i64 a2_2, .slice pqa2_3 (List.length a2_3) cqa2_3], [], bs2, ([]), rfl, owa2, ⟨rfl, rfl⟩, rfl⟩, rfl⟩ : Own W shExamples [.int .i64 a1_1, .int .i64 a1_2, .slice pqa1_3 (List.length a1_3) cqa1_3, .int .i64 a2_1, .int .i64 a2_2, .slice pqa2_3 (List.length a2_3) cqa2_3] ((a1_1, a1_2, a1_3, a1_u), (a2_1, a2_2, a2_3, a2_u), au) _), ?_, ?_, eW⟩
 · simp only [List.nil_append, List.append_nil]
   exact nodup_app2 w1.heap.size nd1 (nd2) (owna1.lt) (fun b hb => by (have := lo2 b hb; simp at this; omega))
 · intro b hb
   simp only [List.nil_append, List.append_nil, List.mem_append] at hb
   rcases hb with hb | hb
   · have := lo1 b hb; simp at this; omega
   · have := lo2 b hb; simp at this y1; omega
def exaB (r1 c1 : Int) (n1 : Nat) (r2 c2 : Int) (n2 : Nat) : Bool := tenB r1 c1 n1 && (tenB r2 c2 n2 && decide (r1 = r2))
set_option maxRecDepth 100000 in
set_option maxHeartbeats 1000000 in
theorem l07Data_any (bl o : Nat) (r1 c1 : Int) (p1 : Option Addr) (n1 q1 : Nat) (r2 c2 : Int) (p2 : Option Addr) (n2 q2 : Nat) (w : World)
 (f0 : w.cell? ⟨bl, o, none⟩ = some (.int .i64 r1)) (f1 : w.cell? ⟨bl, o + 1, none⟩ = some (.int .i64 c1)) (f2 : w.cell? ⟨bl, o + 2, none⟩ = some (.slice p1 n1 q1))
 (f3 : w.cell? ⟨bl, o + 3, none⟩ = some (.int .i64 r2)) (f4 : w.cell? ⟨bl, o + 4, none⟩ = some (.int .i64 c2)) (f5 : w.cell? ⟨bl, o + 5, none⟩ = some (.slice p2 n2 q2)) (h1 : n1 ≤ maxLen) (h2 : n2 ≤ maxLen) :
 Calls Tryz.prog 44 #[.pointer (some ⟨bl, o, none⟩)] w (RetB w (exaB r1 c1 n1 r2 c2 n2)) := by
 have d0 := (Ext.drew w).cell f0
 have d1 := (Ext.drew w).cell f1
 have d2 := (Ext.drew w).cell f2
 have d3 := (Ext.drew w).cell f3
 have d4 := (Ext.drew w).cell f4
 have d5 := (Ext.drew w).cell f5
 clear f0 f1 f2 f3 f4 f5
 unfold exaB
 have C1 := fun w1 (hw1 : Ext w.drew w1) => calls_retB (l02Is_any bl o r1 c1 p1 n1 q1 w1 (hw1.cell d0) (hw1.cell d1) (hw1.cell d2) h1)
 have C2 := fun w1 (hw1 : Ext w.drew w1) => calls_retB (l02Is_any bl (o + 3) r2 c2 p2 n2 q2 w1 (hw1.cell d3) (hw1.cell d4) (hw1.cell d5) h2)
 generalize tenB r1 c1 n1 = b1 at *
 generalize tenB r2 c2 n2 = b2 at *
 obtain ⟨F, hF⟩ : ∃ F : Option Tmp → World → Value → Prop, F = fun d _ u => u = .bool (match d with | some 6 => b1 | _ => b2) := ⟨_, rfl⟩
 have K1 := hid C1
 have K2 := hid C2
 have HF := hid hF
 clear C1 C2 hF
 cases b1 <;> cases b2
 all_goals
  go_enter Tryz.func44, Tryz.ntmps44
  go_wp2
  refine wp_region_xall (F := F) (by kernel_rfl) (by kernel_rfl) (by kernel_rfl) ?_
  intro wf hwf
  repeat (first
   | (refine x_skip rfl ?_; simp only [Act.put, ev_tmp, pu1, pu2, pu3, pu4, pu5])
   | (refine x_mv rfl rfl rfl ?_; simp only [Act.put, ev_tmp, pu1, pu2, pu3, pu4, pu5])
   | (refine x_as rfl rfl rfl ?_; simp only [Act.put, ev_tmp, pu1, pu2, pu3, pu4, pu5])
   | ((with_reducible show wpX _ _ _ _ _ _ (Oper.mk _ (Op.call _) _ _ _ _ :: _) _); refine x_callf (f := 49) (args := #[.pointer (some ⟨bl, o, none⟩)]) rfl rfl Tryz.func49 rfl (by kernel_rfl) ?_ ?_ ?_; (focus (simp [Act.eval]; done)); (focus (intro w1 hw1; exact (by rw [HF.out]; exact K1.out w1 hw1))); rintro u w3 e3 e4 hu; simp only [HF.out] at hu; subst hu; simp only [Act.put, ev_tmp, pu1, pu2, pu3, pu4, pu5])
   | ((with_reducible show wpX _ _ _ _ _ _ (Oper.mk _ (Op.call _) _ _ _ _ :: _) _); refine x_callf (f := 49) (args := #[.pointer (some ⟨bl, o + 3, none⟩)]) rfl rfl Tryz.func49 rfl (by kernel_rfl) ?_ ?_ ?_; (focus (simp [Act.eval]; done)); (focus (intro w1 hw1; exact (by rw [HF.out]; exact K2.out w1 hw1))); rintro u w3 e3 e4 hu; simp only [HF.out] at hu; subst hu; simp only [Act.put, ev_tmp, pu1, pu2, pu3, pu4, pu5])
   | (refine x_run rfl fun K hK w1 hw1 => ?_; have k0 := hw1.cell (d0); have k1 := hw1.cell (d1); have k2 := hw1.cell (d2); have k3 := hw1.cell (d3); have k4 := hw1.cell (d4); have k5 := hw1.cell (d5); go_simp; refine hK _ ?_; clear hK K k0 k1 k2 k3 k4 k5 hw1 w1))
  refine x_nil ?_
  go_wp2
  go_ret
  exact ⟨rfl, (Ext.drew w).trans hwf⟩
set_option maxRecDepth 100000 in
set_option maxHeartbeats 1000000 in
theorem ValidExamples_any (r1 c1 : Int) (p1 : Option Addr) (n1 q1 : Nat) (r2 c2 : Int) (p2 : Option Addr) (n2 q2 : Nat) (w : World) (h1 : n1 ≤ maxLen) (h2 : n2 ≤ maxLen) :
 Calls Tryz.prog 46 #[.agg #[.int .i64 r1, .int .i64 c1, .slice p1 n1 q1, .int .i64 r2, .int .i64 c2, .slice p2 n2 q2]] w (RetB w (exaB r1 c1 n1 r2 c2 n2)) := by
 unfold exaB
 have C1 := fun w1 => ValidTensor_any r1 c1 p1 n1 q1 w1 h1
 have C2 := fun w1 => ValidTensor_any r2 c2 p2 n2 q2 w1 h2
 generalize tenB r1 c1 n1 = b1 at *
 generalize tenB r2 c2 n2 = b2 at *
 have K1 := hid C1
 have K2 := hid C2
 clear C1 C2
 cases b1 <;> cases b2
 all_goals
  go_enter Tryz.func46, Tryz.ntmps46
  go_wp2_with fail
  refine (K1.out _).mono ?_
  rintro e w1 ⟨rfl, e1⟩
  have x1 := e1.cellOf (b := w.heap.size) (by simp)
  first
  | (go_wp2_with fail
     refine (K2.out _).mono ?_
     rintro e w2 ⟨rfl, e2⟩
     have x2 := e2.cellOf (b := w.heap.size) (by have := e1.size; simp at this; omega)
     go_wp2
     go_ret
     exact ⟨rfl, ((Ext.alloc _ _).trans e1).trans e2⟩)
  | (go_wp2
     go_ret
     exact ⟨rfl, (Ext.alloc _ _).trans e1⟩)
def EvaRet (L : List shLayer.T) (r k : Int) (xs : List Nat) (r2 k2 : Int) (ys : List Nat) (e : Ending) : Prop := ∃ b : Nat, e = .returned (.tuple #[.float .f32 b, .bool (exaB r k xs.length r2 k2 ys.length && gradB L r k xs.length r2 k2 ys.length)]) ∧ cn .f32 b = if exaB r k xs.length r2 k2 ys.length && gradB L r k xs.length r2 k2 ys.length then lossT (tapeOf L r k xs r2 k2 ys) else 0
set_option maxRecDepth 100000 in
set_option maxHeartbeats 4000000 in
theorem EvaluateModel_any (p q q2 : Option Addr) (n c nx cx ny cy : Nat) (r k r2 k2 : Int) (css : List (List Value)) (L : List shLayer.T) (xs ys : List Nat) (us vs : List Value) (w : World) (hL : Lays w p n css L) (hxl : xs.length = nx) (hyl : ys.length = ny) (hnx : nx ≤ maxLen) (hny : ny ≤ maxLen) (hcx : nx ≤ cx) (hcy : ny ≤ cy) (hqx : Cs w q us) (hfx : F32s us xs) (hqy : Cs w q2 vs) (hfy : F32s vs ys) :
 Calls Tryz.prog 28 #[.agg #[.slice p n c], .agg #[.int .i64 r, .int .i64 k, .slice q nx cx, .int .i64 r2, .int .i64 k2, .slice q2 ny cy]] w fun e w' => EvaRet L r k xs r2 k2 ys e ∧ Ext w w' := by
 obtain ⟨W0, hW0⟩ : ∃ W0, W0 = (w.alloc (.cells #[.slice p n c] 35)).alloc (.cells #[.int .i64 r, .int .i64 k, .slice q nx cx, .int .i64 r2, .int .i64 k2, .slice q2 ny cy] 60) := ⟨_, rfl⟩
 obtain ⟨E0, s0, b0, b1⟩ := box2 hW0
 have A := hid (ValidExamples_any r k q nx cx r2 k2 q2 ny cy W0 hnx hny)
 have K := hid (fun W (h : Ext W0 W) => ModelLoss_any p q q2 n c nx cx ny cy r k r2 k2 css L xs ys us vs W (hL.ext (E0.trans h)) hxl hyl hnx hny hcx hcy (hqx.ext (E0.trans h)) hfx (hqy.ext (E0.trans h)) hfy)
 have b0 : HB W0 w.heap.size #[.slice p n c] 35 := b0
 have b1 : HB W0 (w.heap.size + 1) #[.int .i64 r, .int .i64 k, .slice q nx cx, .int .i64 r2, .int .i64 k2, .slice q2 ny cy] 60 := b1
 have HX := hid hxl; have HY := hid hyl
 generalize hE : exaB r k nx r2 k2 ny = E at *
 have HE := hid (show exaB r k xs.length r2 k2 ys.length = E by rw [hxl, hyl]; exact hE)
 clear hE hL hxl hyl
 cases E with
 | false =>
   go_enter Tryz.func28, Tryz.ntmps28
   go_wp2_with fail
   rw [← hW0]
   clear hW0
   refine A.out.mono ?_
   rintro e w1 ⟨rfl, e1⟩
   go_wp2
   go_ret2
   exact ⟨⟨0, by rw [HE.out]; rfl, by rw [HE.out]; exact cn0⟩, E0.trans e1⟩
 | true =>
   go_enter Tryz.func28, Tryz.ntmps28
   go_wp2_with fail
   rw [← hW0]
   clear hW0
   refine A.out.mono ?_
   rintro e w1 ⟨rfl, e1⟩
   have y0 := (b0.ext e1).cell 0 rfl
   have z0 := (b1.ext e1).cell 0 rfl; have z1 := (b1.ext e1).cell 1 rfl; have z2 := (b1.ext e1).cell 2 rfl; have z3 := (b1.ext e1).cell 3 rfl; have z4 := (b1.ext e1).cell 4 rfl; have z5 := (b1.ext e1).cell 5 rfl
   go_wp2_with fail
   refine (K.out w1 e1).mono ?_
   rintro e w2 ⟨⟨b, rfl, hb⟩, e2⟩
   have HB9 := hid hb
   clear hb y0 z0 z1 z2 z3 z4 z5
   generalize hg : gradB L r k xs.length r2 k2 ys.length = G at *
   have HG := hid hg
   clear hg
   go_wp2
   go_ret2
   exact ⟨⟨b, by rw [HE.out, HG.out]; rfl, by rw [HE.out, HG.out]; exact HB9.out⟩, (E0.trans e1).trans e2⟩
end Go.Proofs.YtlimabbeaimdgaaGreat
