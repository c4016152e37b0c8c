/- A part of the proofs: TnZ, TnXg, TnLs, StHB. -/
import Derived.Test.YtlimabbeaimdgaaGreatZ22Shared
import Derived.Test.YtlimabbeaimdgaaGreatTnXShar
import Derived.Test.YtlimabbeaimdgaaGreatZ23Shared
import Derived.Test.YtlimabbeaimdgaaGreatZ30Shared
import Derived.Test.YtlimabbeaimdgaaGreatTnGaShar
import Derived.Test.YtlimabbeaimdgaaGreatTnRnShar
import Derived.Laws.CopyRow
import Derived.Test.YtlimabbeaimdgaaGreatZ09Shared
import Derived.Test.YtlimabbeaimdgaaGreatZ05Shared
set_option linter.unusedSimpArgs false
set_option linter.unusedVariables false
set_option maxRecDepth 100000
set_option maxHeartbeats 16000000
namespace Go.Proofs.YtlimabbeaimdgaaGreat
open Go.RowKit
theorem l04Flat_any {sh : Nat → Nat × Nat} (pg pw : Option Addr) (n cg nw cw : Nat) (gcs : List (List Value)) (ops : List shOp.T) (ws : List Int) (w : World) (hG : Tens w pg n gcs (gradsT ops)) (hlen : ops.length = n) (hT : jcf sh ops) (h1 : 1 ≤ n) (hw : Cs w pw (ws.map (Value.int .i64))) (hwl : ws.length = nw) (hnw : nw ≤ 48) (hwb : ∀ z ∈ ws,0 ≤ z ∧ z < ops.length) :
 Calls Tryz.prog 80 #[.slice pg n cg,.slice pw nw cw] w (RetFl w (jbp ops ws)) := by
 have hps : pg.isSome = true := by have h := hG.cnt;exact hG.cs.some_of (s := 3) (i := 0) hG.size (by decide) (by omega)
 have HLen := hid hlen;have HWl := hid hwl
 have Hpre := hid (fun j => show (jbp ops (ws.take j)).length ≤ 256 * j by
  have h := flatW_len hT (by omega) (ws.take j) (fun z hz => hwb z (List.mem_of_mem_take hz));have h2 : (ws.take j).length ≤ j := List.length_take_le _ _;omega)
 have HT := hid hT;have HWb := hid hwb;have hstart : (w.alloc (.cells #[] 48)).ownsRow w.heap.size 48 1 (.slice (some ⟨w.heap.size,0,none⟩) 0 0) 0 [] := World.ownsRow_made w #[] 0 (Nat.le_refl _) (by decide) rfl;have e0 := Ext.alloc w (.cells #[] 48);have hp0 : jbp ops (ws.take 0) = [] := by simp [jbp]
 clear hlen hT hwb hwl;go_enter Tryz.func80,Tryz.ntmps80;go_wp2;go_loopw [5,6] (fun v iv wr => ∃ (j : Nat) (q : Option Addr) (k : Nat) (us : List Value),j ≤ nw ∧ iv = .int .i64 (j : Int) ∧ v = .slice q (jbp ops (ws.take j)).length k ∧ wr.ownsRow w.heap.size 48 1 (.slice q (jbp ops (ws.take j)).length k) (jbp ops (ws.take j)).length us ∧ Hid (F32s us (jbp ops (ws.take j))) ∧ Ext w wr) (fun _ iv _ => nw - (intOf iv).toNat)
 case atStart => exact ⟨0,_,_,[],by omega,rfl,by rw [hp0];rfl,by rw [hp0];exact hstart,by rw [Hid,hp0];exact F32s.nil,e0⟩
 case round =>
  clear hstart e0 hp0;obtain ⟨j,q,k,us,hj,rfl,rfl,own,HF,he⟩ := hrel
  by_cases hlt : j < nw
  · have hz := HWb.out (ws[j]'(by rw [HWl.out];exact hlt)) (List.getElem_mem _)
    obtain ⟨z,hze⟩ : ∃ z : Nat,(ws[j]'(by rw [HWl.out];exact hlt)) = (z : Int) := ⟨(ws[j]'(by rw [HWl.out];exact hlt)).toNat,by omega⟩;have hzn : z < n := by have := HLen.out;omega
    have htk : jbp ops (ws.take (j + 1)) = jbp ops (ws.take j) ++ ((gradsT ops).getD z t0).2.2.1 := by
     rw [List.take_add_one,List.getElem?_eq_getElem (by rw [HWl.out];exact hlt),Option.toList_some,flatW_snoc,hze,Int.toNat_natCast]
    have hGr := hG.ext he;obtain ⟨gc,hgc,tg⟩ := hGr.at' (sh := sh) (fun x hx => grads_shaped HT.out (by rw [HLen.out];exact h1) (by rw [HLen.out];exact hx)) hzn;obtain ⟨gq,gk,gus,gxs,rfl,gde,gl,g1,g2,g3,g4⟩ := tg;have hside := HT.out.side z (by rw [HLen.out];exact hzn);obtain ⟨N,hN⟩ : ∃ N,N = (sh z).1 * (sh z).2 := ⟨_,rfl⟩;have hN2 : N ≤ 256 := by rw [hN];exact Nat.mul_le_mul hside.2.1 hside.2.2.2
    rw [gde] at htk;simp only [tn] at htk;rw [← hN] at hgc gl g3;have hone := hid g2.one;have hcw := hw.ext he;have hcs := hGr.cs;have hsz := hGr.size;have hcnt := hGr.cnt;have hp1 : Hid ((jbp ops (ws.take j)).length ≤ 256 * j) := Hpre.out j;have HTk := hid htk;have Hgc := hid hgc;have hxe : (ws.getD j 0) = (z : Int) := by rw [List.getD_eq_getElem?_getD,List.getElem?_eq_getElem (by rw [HWl.out];exact hlt)];exact hze
    have Hxe := hid hxe;have hgl := gl;have hbs := he.size;generalize hfe : jbp ops (ws.take j) = fj at *;have Hfe := hid hfe;have hfl2 := hp1.out;clear htk hgc hxe hze hfe hN hp1;obtain ⟨fn,hfn⟩ : ∃ x,x = fj.length := ⟨_,rfl⟩;rw [← hfn] at own hfl2;rw [← hfn];have Hfn := hid hfn;clear hfn;go_wp2_with (first | ((with_reducible show gx2);refine wl_ldI rfl rfl rfl rfl (fun _ => rfl) rfl rfl hcw HWl.out (by omega) (by omega) ?_;rw [Int.toNat_natCast,Hxe.out]) | ((with_reducible show gx13);refine wl_ldField (s := 3) (f := 2) (off := 2) (j := z) rfl rfl rfl rfl rfl rfl (fun _ => rfl) (fun _ _ => rfl) jdp rfl rfl rfl hcs hsz hcnt hzn hps Hgc.out rfl ?_) | ((with_reducible show gx7);refine wl_appz rfl rfl rfl rfl own g1 (by rw [g2.1,hgl,Nat.mul_one]) g3 hone.out (by unfold maxLen;omega) (by omega) (by omega) ?_;intro v9 w9 own9 gr9));go_roundw
    case rel =>
     obtain ⟨q9,k9,rfl⟩ := jb1 own9;have hlen9 : (jbp ops (ws.take (j + 1))).length = fn + N := by rw [HTk.out,List.length_append,gl,Hfn.out]
     exact ⟨j + 1,q9,k9,_,by omega,by go_num,by rw [hlen9],by rw [hlen9];exact own9,by rw [Hid,HTk.out];exact HF.out.app g2,he.grown gr9 (fun x hx => jar own x hx)⟩
    case measure => simp [intOf];omega
  · obtain rfl : j = nw := by omega
    rw [show ws.take j = ws from List.take_of_length_le (by rw [HWl.out];exact Nat.le_refl _)] at own HF ⊢;go_wp2;go_ret;exact retFl_of rfl own HF.out rfl he
theorem l04Share_any {sp : Option Nat} (bt ot R C : Nat) (w : World) (t0 : w.cell? ⟨bt,ot,sp⟩ = some (.int .i64 (R : Int))) (t1 : w.cell? ⟨bt,ot + 1,none⟩ = some (.int .i64 (C : Int))) (h256 : R * C ≤ 256) :
 Calls Tryz.prog 54 #[.pointer (some ⟨bt,ot,sp⟩)] w (RF .f32 w (fop .quo .f32 jcs (cn .f32 (floatOfInt .f32 ((R * C : Nat) : Int))))) := by
 have q1 : IntKind.i64.wrap ((R : Int) * C) = ((R * C : Nat) : Int) := by rw [← Int.natCast_mul];exact ja7 _ (by omega) (by omega)
 generalize hA : R * C = A at *;have e1 := Ext.drew w;have d0 := e1.cell t0;have d1 := e1.cell t1;clear hA t0 t1;go_enter Tryz.func54,Tryz.ntmps54;go_wp2;refine jaf (F := fun _ _ _ => False) (by kernel_rfl) (by kernel_rfl) (by kernel_rfl) ?_;intro wf hwf
 repeat (first
  | ((first | (refine jat rfl ?_) | (refine x_mv rfl rfl rfl ?_) | (refine x_as rfl rfl rfl ?_) | (((with_reducible show gx17);refine x_pure (v := .float .f32 (floatOfInt .f32 (A : Int))) rfl (fun w1 hw1 => ?_) ?_;focus (go_simp;(try rw [q1])))) | ((with_reducible show gx1);refine x_fop rfl rfl rfl rfl rfl ?_;intro r3 g3;have G3 := hid g3;clear g3));simp only [Act.put,jab,pu1,pu2,pu3,pu4,pu5])
  | (refine ja3 rfl fun K hK w1 hw1 => ?_;have k0 := hw1.cell (d0);have k1 := hw1.cell (d1);go_simp;refine hK _ ?_;clear hK K k0 k1 hw1 w1))
 refine ja4 ?_;go_wp2;go_ret;exact ⟨r3,rfl,by rw [G3.out,cn_one1],e1.trans hwf⟩
def LsRet (w : World) (L : List jac.T) (r k : Int) (xs : List Nat) (r2 k2 : Int) (ys : List Nat) (z : Nat) (e : Ending) (w' : World) : Prop :=
 (jcq L r k xs.length r2 k2 ys.length = false ∧ ∃ u,e = .returned (.tuple #[u,.float .f32 0,.bool false])) ∨
 (jcq L r k xs.length r2 k2 ys.length = true ∧ ∃ (q : Option Addr) (c b : Nat) (us : List Value),e = .returned (.tuple #[.slice q (jbp (jcv L (r,k,xs,()) (r2,k2,ys,()) z) (wtsOf L r k xs r2 k2 ys)).length c,.float .f32 b,.bool true]) ∧ w'.ownsRow w.heap.size 48 1 (.slice q (jbp (jcv L (r,k,xs,()) (r2,k2,ys,()) z) (wtsOf L r k xs r2 k2 ys)).length c) (jbp (jcv L (r,k,xs,()) (r2,k2,ys,()) z) (wtsOf L r k xs r2 k2 ys)).length us ∧ F32s us (jbp (jcv L (r,k,xs,()) (r2,k2,ys,()) z) (wtsOf L r k xs r2 k2 ys)) ∧ cn .f32 b = lossT (jcv L (r,k,xs,()) (r2,k2,ys,()) z))
theorem l04Loss_any {sm sx sy : Option Nat} (bm om bx ox bz oz : Nat) (p q q2 : Option Addr) (n c nx cx ny cy : Nat) (r k r2 k2 : Int) (css : List (List Value)) (L : List jac.T) (xs ys : List Nat) (us vs : List Value) (z zb : Nat) (w : World) (m0 : w.cell? ⟨bm,om,sm⟩ = some (.slice p n c)) (x0 : w.cell? ⟨bx,ox,sx⟩ = some (.int .i64 r)) (x1 : w.cell? ⟨bx,ox + 1,none⟩ = some (.int .i64 k)) (x2 : w.cell? ⟨bx,ox + 2,none⟩ = some (.slice q nx cx)) (y0 : w.cell? ⟨bz,oz,sy⟩ = some (.int .i64 r2)) (y1 : w.cell? ⟨bz,oz + 1,none⟩ = some (.int .i64 k2)) (y2 : w.cell? ⟨bz,oz + 2,none⟩ = some (.slice q2 ny cy)) (hL : Lays w p n css L) (hnx : nx ≤ maxLen) (hny : ny ≤ maxLen) (hxl : xs.length = nx) (hyl : ys.length = ny) (hcx : nx ≤ cx) (hcy : ny ≤ cy) (hqx : Cs w q us) (hfx : F32s us xs) (hqy : Cs w q2 vs) (hfy : F32s vs ys) (hz : cn .f32 zb = z) :
 Calls Tryz.prog 53 #[.pointer (some ⟨bm,om,sm⟩),.pointer (some ⟨bx,ox,sx⟩),.pointer (some ⟨bz,oz,sy⟩),.float .f32 zb] w fun e w' => LsRet w L r k xs r2 k2 ys z e w' ∧ Ext w w' := by
 have K := hid (l04Model_any bm om bx ox bz oz p q q2 n c nx cx ny cy r k r2 k2 css L xs ys us vs z zb w m0 x0 x1 x2 y0 y1 y2 hL hnx hny hxl hyl hcx hcy hqx hfx hqy hfy hz);clear m0 x0 x1 x2 y0 y1 y2 hL hqx hfx hqy hfy hz hxl hyl;go_enter Tryz.func53,Tryz.ntmps53;go_wp2_with fail;refine K.out.mono ?_;rintro e w1 ⟨⟨hg,u,v,rfl⟩ | ⟨hg,q5,q6,c5,c6,cs5,rfl,hO,hW⟩,e1⟩
 · have HG := hid hg
   clear hg;go_wp2;refine bodyPost_ret (results_tmp3 (t := 8) (u := 9) (v := 10) (by kernel_rfl) _ _ _) rfl ?_;exact ⟨Or.inl ⟨HG.out,_,rfl⟩,e1.trans (Ext.alloc _ _)⟩
 · obtain ⟨sh,t1,t2,t3,t4⟩ := mtapeZ_ok hg z
   have HG := hid hg;obtain ⟨ops,hops⟩ : ∃ x,jcv L (r,k,xs,()) (r2,k2,ys,()) z = x := ⟨_,rfl⟩;obtain ⟨ws,hws⟩ : ∃ x,wtsOf L r k xs r2 k2 ys = x := ⟨_,rfl⟩;rw [hops] at t1 t2 hO t4 ⊢;rw [hws] at t3 hW t4 ⊢;have Hops := hid hops;have Hws := hid hws;clear hops hws hg;obtain ⟨no,hno⟩ : ∃ x,ops.length = x := ⟨_,rfl⟩;obtain ⟨nw,hnw⟩ : ∃ x,ws.length = x := ⟨_,rfl⟩;rw [hno] at hO t2 ⊢;rw [hnw] at t3 ⊢;have KR := hid (l04Run_any q5 no c5 cs5 ops w1 hO t1 t2);have Hno := hid hno;have Hnw := hid hnw;have HO := hid hO;have HW := hid hW;have HT := hid t1;have H4 := hid t4;clear hno hnw hO hW t1 t4;go_wp2_with fail;refine KR.out.mono ?_;rintro e w2 ⟨u2,rfl,hIs,e2⟩
   obtain ⟨q7,k7,vcs,rfl,hT7,hk1,hk2⟩ := hIs.tens;rw [valsT_len] at hT7 ⊢;have HT7 := hid hT7;clear hT7 hIs;go_wp2_with fail;have eD := Ext.drew w2;have hn48 : no ≤ 48 := by rw [← Hno.out];exact HT.out.len
   obtain ⟨M,hM⟩ : ∃ M : Nat,(no : Int) - 1 = (M : Int) := ⟨no - 1,by omega⟩;have hMn : M < no := by omega
   have hqs : q7.isSome = true := HT7.out.cs.some_of (s := 3) (i := 0) HT7.out.size (by decide) (by have := HT7.out.cnt;omega);have hwM : IntKind.i64.wrap ((no : Int) - 1) = (M : Int) := by rw [hM];exact ja7 _ (by omega) (by omega)
   obtain ⟨cv,hcv,hvv⟩ := HT7.out.at' (sh := sh) (fun j hj => by have := jcx HT.out no (by rw [Hno.out];exact Nat.le_refl _) j hj;exact this) hMn;obtain ⟨qv,kv,uv,xv,rfl,dv,lv,v1,v2,v3,v4⟩ := hvv;have hside := HT.out.side M (by rw [Hno.out];exact hMn);have hN1 : 1 ≤ (sh M).1 * (sh M).2 := Nat.mul_le_mul hside.1 hside.2.2.1;obtain ⟨rb,hr1,hr2⟩ := v2.2 0 (by omega);have hqv : qv.isSome = true := v1.isS (by intro h;rw [h] at hr1;simp at hr1);have hcellv := (v1.ext eD).cell 0 _ hr1;have Hrb := hid hr2;have HM := hid hM;have Hcv := hid hcv;have hT7D := HT7.out.ext eD;refine jau (n := 16) (S := fun W => Ext w2.drew W) (by kernel_rfl) rfl ?_;have hS0 : Ext w2.drew w2.drew := Ext.refl _;refine jad (k := 0) (.slice q5 no c5) (by kernel_rfl) rfl rfl (fun _ _ _ h => h) hS0 (fun W hW => by go_simp) ?_
   (try simp only [pv1,pv2,pv3])
   simp only [Act.put,jab,pu1,pu2,pu3,pu4,pu5];refine jad (k := 1) (.slice q7 no k7) (by kernel_rfl) rfl rfl (fun _ _ _ h => h) hS0 (fun W hW => by go_simp) ?_
   (try simp only [pv1,pv2,pv3])
   simp only [Act.put,jab,pu1,pu2,pu3,pu4,pu5];refine jad (k := 3) (.slice q6 nw c6) (by kernel_rfl) rfl rfl (fun _ _ _ h => h) hS0 (fun W hW => by go_simp) ?_
   (try simp only [pv1,pv2,pv3])
   simp only [Act.put,jab,pu1,pu2,pu3,pu4,pu5];refine jad (k := 5) (.slice q7 no k7) (by kernel_rfl) rfl rfl (fun _ _ _ h => h) hS0 (fun W hW => by go_simp) ?_
   (try simp only [pv1,pv2,pv3])
   simp only [Act.put,jab,pu1,pu2,pu3,pu4,pu5];refine jad (k := 6) (.slice q7 no k7) (by kernel_rfl) rfl rfl (fun _ _ _ h => h) hS0 (fun W hW => by go_simp) ?_
   (try simp only [pv1,pv2,pv3])
   simp only [Act.put,jab,pu1,pu2,pu3,pu4,pu5];refine jad (k := 7) (.int .i64 (no : Int)) (by kernel_rfl) rfl rfl (fun _ _ _ h => h) hS0 (fun W hW => by go_simp) ?_
   (try simp only [pv1,pv2,pv3])
   simp only [Act.put,jab,pu1,pu2,pu3,pu4,pu5];refine jad (k := 8) (.int .i64 (M : Int)) (by kernel_rfl) rfl rfl (fun _ _ _ h => h) hS0 (fun W hW => by have h1 := hwM;have h2 := HM.out;go_simp;exact ja7 _ (by omega) (by omega)) ?_
   (try simp only [pv1,pv2,pv3])
   simp only [Act.put,jab,pu1,pu2,pu3,pu4,pu5];refine jbs (k := 9) (p := q7) (m := no) (c := k7) (kk := .i64) (j := M) (i := (M : Int)) (by kernel_rfl) rfl rfl (fun _ _ _ h => h) hS0 rfl (by simp [Act.eval]) (by simp [Act.eval]) rfl hqs hMn ?_
   (try simp only [pv1,pv2,pv3])
   simp only [Act.put,jab,pu1,pu2,pu3,pu4,pu5];refine hs_fa (k := 10) (p := q7) (i := M * jaa.sz) (off := 2) (by kernel_rfl) rfl rfl (fun _ _ _ h => h) hS0 rfl (by simp [Act.eval]) jdp ?_
   (try simp only [pv1,pv2,pv3])
   simp only [Act.put,jab,pu1,pu2,pu3,pu4,pu5];refine hs_ld1 (k := 11) (q := adr q7 (M * jaa.sz + 2)) (u := .slice qv ((sh M).1 * (sh M).2) kv) (by kernel_rfl) rfl rfl (fun _ _ _ h => h) hS0 rfl (by simp [Act.eval]) (fun W hW => by exact (hT7D.ext hW).cell Hcv.out rfl) ?_
   (try simp only [pv1,pv2,pv3])
   simp only [Act.put,jab,pu1,pu2,pu3,pu4,pu5];refine jbs (k := 12) (p := qv) (m := (sh M).1 * (sh M).2) (c := kv) (kk := .i64) (j := 0) (i := (0 : Int)) (by kernel_rfl) rfl rfl (fun _ _ _ h => h) hS0 rfl (by simp [Act.eval]) (by simp [Act.eval]) rfl hqv (by omega) ?_
   (try simp only [pv1,pv2,pv3])
   simp only [Act.put,jab,pu1,pu2,pu3,pu4,pu5];refine hs_ld1 (k := 13) (q := adr qv 0) (u := .float .f32 rb) (by kernel_rfl) rfl rfl (fun _ _ _ h => h) hS0 rfl (by simp [Act.eval]) (fun W hW => by exact hW.cell hcellv) ?_
   (try simp only [pv1,pv2,pv3])
   simp only [Act.put,jab,pu1,pu2,pu3,pu4,pu5];refine jas (k := 2) (by kernel_rfl) ?_;refine ja0 (f := 81) (args := #[.slice q5 no c5,.slice q7 no k7]) rfl rfl rfl Tryz.func81 rfl (by kernel_rfl) (by simp [Act.eval]) (l04Gradients_any q5 q7 no c5 k7 cs5 vcs ops w2.drew (HO.out.ext (e2.trans eD)) hT7D HT.out t2) ?_;rintro e W3 ⟨g,cc,gcs,rfl,hGT,e3⟩
   refine ⟨_,rfl,e3,?_⟩
   (try simp only [pv1,pv2,pv3])
   simp only [Act.put,jab,pu1,pu2,pu3,pu4,pu5];refine jas (k := 4) (by kernel_rfl) ?_;refine ja0 (f := 80) (args := #[.slice g no cc,.slice q6 nw c6]) rfl rfl rfl Tryz.func80 rfl (by kernel_rfl) (by simp [Act.eval]) (l04Flat_any g q6 no cc nw c6 gcs ops ws W3 hGT Hno.out HT.out t2 (HW.out.ext ((e2.trans eD).trans e3)) Hnw.out t3 H4.out) ?_;rintro e W4 ⟨q9,c9,vs9,rfl,own9,f9,e4⟩
   have hS4 := e3.trans e4;refine ⟨_,rfl,hS4,?_⟩
   (try simp only [pv1,pv2,pv3])
   simp only [Act.put,jab,pu1,pu2,pu3,pu4,pu5];refine jad (k := 14) (.slice q9 (jbp ops ws).length c9) (by kernel_rfl) rfl rfl (fun _ _ _ h => h) hS4 (fun W hW => by go_simp) ?_
   (try simp only [pv1,pv2,pv3])
   simp only [Act.put,jab,pu1,pu2,pu3,pu4,pu5];refine jad (k := 15) (.float .f32 rb) (by kernel_rfl) rfl rfl (fun _ _ _ h => h) hS4 (fun W hW => by go_simp) ?_
   (try simp only [pv1,pv2,pv3])
   simp only [Act.put,jab,pu1,pu2,pu3,pu4,pu5];refine jbe (k := 16) (by kernel_rfl) rfl ?_;go_wp2;refine bodyPost_ret (results_tmp3 (t := 8) (u := 9) (v := 10) (by kernel_rfl) _ _ _) rfl ?_;have hE := (e1.trans e2).trans (eD.trans hS4);have hsz := ((e1.trans e2).trans (eD.trans e3)).size;refine ⟨Or.inr ⟨HG.out,q9,c9,rb,vs9,?_,?_,?_,?_⟩,hE⟩
   · rw [Hops.out,Hws.out];first | rfl | (congr 2;done) | simp
   · rw [Hops.out,Hws.out];exact jao own9 hsz
   · rw [Hops.out,Hws.out];exact f9
   · rw [Hops.out]
     have hL1 : no - 1 = M := by have := HM.out;omega
     unfold lossT;rw [Hno.out,hL1,← valsT_at ops (show M < no from hMn),dv];exact Hrb.out
theorem chg_row (w : World) (g : Nat) (cs : Array Value) : Chg (fun k => k = g) w (w.setRow g cs) := ⟨rfl,rfl,rfl,by simp,fun k _ hn => setRow_other w g k cs hn⟩
section
variable {P : Program} {w : World} {ops : Array Oper} {rest : List Oper} {o : Oper} {a : Act} {Q : Exit → Act → World → Prop}
theorem wl_stHBs {t : TypeId} {s : Sh} [T : ElTy P t s] {x y : Operand} (hgd : o.guard = none) (ho : o.op = .store t x y) {g j : Nat} {Z : Array Value} {e : TypeId} {cs : List Value} (hx : a.eval x = .pointer (some ⟨g,j,none⟩)) (hy : a.eval y = ofCs s cs) (hg : HB w g Z e) (hl : cs.length = s.sz) (h1 : ∀ u ∈ cs,u.oneCell' = true) (hj : j + s.sz ≤ Z.size)
 {Z' : Array Value} (hZ : (Z.toList.take j ++ cs ++ Z.toList.drop (j + cs.length)).toArray = Z')
 (h : ∀ w',HB w' g Z' e → Chg (fun b => b = g) w w' → wpList P ops Q rest (a.put o.dst undef) w') : wpList P ops Q (o :: rest) a w := by
 have h2 := run_storeCells_at P g j e cs 0 Z w hg (by rw [Nat.add_zero,hl];exact hj) h1;rw [Nat.add_zero,hZ] at h2;obtain ⟨i,hi,hz⟩ := Option.map_eq_some_iff.1 T.inf;have hcells := ofCs_cells hl h1;refine ja9 hgd (w' := w.setRow g Z') ?_ (h _ (setRow_heap w g Z Z' e (0,0) hg) (chg_row w g Z'));simp [execOp,ho,hx,hy,Instr.storeAt,Instr.sureAddr,storeVar,sizeOf,typeInfo,hi,hz,hcells,hl,h2]
end
end Go.Proofs.YtlimabbeaimdgaaGreat
