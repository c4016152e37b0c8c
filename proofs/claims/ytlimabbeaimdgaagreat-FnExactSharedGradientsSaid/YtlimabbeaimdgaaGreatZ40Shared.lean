/- A part of the proofs: TnWk, TnSr, TnSl, FldW. -/
import Derived.Test.YtlimabbeaimdgaaGreatTnWiShar
import Derived.Test.YtlimabbeaimdgaaGreatZ32Shared
import Derived.Test.YtlimabbeaimdgaaGreatZ33Shared
import Derived.Test.YtlimabbeaimdgaaGreatZ08Shared
import Derived.Test.YtlimabbeaimdgaaGreatZ22Shared
import Derived.Test.YtlimabbeaimdgaaGreatZ04Shared
set_option linter.unusedSimpArgs false
set_option linter.unusedVariables false
set_option maxRecDepth 100000
set_option maxHeartbeats 16000000
namespace Go.Proofs.YtlimabbeaimdgaaGreat
open Go.RowKit
def WgAny (w : World) (L : List jac.T) (r k : Int) (xs : List Nat) (r2 k2 : Int) (ys : List Nat) (wk : Int) (e : Ending) (w' : World) : Prop :=
 (wgB L r k xs.length r2 k2 ys.length wk = false ∧ ∃ u v,e = .returned (.tuple #[u,v,.bool false])) ∨
 (wgB L r k xs.length r2 k2 ys.length wk = true ∧ ∃ v css bss q c vs,e = .returned (.tuple #[v,.slice q wk.toNat c,.bool true]) ∧ WgOwn w' w.heap.size (jb4 L k.toNat xs k2.toNat ys r.toNat wk.toNat wk.toNat) (jbz L k.toNat xs k2.toNat ys r.toNat wk.toNat wk.toNat) v q wk.toNat c css bss vs)
theorem l10Gradients_any {sm sx sy : Option Nat} (bm om bx ox bz oz : Nat) (p q q2 : Option Addr) (n c nx cx ny cy : Nat) (r k r2 k2 wk : Int) (css : List (List Value)) (L : List jac.T) (xs ys : List Nat) (us vs : List Value) (w : World) (m0 : w.cell? ⟨bm,om,sm⟩ = some (.slice p n c)) (x0 : w.cell? ⟨bx,ox,sx⟩ = some (.int .i64 r)) (x1 : w.cell? ⟨bx,ox + 1,none⟩ = some (.int .i64 k)) (x2 : w.cell? ⟨bx,ox + 2,none⟩ = some (.slice q nx cx)) (y0 : w.cell? ⟨bz,oz,sy⟩ = some (.int .i64 r2)) (y1 : w.cell? ⟨bz,oz + 1,none⟩ = some (.int .i64 k2)) (y2 : w.cell? ⟨bz,oz + 2,none⟩ = some (.slice q2 ny cy)) (hL : Lays w p n css L) (hxl : xs.length = nx) (hyl : ys.length = ny) (hnx : nx ≤ maxLen) (hny : ny ≤ maxLen) (hcx : nx ≤ cx) (hcy : ny ≤ cy) (hqx : Cs w q us) (hfx : F32s us xs) (hqy : Cs w q2 vs) (hfy : F32s vs ys) :
 Calls Tryz.prog 32 #[.pointer (some ⟨bm,om,sm⟩),.pointer (some ⟨bx,ox,sx⟩),.pointer (some ⟨bz,oz,sy⟩),.int .i64 wk] w fun e w' => WgAny w L r k xs r2 k2 ys wk e w' ∧ Ext w w' := by
 cases hno : (tenB r k nx && (tenB r2 k2 ny && (decide (r = r2) && (inB r 1 16 && inB wk 1 (min r 8))))) with
 | false =>
   refine (l10Gradients_no bm om bx ox bz oz p q q2 n c nx cx ny cy r k r2 k2 wk w x0 x1 x2 y0 y1 y2 hnx hny hno).mono ?_;rintro e w' ⟨h,e1⟩
   refine ⟨Or.inl ⟨?_,h⟩,e1⟩
   cases hw : wgB L r k xs.length r2 k2 ys.length wk with
   | false => rfl
   | true =>
     exfalso
     unfold wgB at hw;rw [Bool.and_eq_true] at hw;obtain ⟨h1,h2,h3,_⟩ := gradB_ten hw.1;rw [hxl] at h1;rw [hyl] at h2;have h4 : (inB r 1 16 && inB wk 1 (min r 8)) = true := hw.2;rw [h1,h2,h4,decide_eq_true h3] at hno
     cases hno
 | true =>
   simp only [Bool.and_eq_true,decide_eq_true_eq] at hno;obtain ⟨h1,h2,rfl,h4,h5⟩ := hno;have g1 := h1;have g2 := h2;unfold tenB at g1 g2;simp only [Bool.and_eq_true,decide_eq_true_eq,jbc] at g1 g2;have h4' := jbc.1 h4;have h5' := jbc.1 h5;obtain ⟨⟨a1,a2⟩,a3⟩ := g1;obtain ⟨⟨b1,b2⟩,b3⟩ := g2;obtain ⟨R,rfl⟩ : ∃ R : Nat,r = (R : Int) := ⟨r.toNat,by omega⟩;obtain ⟨K,rfl⟩ : ∃ K : Nat,k = (K : Int) := ⟨k.toNat,by omega⟩;obtain ⟨K2,rfl⟩ : ∃ K2 : Nat,k2 = (K2 : Int) := ⟨k2.toNat,by omega⟩;obtain ⟨nk,rfl⟩ : ∃ nk : Nat,wk = (nk : Int) := ⟨wk.toNat,by omega⟩;have e3 : nx = R * K := by exact_mod_cast a3
   have e4 : ny = R * K2 := by exact_mod_cast b3
   have hwk : wkB (R : Int) (nk : Int) = true := by unfold wkB;rw [h4,h5];rfl
   refine (l10Gradients_yes bm om bx ox bz oz p q q2 n c nx cx ny cy R K K2 nk css L xs ys us vs w m0 x0 x1 x2 y0 y1 y2 hL h1 h2 hxl hyl e3 e4 hcx hcy hqx hfx hqy hfy (by omega) (by omega) (by omega) (by omega) (by omega) (by omega)).mono ?_;rintro e w' ⟨⟨hg,h⟩ | ⟨hg,v,css',bss,q',c',vs',rfl,h⟩,e1⟩
   · exact ⟨Or.inl ⟨by unfold wgB;rw [hxl,hyl,hg];rfl,h⟩,e1⟩
   · refine ⟨Or.inr ⟨by unfold wgB;rw [hxl,hyl,hg,hwk];rfl,v,css',bss,q',c',vs',?_,?_⟩,e1⟩
     · simp only [Int.toNat_natCast]
     · simp only [Int.toNat_natCast];exact h
theorem l10Shared_any {sm sx sy : Option Nat} (bm om bx ox bz oz : Nat) (p q q2 : Option Addr) (n c nx cx ny cy : Nat) (r k r2 k2 wk kd : Int) (css : List (List Value)) (L : List jac.T) (xs ys : List Nat) (us vs : List Value) (w : World) (m0 : w.cell? ⟨bm,om,sm⟩ = some (.slice p n c)) (x0 : w.cell? ⟨bx,ox,sx⟩ = some (.int .i64 r)) (x1 : w.cell? ⟨bx,ox + 1,none⟩ = some (.int .i64 k)) (x2 : w.cell? ⟨bx,ox + 2,none⟩ = some (.slice q nx cx)) (y0 : w.cell? ⟨bz,oz,sy⟩ = some (.int .i64 r2)) (y1 : w.cell? ⟨bz,oz + 1,none⟩ = some (.int .i64 k2)) (y2 : w.cell? ⟨bz,oz + 2,none⟩ = some (.slice q2 ny cy)) (hL : Lays w p n css L) (hxl : xs.length = nx) (hyl : ys.length = ny) (hnx : nx ≤ maxLen) (hny : ny ≤ maxLen) (hcx : nx ≤ cx) (hcy : ny ≤ cy) (hqx : Cs w q us) (hfx : F32s us xs) (hqy : Cs w q2 vs) (hfy : F32s vs ys) :
 Calls Tryz.prog 41 #[.pointer (some ⟨bm,om,sm⟩),.pointer (some ⟨bx,ox,sx⟩),.pointer (some ⟨bz,oz,sy⟩),.int .i64 wk,.int .i64 kd] w fun e w' => SgAny w L r k xs r2 k2 ys wk kd e w' ∧ Ext w w' := by
 have K := hid (l10Gradients_any (sm := sm) (sx := sx) (sy := sy) bm om bx ox bz oz p q q2 n c nx cx ny cy r k r2 k2 wk css L xs ys us vs w m0 x0 x1 x2 y0 y1 y2 hL hxl hyl hnx hny hcx hcy hqx hfx hqy hfy);have A := hid (fun W => lReduceLists.l10Kind_any kd W);clear m0 x0 x1 x2 y0 y1 y2 hL hxl hyl hqx hfx hqy hfy
 cases hkk : inB kd 0 2
 · have HK := hid hkk
   rw [hkk] at A;clear hkk K;go_enter Tryz.func41,Tryz.ntmps41;go_wp2_with fail;refine (A.out _).mono ?_;rintro e w3 ⟨rfl,rfl⟩
   go_wp2;refine bodyPost_ret (results_tmp3 (t := 10) (u := 11) (v := 12) (by kernel_rfl) _ _ _) rfl ?_;exact ⟨Or.inl ⟨by unfold sgB;rw [HK.out,Bool.and_false],_,_,rfl⟩,Ext.alloc _ _⟩
 rw [hkk] at A;go_enter Tryz.func41,Tryz.ntmps41;go_wp2_with fail;refine (A.out _).mono ?_;rintro e w3 ⟨rfl,rfl⟩
 go_wp2_with fail;refine K.out.mono ?_;rintro e w2 ⟨⟨hg,u8,v8,rfl⟩ | ⟨hg,v,css',bss',ql,cl,vs9,rfl,hW⟩,e1⟩
 · have HG := hid hg
   clear hg K hkk;go_wp2;refine bodyPost_ret (results_tmp3 (t := 10) (u := 11) (v := 12) (by kernel_rfl) _ _ _) rfl ?_;exact ⟨Or.inl ⟨by unfold sgB;rw [HG.out];rfl,_,_,rfl⟩,e1.trans (Ext.alloc _ _)⟩
 clear K A;obtain ⟨hgr,_,hr2,R,K,K2,nk,hR,hK,hK2,hnk,m1,m2,_,_,_,_,_,hk1,hk8,hkR⟩ := wgB_nat hg;have hwk : wk.toNat = nk := by omega
 have hrn : r.toNat = R := by omega
 have hkn : k.toNat = K := by omega
 have hk2n : k2.toNat = K2 := by omega
 have HEv : Hid (EvenL (jb4 L k.toNat xs k2.toNat ys r.toNat nk nk) (parF L).length) := hid (by rw [hrn,hkn,hk2n];exact wgLists_even (by rw [hr2,hR,hK,hK2] at hgr;exact hgr) m1 m2 hk1 hkR);have hNP : (parF L).length ≤ 1048576 := Nat.le_trans (parF_gr hgr) (by decide);have HWK := hid hwk;rw [hwk] at hW ⊢;obtain ⟨pv,cv,uv,rfl,FLs,hcv⟩ := grow_fls hW.ls;rw [wgLists_len] at FLs hcv ⊢;have hLO := jbr hW.fs;have hLF := hW.fl;obtain ⟨Ls,hLs⟩ : ∃ x,jb4 L k.toNat xs k2.toNat ys r.toNat nk nk = x := ⟨_,rfl⟩;obtain ⟨lo,hlo⟩ : ∃ x,jbz L k.toNat xs k2.toNat ys r.toNat nk nk = x := ⟨_,rfl⟩;have hlol : lo.length = nk := by rw [← hlo,wgLosses_len]
 rw [hLs] at FLs HEv;rw [hlo] at hLF;have HLs := hid hLs;have Hlo := hid hlo;have HLN := hid hlol;have HLT := hid (fun i (hi : i ≤ nk) => show (onesL (lo.take i)).length = i by unfold onesL;rw [List.length_map,List.length_take];omega);have HTK := hid (fun i (hi : i < nk) => onesL_take (lo := lo) (i := i) (by omega));have HTN := hid (show onesL (lo.take nk) = onesL lo by rw [List.take_of_length_le (by omega)]);have HEo := hid (onesL_even lo);have HGG := hid hg;obtain ⟨NP,hNPe⟩ : ∃ NP,(parF L).length = NP := ⟨_,rfl⟩;rw [hNPe] at HEv hNP;have HNP := hid hNPe;clear hgr hr2 hR hK hK2 m1 m2 hwk hrn hkn hk2n hLs hlo hlol hNPe hW hg hnk;go_wp2;obtain ⟨W3,hW3⟩ : ∃ W3,W3 = w2.alloc (.cells #[] 25) := ⟨_,rfl⟩;have E3 : Ext w2 W3 := by rw [hW3];exact Ext.alloc _ _
 have O3 : W3.ownsRow w2.heap.size 25 1 (.slice (some ⟨w2.heap.size,0,none⟩) 0 0) 0 [] := by rw [hW3];exact World.ownsRow_made w2 #[] 0 (Nat.le_refl _) (by decide) rfl
 rw [← hW3];clear hW3;go_loopw [16,17] (fun ov iv wr => ∃ (i : Nat) (css : List (List Value)) (bss : List (List Nat)),i ≤ nk ∧ iv = .int .i64 (i : Int) ∧ jax wr w2.heap.size 25 (.sl .flt) ov (onesL (lo.take i)) css bss ∧ Ext w2 wr) (fun _ iv _ => nk - (intOf iv).toNat)
 case atStart => exact ⟨0,[],[],by omega,rfl,jax.empty O3,E3⟩
 case round =>
  clear O3 E3;obtain ⟨i,css1,bss1,hi,rfl,hG,he⟩ := hrel
  by_cases hlt : i < nk
  · have hcs := hLO.ext he
    have Hln := hid (HLT.out i hi);have Hon := hid (HTK.out i hlt);have hrow := hG.row;rw [Hln.out] at hrow;have hsz := he.size;go_wp2_with (first | ((with_reducible show gx2);refine jc1 rfl rfl rfl rfl (fun _ => rfl) rfl rfl hcs hLF HLN.out (by omega) (by omega) ?_;intro r0 g0;rw [Int.toNat_natCast] at g0;have G0 := hid g0;clear g0) | ((with_reducible show gx10);refine jav (u := .slice (some ⟨wr.heap.size,0,none⟩) 1 1) rfl rfl rfl rfl rfl (by rfl) (by rfl) (fun _ => rfl) (fun _ => rfl) (jai hrow (Ext.alloc _ _)) (by unfold maxLen;omega) (by omega) (by simp;omega) ?_;intro g6 c6 w6 h6 gr6 hw6) | fail);go_roundw
    case rel =>
     have I := hG.snoc (Ext.alloc wr _) (own_flt1 r0 G0.out) (by simp) (by simp) he.size Hln.out h6 gr6 hw6;rw [← Hon.out] at I;exact ⟨i + 1,_,_,by omega,by go_num,I,(he.trans (Ext.alloc wr _)).grown gr6 (jar hrow)⟩
    case measure => simp [intOf];omega
  · obtain rfl : i = nk := by omega
    obtain ⟨po,co,uo,rfl,FLo,hco⟩ := grow_fls hG;have hlo2 := HLT.out i (Nat.le_refl _);rw [hlo2] at FLo hco ⊢;rw [HTN.out] at FLo;have eD := Ext.drew wr;have C1 := hid (fun W (h : Ext wr W) => lReduceLists.l10Reduce_any kd pv i cv NP uv Ls W hkk (FLs.ext (he.trans h)) hk1 hk8 hcv HEv.out hNP);have C2 := hid (fun W (h : Ext wr W) => lReduceLists.l10Reduce_any kd po i co 1 uo (onesL lo) W hkk (FLo.ext h) hk1 hk8 hco HEo.out (by decide));obtain ⟨RL,hRL⟩ : ∃ x,redF kd Ls = x := ⟨_,rfl⟩;obtain ⟨RO,hRO⟩ : ∃ x,redF kd (onesL lo) = x := ⟨_,rfl⟩;rw [hRL] at C1;rw [hRO] at C2;have HRL := hid hRL;have HRO := hid hRO;have HN1 := hid (show RL.length = NP by rw [← hRL];exact HEv.out.red (by rw [FLs.len];exact hk1) kd);have HN2 := hid (show RO.length = 1 by rw [← hRO];exact HEo.out.red (by rw [FLo.len];exact hk1) kd);clear hRL hRO hG hlo2 FLo FLs;go_wp2;refine jau (n := 10) (S := fun W => Ext wr.drew W) (by kernel_rfl) rfl ?_;have hS0 : Ext wr.drew wr.drew := Ext.refl _;refine jad (k := 0) (.int .i64 kd) (by kernel_rfl) rfl rfl (fun _ _ _ h => h) hS0 (fun W hW => by go_simp) ?_;simp only [Act.put,jab,pu1,pu2,pu3,pu4,pu5];refine jad (k := 1) (.slice pv i cv) (by kernel_rfl) rfl rfl (fun _ _ _ h => h) hS0 (fun W hW => by go_simp) ?_;simp only [Act.put,jab,pu1,pu2,pu3,pu4,pu5];refine jad (k := 3) (.int .i64 kd) (by kernel_rfl) rfl rfl (fun _ _ _ h => h) hS0 (fun W hW => by go_simp) ?_;simp only [Act.put,jab,pu1,pu2,pu3,pu4,pu5];refine jad (k := 4) (.slice po i co) (by kernel_rfl) rfl rfl (fun _ _ _ h => h) hS0 (fun W hW => by go_simp) ?_;simp only [Act.put,jab,pu1,pu2,pu3,pu4,pu5];refine jas (k := 2) (by kernel_rfl) ?_;refine ja0 (f := 70) (args := #[.int .i64 kd,.slice pv i cv]) rfl rfl rfl Tryz.func70 rfl (by kernel_rfl) (by simp [Act.eval]) (C1.out wr.drew eD) ?_;rintro e W4 ⟨q5,c5,vs5,rfl,o5,f5,e4⟩
    rw [HN1.out] at o5 ⊢;refine ⟨_,rfl,e4,?_⟩;simp only [Act.put,jab,pu1,pu2,pu3,pu4,pu5];refine jas (k := 5) (by kernel_rfl) ?_;refine ja0 (f := 70) (args := #[.int .i64 kd,.slice po i co]) rfl rfl rfl Tryz.func70 rfl (by kernel_rfl) (by simp [Act.eval]) (C2.out W4 (eD.trans e4)) ?_;rintro e W5 ⟨q6,c6,vs6,rfl,o6,f6,e5⟩
    rw [HN2.out] at o6 ⊢;have hS5 : Ext wr.drew W5 := e4.trans e5;refine ⟨_,rfl,hS5,?_⟩;simp only [Act.put,jab,pu1,pu2,pu3,pu4,pu5];refine jad (k := 8) (.slice q5 NP c5) (by kernel_rfl) rfl rfl (fun _ _ _ h => h) hS5 (fun W hW => by go_simp) ?_;simp only [Act.put,jab,pu1,pu2,pu3,pu4,pu5];obtain ⟨rb,hr1,hr2⟩ := f6.2 0 (by rw [HN2.out];decide);have cs6 := jbr o6;have hq6 : q6.isSome = true := cs6.isS (by intro h;rw [h] at hr1;simp at hr1);have hcell := cs6.cell 0 _ hr1;have Hr2 := hid hr2;clear hr2;refine jas (k := 6) (by kernel_rfl) ?_;refine jb3 (v := .pointer (some (adr q6 0))) (w' := W5) rfl rfl (by simp [execOp,Act.eval,run_indexAt (P := Tryz.prog) (t := 25) (s := 1) hq6 (show (0 : Int) ≤ 0 by decide) (show (0 : Int) < ((1 : Nat) : Int) by decide)]) ?_;refine ⟨hS5,?_⟩;simp only [Act.put,jab,pu1,pu2,pu3,pu4,pu5];refine jas (k := 7) (by kernel_rfl) ?_;refine jb3 (v := .float .f32 rb) (w' := W5) rfl rfl (by simp [execOp,Act.eval,jc5 hcell]) ?_;refine ⟨hS5,?_⟩;simp only [Act.put,jab,pu1,pu2,pu3,pu4,pu5];refine jas (k := 9) (by kernel_rfl) ?_;refine jb3 (v := .float .f32 rb) (w' := W5) rfl rfl (by go_simp) ?_;refine ⟨hS5,?_⟩;simp only [Act.put,jab,pu1,pu2,pu3,pu4,pu5];refine jbe (k := 10) (by kernel_rfl) rfl ?_;go_wp2;refine bodyPost_ret (results_tmp3 (t := 10) (u := 11) (v := 12) (by kernel_rfl) _ _ _) rfl ?_;refine ⟨Or.inr ⟨?_,q5,c5,rb,vs5,?_,?_,?_,?_,?_⟩,(e1.trans he).trans (eD.trans hS5)⟩
    · unfold sgB;rw [HGG.out,hkk];rfl
    · rw [HNP.out];rfl
    · unfold sgList;rw [HWK.out,HLs.out,HRL.out,HN1.out,HNP.out]
    · rw [HNP.out];exact jao (jai o5 e5) ((e1.trans he).trans eD).size
    · unfold sgList;rw [HWK.out,HLs.out,HRL.out];exact f5
    · unfold sgLoss;rw [HWK.out,Hlo.out,HRO.out];exact Hr2.out
theorem specSharedGradients_any (p q q2 : Option Addr) (n c nx cx ny cy : Nat) (r k r2 k2 wk kd : Int) (css : List (List Value)) (L : List jac.T) (xs ys : List Nat) (us vs : List Value) (w : World) (hL : Lays w p n css L) (hxl : xs.length = nx) (hyl : ys.length = ny) (hnx : nx ≤ maxLen) (hny : ny ≤ maxLen) (hcx : nx ≤ cx) (hcy : ny ≤ cy) (hqx : Cs w q us) (hfx : F32s us xs) (hqy : Cs w q2 vs) (hfy : F32s vs ys) :
 Calls Tryz.prog 22 #[.agg #[.slice p n c],.agg #[.int .i64 r,.int .i64 k,.slice q nx cx],.agg #[.int .i64 r2,.int .i64 k2,.slice q2 ny cy],.int .i64 wk,.int .i64 kd] w fun e w' => SgRet w L r k xs r2 k2 ys wk kd e w' ∧ Ext w w' := by
 obtain ⟨W0,hW0⟩ : ∃ W0,W0 = ((w.alloc (.cells #[.slice p n c] 35)).alloc (.cells #[.int .i64 r,.int .i64 k,.slice q nx cx] 37)).alloc (.cells #[.int .i64 r2,.int .i64 k2,.slice q2 ny cy] 37) := ⟨_,rfl⟩;obtain ⟨E0,s0,b0,b1,b2⟩ := box3 hW0;have b0 : HB W0 w.heap.size #[.slice p n c] 35 := b0;have b1 : HB W0 (w.heap.size + 1) #[.int .i64 r,.int .i64 k,.slice q nx cx] 37 := b1;have b2 : HB W0 (w.heap.size + 1 + 1) #[.int .i64 r2,.int .i64 k2,.slice q2 ny cy] 37 := b2;have K := hid (l10Shared_any (sm := none) (sx := none) (sy := none) w.heap.size 0 (w.heap.size + 1) 0 (w.heap.size + 1 + 1) 0 p q q2 n c nx cx ny cy r k r2 k2 wk kd css L xs ys us vs W0 (b0.cell 0 rfl) (b1.cell 0 rfl) (b1.cell 1 rfl) (b1.cell 2 rfl) (b2.cell 0 rfl) (b2.cell 1 rfl) (b2.cell 2 rfl) (hL.ext E0) hxl hyl hnx hny hcx hcy (hqx.ext E0) hfx (hqy.ext E0) hfy);clear b0 b1 b2 hL hxl hyl;go_enter Tryz.func22,Tryz.ntmps22;go_wp2_with fail;rw [← hW0];clear hW0;refine K.out.mono ?_;rintro e w1 ⟨⟨hg,u,v,rfl⟩ | ⟨hg,q',c',b',us',rfl,h1,h2,h3,h4⟩,e1⟩
 · have HG := hid hg
   clear hg;go_wp2;refine bodyPost_ret (results_tmp3 (t := 10) (u := 11) (v := 12) (by kernel_rfl) _ _ _) rfl ?_;exact ⟨Or.inl ⟨HG.out,rfl⟩,E0.trans e1⟩
 · have HG := hid hg;have H1 := hid h1;have H2 := hid h2;have H3 := hid h3;have H4 := hid h4
   clear hg h1 h2 h3 h4;obtain ⟨NP,hNP⟩ : ∃ NP,(parF L).length = NP := ⟨_,rfl⟩;have HNP := hid hNP;rw [hNP];clear hNP;go_wp2;refine bodyPost_ret (results_tmp3 (t := 10) (u := 11) (v := 12) (by kernel_rfl) _ _ _) rfl ?_;exact ⟨Or.inr ⟨HG.out,q',c',b',us',by rw [HNP.out];rfl,H1.out,jao H2.out E0.size,H3.out,H4.out⟩,E0.trans e1⟩
end Go.Proofs.YtlimabbeaimdgaaGreat
namespace Go.Proofs.YtlimabbeaimdgaaGreat.lSharedGradients
open Go.RowKit
section
variable {P : Program} {w : World} {ops : Array Oper} {rest : List Oper} {o : Oper} {a : Act} {Q : Exit → Act → World → Prop}
theorem wl_convW {src dst : TypeId} {x : Operand} {s k : FloatKind} {b : Nat} (hw : Region.wanted o (yielded ops a.tmps) = true) (ho : o.op = .convert src dst x) (hx : a.eval x = .float s b) (hs : (P.underlying src).isSome = true) (hd : P.underlying dst = some (.float k)) (hov : fover s (cn s b) k = false)
 (h : ∀ r w',Ext w w' → cn k r = fconv s (cn s b) k → wpList P ops Q rest (a.put o.dst (.float k r)) w') : wpList P ops Q (o :: rest) a w := by
 obtain ⟨r,n,h1,h2⟩ := run_conv (P := P) ho hx hs hd hov w;exact wl_valueW hw h1 (h r _ (Ext.drewN w n) h2)
end
def OutF (w : World) (s : Sh) (r : s.T × Nat × Bool) (e : Ending) (w' : World) : Prop :=
 ∃ cs bs fb,e = .returned (.tuple #[ofCs s cs,.float .f32 fb,.bool r.2.2]) ∧ cn .f32 fb = r.2.1 ∧ Own w' s cs r.1 bs ∧ bs.Nodup ∧ (∀ b ∈ bs,w.heap.size ≤ b) ∧ Ext w w'
def okB (d : jap.T) (x y : jaa.T) (k kd : Int) : Bool := sgB d.1 x.1 x.2.1 x.2.2.1.length y.1 y.2.1 y.2.2.1.length k kd
def res (d : jap.T) (x y : jaa.T) (k kd : Int) : List Nat × Nat × Bool := if okB d x y k kd = true then (sgList d.1 x.1 x.2.1 x.2.2.1 y.2.1 y.2.2.1 k kd,sgLoss d.1 x.1 x.2.1 x.2.2.1 y.2.1 y.2.2.1 k kd,true) else ([],0,false)
theorem sgList_len {L : List jac.T} {r k r2 k2 wk kd : Int} {xs ys : List Nat} (h : sgB L r k xs.length r2 k2 ys.length wk kd = true) : (sgList L r k xs k2 ys wk kd).length = (parF L).length := by
 unfold sgB at h;rw [Bool.and_eq_true] at h;obtain ⟨hg,_,hr2,R,K,K2,nk,rfl,rfl,rfl,rfl,m1,m2,_,_,_,_,_,hk1,hk8,hkR⟩ := wgB_nat h.1;rw [hr2] at hg;unfold sgList;simp only [Int.toNat_natCast];exact (wgLists_even hg m1 m2 hk1 hkR).red (by rw [wgLists_len];exact hk1) kd
theorem res_bd (d : jap.T) (x y : jaa.T) (k kd : Int) (hd : tot jap d ≤ 1048576) (_ : tot jaa x ≤ 1048576) (_ : tot jaa y ≤ 1048576) (_ : Fit jap d) (_ : Fit jaa x) (_ : Fit jaa y) (_ : Fit .int k) (_ : Fit .int kd) : tot (.sl .flt) (res d x y k kd).1 ≤ 1048576 := by
 rw [tot_flts];unfold res
 split
 · rename_i h
   have h1 := sgList_len h;dsimp only;rw [h1];unfold okB sgB at h;rw [Bool.and_eq_true] at h;have hg := (wgB_nat h.1).1;exact Nat.le_trans (parF_gr hg) (by decide)
 · exact Nat.zero_le _
theorem both_ok (f : Nat) (K : ∀ (p q q2 : Option Addr) (n c nx cx ny cy : Nat) (r k r2 k2 wk kd : Int) (css : List (List Value)) (L : List jac.T) (xs ys : List Nat) (us vs : List Value) (w : World),Lays w p n css L → xs.length = nx → ys.length = ny → nx ≤ maxLen → ny ≤ maxLen → nx ≤ cx → ny ≤ cy → Cs w q us → F32s us xs → Cs w q2 vs → F32s vs ys →
 Calls Tryz.prog f #[.agg #[.slice p n c],.agg #[.int .i64 r,.int .i64 k,.slice q nx cx],.agg #[.int .i64 r2,.int .i64 k2,.slice q2 ny cy],.int .i64 wk,.int .i64 kd] w fun e w' => SgRet w L r k xs r2 k2 ys wk kd e w' ∧ Ext w w')
 (cs0 : List Value) (D0 : jap.T) (cs1 : List Value) (D1 : jaa.T) (cs2 : List Value) (D2 : jaa.T) (a3 a4 : Int) (w : World) (h0 : Rep w jap cs0 D0) (h1 : Rep w jaa cs1 D1) (h2 : Rep w jaa cs2 D2) (f0 : Fit jap D0) : Calls Tryz.prog f #[ofCs jap cs0,ofCs jaa cs1,ofCs jaa cs2,.int .i64 a3,.int .i64 a4] w (OutF w (.sl .flt) (res D0 D1 D2 a3 a4)) := by
 obtain ⟨L0,u0⟩ := D0;obtain ⟨c0,c1,rfl,k0,rfl⟩ := h0;obtain ⟨p,c,rfl,_⟩ := jbb k0;obtain ⟨p',c',css,he0,L⟩ := lays_of k0 f0.1
 cases he0
 obtain ⟨q,cq,us,rfl,hp,hf,hcq,hcm⟩ := jaz h1;obtain ⟨q',cq',us',rfl,hp',hf',hcq',hcm'⟩ := jaz h2;obtain ⟨r1,k1,xs,v1⟩ := D1;obtain ⟨r2,k2,ys,v2⟩ := D2;dsimp only at hp hf hcq hcm hp' hf' hcq' hcm' ⊢;simp only [ofCs,Sh.agg,if_true,List.append_nil,List.cons_append,List.nil_append];have hxm : xs.length ≤ maxLen := Nat.le_trans hcq hcm;have hym : ys.length ≤ maxLen := Nat.le_trans hcq' hcm';refine (K p q q' L0.length c xs.length cq ys.length cq' r1 k1 r2 k2 a3 a4 css L0 xs ys us us' w L rfl rfl hxm hym hcq hcq' hp hf hp' hf').mono ?_;rintro e w' ⟨⟨hb,rfl⟩ | ⟨hb,q9,c9,b9,us9,rfl,hl,ho,hf9,hcb⟩,h3⟩
 · have hb : okB (L0,u0) (r1,k1,xs,v1) (r2,k2,ys,v2) a3 a4 = false := hb
   unfold res;rw [hb,if_neg (by decide)];exact ⟨[.slice none 0 0],[],0,rfl,cn0,own_nil,by simp,by simp,h3⟩
 · have hb : okB (L0,u0) (r1,k1,xs,v1) (r2,k2,ys,v2) a3 a4 = true := hb
   unfold res;rw [hb,if_pos rfl];have o1 : Own w' (.sl .flt) [.slice q9 (parF L0).length c9] (sgList L0 r1 k1 xs k2 ys a3 a4) (jak q9) := own_flts.2 ⟨q9,c9,us9,by rw [hl],by rw [hl];exact jdk ho,hf9,by rw [hl];exact (jbl ho).1,(jbl ho).2,rfl⟩;exact ⟨[.slice q9 (parF L0).length c9],jak q9,b9,rfl,hcb,o1,by cases q9 <;> simp [jak],fun b hb => jar ho b (own_blk hb ho),h3⟩
theorem impl_ok (cs0 : List Value) (D0 : jap.T) (cs1 : List Value) (D1 : jaa.T) (cs2 : List Value) (D2 : jaa.T) (a3 a4 : Int) (w : World) (h0 : Rep w jap cs0 D0) (h1 : Rep w jaa cs1 D1) (h2 : Rep w jaa cs2 D2) (f0 : Fit jap D0) (_ : Fit jaa D1) (_ : Fit jaa D2) (_ : Fit .int a3) (_ : Fit .int a4) : Calls Tryz.prog 23 #[ofCs jap cs0,ofCs jaa cs1,ofCs jaa cs2,.int .i64 a3,.int .i64 a4] w (OutF w (.sl .flt) (res D0 D1 D2 a3 a4)) :=
 both_ok 23 SharedGradients_any cs0 D0 cs1 D1 cs2 D2 a3 a4 w h0 h1 h2 f0
theorem spec_ok (cs0 : List Value) (D0 : jap.T) (cs1 : List Value) (D1 : jaa.T) (cs2 : List Value) (D2 : jaa.T) (a3 a4 : Int) (w : World) (h0 : Rep w jap cs0 D0) (h1 : Rep w jaa cs1 D1) (h2 : Rep w jaa cs2 D2) (f0 : Fit jap D0) (_ : Fit jaa D1) (_ : Fit jaa D2) (_ : Fit .int a3) (_ : Fit .int a4) : Calls Tryz.prog 22 #[ofCs jap cs0,ofCs jaa cs1,ofCs jaa cs2,.int .i64 a3,.int .i64 a4] w (OutF w (.sl .flt) (res D0 D1 D2 a3 a4)) :=
 both_ok 22 specSharedGradients_any cs0 D0 cs1 D1 cs2 D2 a3 a4 w h0 h1 h2 f0
end Go.Proofs.YtlimabbeaimdgaaGreat.lSharedGradients
namespace Go.Proofs.YtlimabbeaimdgaaGreat
open Go.RowKit
theorem fit_int {n : Int} (h : (Lit.int .i64 n).wf = true) : Fit .int n := by
 simp [Lit.wf,IntKind.min,IntKind.max,IntKind.bits,IntKind.signed] at h;unfold Fit;omega
end Go.Proofs.YtlimabbeaimdgaaGreat
