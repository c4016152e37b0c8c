/- A part of the proofs: RedC, RLst, TnSg, RgV, Box. -/
import Derived.Test.YtlimabbeaimdgaaGreatZ32Shared
import Derived.Test.YtlimabbeaimdgaaGreatZ08Shared
import Derived.Test.YtlimabbeaimdgaaGreatZ07Shared
import Derived.Test.YtlimabbeaimdgaaGreatZ03Shared
import Derived.Test.YtlimabbeaimdgaaGreatZ05Shared
import Derived.Test.YtlimabbeaimdgaaGreatZ04Shared
import Derived.Test.YtlimabbeaimdgaaGreatZ22Shared
import Derived.Test.YtlimabbeaimdgaaGreatZ12Shared
import Derived.Test.YtlimabbeaimdgaaGreatZ23Shared
import Derived.Test.YtlimabbeaimdgaaGreatRgUShar
import Derived.Test.YtlimabbeaimdgaaGreatZ09Shared
set_option linter.unusedSimpArgs false
set_option linter.unusedVariables false
set_option maxRecDepth 100000
set_option maxHeartbeats 16000000
namespace Go.Proofs.YtlimabbeaimdgaaGreat
open Go.RowKit
theorem l10Reduce_tree (p : Option Addr) (n c N : Nat) (us : List Value) (l : List (List Nat)) (w : World) (F0 : Fls w p n us l) (hn1 : 1 ≤ n) (hn : n ≤ 8) (hc : n ≤ c) (hE : EvenL l N) (hN : N ≤ 1048576) :
 Calls Tryz.prog 70 #[.int .i64 1,.slice p n c] w (RetFl w (redF 1 l)) := by
 have HR := hid (show redF 1 l = treeF l from rfl);have HRl := hid (show (treeF l).length = N from hE.tree rfl (by rw [F0.len];exact hn1));obtain ⟨R,hR⟩ : ∃ R,R = treeF l := ⟨_,rfl⟩;rw [← hR] at HR HRl;have HTr := hid hR.symm;have HE := hid hE;clear hE hR;go_enter Tryz.func70,Tryz.ntmps70;go_wp2_with fail;go_loopw [5] (fun lv wr => ∃ (n' c' : Nat) (q' : Option Addr) (us' : List Value) (l' : List (List Nat)),lv = .slice q' n' c' ∧ 1 ≤ n' ∧ n' ≤ 8 ∧ n' ≤ c' ∧ Fls wr q' n' us' l' ∧ Hid (EvenL l' N) ∧ Hid (treeF l' = R) ∧ Ext w wr) (fun lv _ => match lv with | .slice _ m _ => m | _ => 0)
 case atStart => exact ⟨n,c,p,us,l,rfl,hn1,hn,hc,F0,HE,HTr,Ext.refl _⟩
 case round =>
  clear F0 HE HTr hn1 hn hc;obtain ⟨n',c',q',us',l',rfl,hn1,hn8,hnc,F1,HE,HTr,he⟩ := hrel;have Hcnt := hid F1.cnt;have HEl := hid (fun t (h : t < n') => HE.out t (by rw [F1.len];exact h));have HAt := hid F1.at';have hB := he.size
  by_cases hlt : 1 < n'
  · have HTr2 := hid (show treeF (pairF l') = R from by rw [← treeF_pair (by rw [F1.len];exact hlt)];exact HTr.out)
    have HE2 := hid HE.out.pair;have Hp := hid (show pairF l' = ltab ((n' + 1) / 2) (prF l') from by unfold pairF;rw [F1.len]);have Hpr := hid (fun j (h : 2 * j + 1 < n') => show prF l' j = addF (l'.getD (2 * j) []) (l'.getD (2 * j + 1) []) from by unfold prF;rw [if_pos (by rw [F1.len];exact h)]);have Hpn := hid (fun j (h : ¬ 2 * j + 1 < n') => show prF l' j = l'.getD (2 * j) [] from by unfold prF;rw [if_neg (by rw [F1.len];exact h)]);have hp := F1.cs;have hst : (wr.alloc (.cells #[] 25)).ownsRow wr.heap.size 25 1 (.slice (some ⟨wr.heap.size,0,none⟩) 0 0) 0 [] := World.ownsRow_made wr #[] 0 (Nat.le_refl _) (by decide) rfl;have e3 := Ext.alloc wr (.cells #[] 25);obtain ⟨wo,hwo⟩ : ∃ wo,wo = wr := ⟨_,rfl⟩;rw [← hwo] at he HAt hp hB hst e3;have hdec : decide ((1 : Int) < (n' : Int)) = true := by simp;omega
    clear F1 HE HTr;go_wp2_with fail;rw [← hwo];clear hwo;go_loopw [6,7] (fun nv iv wr => ∃ (i m : Nat) (q8 : Option Addr) (c8 : Nat) (us8 : List Value),Hid (i = 2 * m) ∧ i ≤ n' + 1 ∧ m ≤ 5 ∧ iv = .int .i64 i ∧ nv = .slice q8 m c8 ∧ wr.ownsRow wo.heap.size 25 1 (.slice q8 m c8) m us8 ∧ Hid (Nx wr (.slice q8 m c8) m us8 (ltab m (prF l'))) ∧ Ext wo wr) (fun _ iv _ => n' + 1 - (intOf iv).toNat)
    case atStart => exact ⟨0,0,_,_,[],rfl,by omega,by omega,rfl,rfl,hst,Nx.nil,e3⟩
    case round =>
     clear hst e3;obtain ⟨i,m,q8,c8,us8,Him,hi,hm5,rfl,rfl,own8,HNx,e8⟩ := hrel;have hB8 := e8.size
     by_cases hlt2 : i < n'
     · obtain ⟨qa,ca,vsa,a1,a2,a3,a4⟩ := HAt.out i hlt2
       rw [HEl.out i hlt2] at a1 a4;have HA1 := hid a1;have hpa : vsa ≠ [] → ∀ b,(Value.slice q8 m c8).ownBlock = some b → (adr qa 0).block ≠ b := fun h b hb => by have := a2.blk h;have := jar own8 b hb;omega
       have kp := hp.ext e8;have Hm1 := hid (ltab_succ m (prF l'));have hm4 : m + 1 ≤ 5 := by have := Him.out;omega
       clear a1
       by_cases hlt3 : i + 1 < n'
       · obtain ⟨qb,cb,vsb,b1,b2,b3,b4⟩ := HAt.out (i + 1) hlt3
         rw [HEl.out _ hlt3] at b1 b4;have HB1 := hid b1;have HW := hid (show IntKind.i64.wrap ((i : Int) + 1) = ((i + 1 : Nat) : Int) from by rw [show (i : Int) + 1 = ((i + 1 : Nat) : Int) by omega];exact ja7 _ (by omega) (by omega));have hpr := Hpr.out m (by have := Him.out;omega);have hxl : (addF (l'.getD i []) (l'.getD (i + 1) [])).length = N := by rw [addF_len];exact HEl.out i hlt2
         rw [← Him.out] at hpr;have HPR := hid hpr;have HXL := hid hxl;have C1 := hid (fun W (h : Ext wr W) => (l10Add_any qa qb N ca cb vsa vsb (l'.getD i []) (l'.getD (i + 1) []) W (HEl.out i hlt2) (HEl.out _ hlt3) hN (a2.ext (e8.trans h)) a3 (b2.ext (e8.trans h)) b3).mono fun e w3 h3 => h3.is);obtain ⟨F,hF⟩ : ∃ F : Option Tmp → World → Value → Prop,F = fun _ w' u => IsFl wr.heap.size (addF (l'.getD i []) (l'.getD (i + 1) [])) w' u := ⟨_,rfl⟩
         have HF := hid hF;clear b1 hpr hxl hF;have eD := Ext.drew wr;have kq := kp.ext eD;go_wp2;refine jan 12 (F := F) (by kernel_rfl) (by kernel_rfl) (by kernel_rfl) (by kernel_rfl) (by kernel_rfl) ?_;intro wf hwf;simp only [pw1,pw2,pw3,pw4]
         repeat (first
          | ((first | (refine jat rfl ?_) | (refine x_mv rfl rfl rfl ?_) | (refine x_as rfl rfl rfl ?_) | ((with_reducible show gx0);first | (refine x_idxload rfl rfl (fun _ => rfl) rfl (fun _ => rfl) rfl rfl kq Hcnt.out (by omega) (by omega) ?_;intro u hu;rw [Int.toNat_natCast] at hu;replace hu := HA1.out.symm.trans hu;cases hu) | (refine x_idxload rfl rfl (fun _ => rfl) rfl (fun _ => rfl) rfl rfl kq Hcnt.out (by rw [HW.out];omega) (by rw [HW.out];omega) ?_;intro u hu;rw [HW.out,Int.toNat_natCast] at hu;replace hu := HB1.out.symm.trans hu;cases hu)) | ((with_reducible show gx4);refine jam (f := 89) (args := #[.slice qa N ca,.slice qb N cb]) rfl rfl Tryz.func89 rfl (by kernel_rfl) ?_ ?_ ?_;(focus (simp [Act.eval];done));(focus (intro w1 hw1;exact (by rw [HF.out];exact (C1.out w1 (eD.trans hw1)).mono fun e w3 ⟨u,h1,h2,h3⟩ => ⟨u,h1,h2,IsFl.base h3 (by have := (eD.trans hw1).size;omega)⟩)));rintro u w3 e3 e4 hu;simp only [HF.out] at hu;obtain ⟨qx,cx,vsx,rfl,ox,fx⟩ := IsFl.ext hu e4;rw [HXL.out] at ox ⊢;have FX := hid fx;clear fx hu) | (refine jb7 (u := .slice qx N cx) rfl rfl rfl rfl ?_;intro g5 hg5 hg6 hg7));simp only [Act.put,jab,pu1,pu2,pu3,pu4,pu5])
          | (refine ja3 rfl fun K hK w1 hw1 => ?_;go_simp;refine hK _ ?_;clear hK K  hw1 w1))
         refine ja4 ?_;have eW := eD.trans hwf;have own9 := jai own8 eW;have hN9 := (HNx.out).ext eW;have HN9 := hid hN9;have hox := jar ox;have hsz9 := eW.size;have hlt8 := own_lt own8;clear hN9;go_wp2_with ((with_reducible show gx7);refine jb9 rfl rfl rfl rfl own9 hg7 rfl (fun u hu => by simp [Value.cells] at hu;subst hu;rfl) (by unfold maxLen;omega) (by omega) (by omega) ?_;intro g6 c6 w6 own6 gr6 hg6');go_roundw
         case rel =>
          refine ⟨i + 2,m + 1,_,c6,us8 ++ [.slice qx N cx],?_,by omega,by omega,by go_num,rfl,own6,?_,(e8.trans eW).grown gr6 (fun kk hk => by have := jar own8 kk hk;omega)⟩
          · rw [Hid];have := Him.out;omega
          · rw [Hid,Hm1.out,HPR.out]
            exact HN9.out.snoc HXL.out (jbr ox) FX.out (jbl ox).1 (fun h b hb => by
             have h1 := hlt8 b hb
             cases qx with
             | none => have := (jbr ox).isS h;simp at this
             | some a => have := hox _ rfl;show a.block ≠ b;omega) gr6 hg6'
         case measure => simp [intOf];omega
       · have hin : i + 1 = n' := by omega
         have HIN := hid hin;have hpr := Hpn.out m (by have := Him.out;omega);rw [← Him.out] at hpr;have HPR := hid hpr;clear hin hpr;have HN9 := HNx;go_wp2_with (first | ((with_reducible show gx2);refine jaw rfl rfl rfl rfl (fun _ => rfl) rfl rfl kp Hcnt.out (by omega) (by omega) ?_;intro u hu;rw [Int.toNat_natCast] at hu;replace hu := HA1.out.symm.trans hu;cases hu) | ((with_reducible show gx10);refine jav (u := .slice qa N ca) rfl rfl rfl rfl rfl (by rfl) (by rfl) (fun _ => rfl) (fun _ => rfl) own8 (by unfold maxLen;omega) (by omega) (by omega) ?_;intro g6 c6 w6 own6 gr6 hg6'));go_roundw
         case rel =>
          refine ⟨i + 2,m + 1,_,c6,us8 ++ [.slice qa N ca],?_,by omega,by omega,by go_num,rfl,own6,?_,e8.grown gr6 (fun kk hk => by have := jar own8 kk hk;omega)⟩
          · rw [Hid];have := Him.out;omega
          · rw [Hid,Hm1.out,HPR.out]
            exact HN9.out.snoc (HEl.out i hlt2) (a2.ext e8) a3 a4 hpa gr6 (hg6'.imp id (fun h => by omega))
         case measure => simp [intOf];omega
     · have hmm : m = (n' + 1) / 2 := by have := Him.out;omega
       have Hmm := hid hmm;have hm1 : 1 ≤ m := by omega
       have hml : m < n' := by omega
       have hm8 : m ≤ 8 := by omega
       have hF := (HNx.out).fls own8;have hcap := (jbl own8).1;clear hmm;go_wp2;go_roundw
       case rel => exact ⟨m,c8,q8,us8,ltab m (prF l'),rfl,hm1,hm8,hcap,hF,by have := HE2.out;rw [Hp.out,← Hmm.out] at this;exact this,by have := HTr2.out;rw [Hp.out,← Hmm.out] at this;exact this,he.trans e8⟩
       case measure => simp;omega
  · obtain rfl : n' = 1 := by omega
    obtain ⟨qa,ca,vsa,a1,a2,a3,a4⟩ := HAt.out 0 (by omega);have hl0 : l'.getD 0 [] = R := by rw [← HTr.out,treeF_one (by rw [F1.len];exact Nat.le_refl _)]
    rw [hl0] at a1 a3 a4;rw [HRl.out] at a1 a4;have HA1 := hid a1;have C0 := hid (l02Own_any qa N ca vsa R wr HRl.out (by omega) a4 a2 a3);have hp := F1.cs;clear a1 hl0;go_wp2_with ((with_reducible show gx2);refine jaw rfl rfl rfl rfl (fun _ => rfl) rfl rfl hp Hcnt.out (by omega) (by omega) ?_;intro u hu;replace hu := HA1.out.symm.trans hu;cases hu);refine C0.out.mono ?_;rintro e w1 ⟨q1,c1,ws,rfl,own0,hF,e0⟩
    go_wp2;go_ret;rw [HR.out];exact ⟨q1,c1,ws,rfl,jao own0 hB,hF,he.trans e0⟩
theorem l10Reduce_ring0 (p : Option Addr) (n c N : Nat) (us : List Value) (l : List (List Nat)) (w : World) (F0 : Fls w p n us l) (hn1 : 1 ≤ n) (hn : n ≤ 8) (hE : EvenL l N) (hN : N ≤ 1048576) :
 Calls Tryz.prog 70 #[.int .i64 0,.slice p n c] w (RetFl w (redF 0 l)) := by
 have Hcnt := hid F0.cnt;have HEl := hid (fun t (h : t < n) => hE t (by rw [F0.len];exact h));have HAt := hid F0.at';obtain ⟨o,ho⟩ : ∃ o : Nat → Nat,o = fun j => sumK l (fstR 0 n j) j (n - 1) := ⟨_,rfl⟩
 have HR := hid (show redF 0 l = tab N o from by rw [ho];unfold redF;rw [if_neg (by decide)];unfold ringF;rw [hE 0 (by rw [F0.len];exact hn1),F0.len]);have HO := hid (fun j => show o j = sumK l (0) j (n - 1) from by rw [ho];rfl);have HS := hid (fun f j i => show sumK l f j (i + 1) = fop .add .f32 (sumK l f j i) ((l.getD ((f + i + 1) % n) []).getD j 0) from by rw [← F0.len];rfl);have HS0 := hid (fun f j => show sumK l f j 0 = (l.getD f []).getD j 0 from rfl);have hp := F0.cs;obtain ⟨q0,c0,vs0,a1,a2,a3,a4⟩ := F0.at' 0 (by omega);rw [HEl.out 0 (by omega)] at a1;have HA0 := hid a1;have hst : (w.alloc (.cells #[] 48)).ownsRow w.heap.size 48 1 (.slice (some ⟨w.heap.size,0,none⟩) 0 0) 0 [] := World.ownsRow_made w #[] 0 (Nat.le_refl _) (by decide) rfl;have e3 := Ext.alloc w (.cells #[] 48);clear F0 hE ho a1 a2 a3 a4;have hpa := hp.ext e3;go_enter Tryz.func70,Tryz.ntmps70;go_wp2_with fail;go_loopw [8,9] (fun ov jv wr => ∃ (j : Nat) (q1 : Option Addr) (c1 : Nat) (ws : List Value),j ≤ N ∧ jv = .int .i64 j ∧ ov = .slice q1 j c1 ∧ wr.ownsRow w.heap.size 48 1 (.slice q1 j c1) j ws ∧ Hid (F32s ws (tab j o)) ∧ Ext w wr) (fun _ jv _ => N - (intOf jv).toNat)
 case atStart => exact ⟨0,_,_,[],by omega,rfl,rfl,hst,F32s.nil,e3⟩
 case round =>
  clear hst e3 hpa;obtain ⟨j,q1,c1,ws,hj,rfl,rfl,own0,HF,he⟩ := hrel;have kp := hp.ext he
  by_cases hlt : j < N
  · obtain ⟨f,hfe⟩ : ∃ f,f = 0 := ⟨_,rfl⟩
    have hf : f < n := by rw [hfe];first | exact Nat.mod_lt _ (by omega) | omega
    have hoj := HO.out j;rw [← hfe] at hoj;have HOj := hid hoj;obtain ⟨qf,cf,vsf,a1,a2,a3,_⟩ := HAt.out f hf;rw [HEl.out f hf] at a1;rw [hfe] at a1;have HFE := hid hfe;have HA1 := hid a1;have HL1 := hid (HEl.out f hf);have k2 := a2.ext he;have hdec : decide ((j : Int) < (N : Int)) = true := by simp;omega
    clear a1 hoj hfe a2;go_wp2_with (first | ((with_reducible show gx2);first | (refine jaw rfl rfl rfl rfl (fun _ => rfl) rfl rfl kp Hcnt.out (by omega) (by omega) ?_;intro u hu;replace hu := HA1.out.symm.trans hu;cases hu) | (refine jc1 rfl rfl rfl rfl (fun _ => rfl) rfl rfl k2 a3 HL1.out (by omega) (by omega) ?_;intro r0 g0;have G0 := hid g0;clear g0)));have hr0 : cn .f32 r0 = sumK l f j 0 := by rw [G0.out,HS0.out,Int.toNat_natCast]
    have HR0 := hid hr0;clear hr0 G0;go_loopw [11,12] (fun sv iv wq => ∃ (i r : Nat),1 ≤ i ∧ i ≤ n ∧ iv = .int .i64 i ∧ sv = .float .f32 r ∧ Hid (cn .f32 r = sumK l f j (i - 1)) ∧ Ext wr wq) (fun _ iv _ => n - (intOf iv).toNat)
    case atStart => exact ⟨1,r0,by omega,hn1,rfl,rfl,HR0,Ext.refl _⟩
    case round =>
     clear HR0;obtain ⟨i,r,hi1,hi,rfl,rfl,HRr,eq⟩ := hrel
     by_cases hlt2 : i < n
     · obtain ⟨g,hge⟩ : ∃ g,g = (f + i) % n := ⟨_,rfl⟩
       have hg : g < n := by rw [hge];exact Nat.mod_lt _ (by omega)
       have h0 : (i) % n = g := by rw [hge,HFE.out,Nat.zero_add]
       have HG := hid (show ((i : Int)) % (n : Int) = ((g : Nat) : Int) from by rw [← h0,Int.natCast_emod]);clear h0;have hsi := HS.out f j (i - 1);rw [show f + (i - 1) + 1 = f + i by omega,show i - 1 + 1 = i by omega,← hge] at hsi;have HSi := hid hsi;obtain ⟨qg,cg,vsg,b1,b2,b3,_⟩ := HAt.out g hg;rw [HEl.out g hg] at b1;have HB1 := hid b1;have HL2 := hid (HEl.out g hg);have k3 := b2.ext (he.trans eq);have kq := kp.ext eq;clear b1 hsi hge b2;go_wp2_with (first | ((with_reducible show gx2);first | (refine jaw rfl rfl rfl rfl (fun _ => rfl) rfl rfl kq Hcnt.out (by rw [HG.out];omega) (by rw [HG.out];omega) ?_;intro u hu;rw [HG.out,Int.toNat_natCast] at hu;replace hu := HB1.out.symm.trans hu;cases hu) | (refine jc1 rfl rfl rfl rfl (fun _ => rfl) rfl rfl k3 b3 HL2.out (by omega) (by omega) ?_;intro r1 g1;have G1 := hid g1;clear g1)) | ((with_reducible show gx3);refine wl_fop rfl rfl rfl rfl rfl ?_;intro r3 w3 e3' g3;have G3 := hid g3;clear g3));go_roundw
       case rel =>
        have q1 := G1.out;rw [Int.toNat_natCast] at q1;exact ⟨i + 1,r3,by omega,by omega,by go_num,rfl,by rw [Hid,show i + 1 - 1 = i by omega,HSi.out,G3.out,HRr.out,q1],eq.trans e3'⟩
       case measure => simp [intOf];omega
     · obtain rfl : i = n := by omega
       have own9 := jai own0 eq;have hB9 := eq.size;have hB0 := he.size;have hBB : w.heap.size ≤ wr.heap.size := by omega
       go_wp2_with ((with_reducible show gx10);refine jav (u := .float .f32 r) rfl rfl rfl rfl rfl rfl rfl (fun _ => rfl) (fun _ => rfl) own9 (by unfold maxLen;omega) (by omega) (by omega) ?_;intro g c w4 own4 g4 hg4);go_roundw
       case rel =>
        have own5 : w4.ownsRow w.heap.size 48 1 (.slice (some ⟨g,0,none⟩) (j + 1) c) (j + 1) (ws ++ [.float .f32 r]) := own4;exact ⟨j + 1,some ⟨g,0,none⟩,c,ws ++ [.float .f32 r],by omega,by go_num,rfl,own5,by rw [Hid];exact HF.out.push (by rw [HRr.out,HOj.out]),(he.trans eq).grown g4 (fun k hk => jar own9 k hk)⟩
       case measure => simp [intOf];omega
  · obtain rfl : j = N := by omega
    go_wp2_with ((with_reducible show gx2);refine jaw rfl rfl rfl rfl (fun _ => rfl) rfl rfl kp Hcnt.out (by omega) (by omega) ?_;intro u hu;replace hu := HA0.out.symm.trans hu;cases hu);go_ret;rw [HR.out];exact retFl_own (tab_len _ _) own0 HF.out rfl he
theorem l10Reduce_ring2 (p : Option Addr) (n c N : Nat) (us : List Value) (l : List (List Nat)) (w : World) (F0 : Fls w p n us l) (hn1 : 1 ≤ n) (hn : n ≤ 8) (hE : EvenL l N) (hN : N ≤ 1048576) :
 Calls Tryz.prog 70 #[.int .i64 2,.slice p n c] w (RetFl w (redF 2 l)) := by
 have Hcnt := hid F0.cnt;have HEl := hid (fun t (h : t < n) => hE t (by rw [F0.len];exact h));have HAt := hid F0.at';obtain ⟨o,ho⟩ : ∃ o : Nat → Nat,o = fun j => sumK l (fstR 2 n j) j (n - 1) := ⟨_,rfl⟩
 have HR := hid (show redF 2 l = tab N o from by rw [ho];unfold redF;rw [if_neg (by decide)];unfold ringF;rw [hE 0 (by rw [F0.len];exact hn1),F0.len]);have HO := hid (fun j => show o j = sumK l (j % n) j (n - 1) from by rw [ho];rfl);have HS := hid (fun f j i => show sumK l f j (i + 1) = fop .add .f32 (sumK l f j i) ((l.getD ((f + i + 1) % n) []).getD j 0) from by rw [← F0.len];rfl);have HS0 := hid (fun f j => show sumK l f j 0 = (l.getD f []).getD j 0 from rfl);have hp := F0.cs;obtain ⟨q0,c0,vs0,a1,a2,a3,a4⟩ := F0.at' 0 (by omega);rw [HEl.out 0 (by omega)] at a1;have HA0 := hid a1;have hst : (w.alloc (.cells #[] 48)).ownsRow w.heap.size 48 1 (.slice (some ⟨w.heap.size,0,none⟩) 0 0) 0 [] := World.ownsRow_made w #[] 0 (Nat.le_refl _) (by decide) rfl;have e3 := Ext.alloc w (.cells #[] 48);clear F0 hE ho a1 a2 a3 a4;have hpa := hp.ext e3;go_enter Tryz.func70,Tryz.ntmps70;go_wp2_with fail;go_loopw [8,9] (fun ov jv wr => ∃ (j : Nat) (q1 : Option Addr) (c1 : Nat) (ws : List Value),j ≤ N ∧ jv = .int .i64 j ∧ ov = .slice q1 j c1 ∧ wr.ownsRow w.heap.size 48 1 (.slice q1 j c1) j ws ∧ Hid (F32s ws (tab j o)) ∧ Ext w wr) (fun _ jv _ => N - (intOf jv).toNat)
 case atStart => exact ⟨0,_,_,[],by omega,rfl,rfl,hst,F32s.nil,e3⟩
 case round =>
  clear hst e3 hpa;obtain ⟨j,q1,c1,ws,hj,rfl,rfl,own0,HF,he⟩ := hrel;have kp := hp.ext he
  by_cases hlt : j < N
  · obtain ⟨f,hfe⟩ : ∃ f,f = j % n := ⟨_,rfl⟩
    have hf : f < n := by rw [hfe];first | exact Nat.mod_lt _ (by omega) | omega
    have HM := hid (show ((j : Int) % (n : Int)) = ((f : Nat) : Int) from by rw [hfe,Int.natCast_emod]);have hMp := HM.out;have hoj := HO.out j;rw [← hfe] at hoj;have HOj := hid hoj;obtain ⟨qf,cf,vsf,a1,a2,a3,_⟩ := HAt.out f hf;rw [HEl.out f hf] at a1;have HA1 := hid a1;have HL1 := hid (HEl.out f hf);have k2 := a2.ext he;have hdec : decide ((j : Int) < (N : Int)) = true := by simp;omega
    clear a1 hoj hfe a2;go_wp2_with (first | ((with_reducible show gx2);first | (refine jaw rfl rfl rfl rfl (fun _ => rfl) rfl rfl kp Hcnt.out (by omega) (by omega) ?_;intro u hu;replace hu := HA0.out.symm.trans hu;cases hu) | (refine jaw rfl rfl rfl rfl (fun _ => rfl) rfl rfl kp Hcnt.out (by rw [HM.out];omega) (by rw [HM.out];omega) ?_;intro u hu;rw [HM.out,Int.toNat_natCast] at hu;replace hu := HA1.out.symm.trans hu;cases hu) | (refine jc1 rfl rfl rfl rfl (fun _ => rfl) rfl rfl k2 a3 HL1.out (by omega) (by omega) ?_;intro r0 g0;have G0 := hid g0;clear g0)));have hr0 : cn .f32 r0 = sumK l f j 0 := by rw [G0.out,HS0.out,Int.toNat_natCast]
    have HR0 := hid hr0;clear hr0 G0;go_loopw [11,12] (fun sv iv wq => ∃ (i r : Nat),1 ≤ i ∧ i ≤ n ∧ iv = .int .i64 i ∧ sv = .float .f32 r ∧ Hid (cn .f32 r = sumK l f j (i - 1)) ∧ Ext wr wq) (fun _ iv _ => n - (intOf iv).toNat)
    case atStart => exact ⟨1,r0,by omega,hn1,rfl,rfl,HR0,Ext.refl _⟩
    case round =>
     clear HR0;obtain ⟨i,r,hi1,hi,rfl,rfl,HRr,eq⟩ := hrel
     by_cases hlt2 : i < n
     · obtain ⟨g,hge⟩ : ∃ g,g = (f + i) % n := ⟨_,rfl⟩
       have hg : g < n := by rw [hge];exact Nat.mod_lt _ (by omega)
       have h0 : (f + i) % n = g := by rw [hge]
       have HG := hid (show (((f : Nat) : Int) + (i : Int)) % (n : Int) = ((g : Nat) : Int) from by rw [← h0,Int.natCast_emod,Int.natCast_add]);clear h0;have hsi := HS.out f j (i - 1);rw [show f + (i - 1) + 1 = f + i by omega,show i - 1 + 1 = i by omega,← hge] at hsi;have HSi := hid hsi;obtain ⟨qg,cg,vsg,b1,b2,b3,_⟩ := HAt.out g hg;rw [HEl.out g hg] at b1;have HB1 := hid b1;have HL2 := hid (HEl.out g hg);have k3 := b2.ext (he.trans eq);have kq := kp.ext eq;clear b1 hsi hge b2;go_wp2_with (first | ((with_reducible show gx2);first | (refine jaw rfl rfl rfl rfl (fun _ => rfl) rfl rfl kq Hcnt.out (by rw [HG.out];omega) (by rw [HG.out];omega) ?_;intro u hu;rw [HG.out,Int.toNat_natCast] at hu;replace hu := HB1.out.symm.trans hu;cases hu) | (refine jc1 rfl rfl rfl rfl (fun _ => rfl) rfl rfl k3 b3 HL2.out (by omega) (by omega) ?_;intro r1 g1;have G1 := hid g1;clear g1)) | ((with_reducible show gx3);refine wl_fop rfl rfl rfl rfl rfl ?_;intro r3 w3 e3' g3;have G3 := hid g3;clear g3));go_roundw
       case rel =>
        have q1 := G1.out;rw [Int.toNat_natCast] at q1;exact ⟨i + 1,r3,by omega,by omega,by go_num,rfl,by rw [Hid,show i + 1 - 1 = i by omega,HSi.out,G3.out,HRr.out,q1],eq.trans e3'⟩
       case measure => simp [intOf];omega
     · obtain rfl : i = n := by omega
       have own9 := jai own0 eq;have hB9 := eq.size;have hB0 := he.size;have hBB : w.heap.size ≤ wr.heap.size := by omega
       go_wp2_with ((with_reducible show gx10);refine jav (u := .float .f32 r) rfl rfl rfl rfl rfl rfl rfl (fun _ => rfl) (fun _ => rfl) own9 (by unfold maxLen;omega) (by omega) (by omega) ?_;intro g c w4 own4 g4 hg4);go_roundw
       case rel =>
        have own5 : w4.ownsRow w.heap.size 48 1 (.slice (some ⟨g,0,none⟩) (j + 1) c) (j + 1) (ws ++ [.float .f32 r]) := own4;exact ⟨j + 1,some ⟨g,0,none⟩,c,ws ++ [.float .f32 r],by omega,by go_num,rfl,own5,by rw [Hid];exact HF.out.push (by rw [HRr.out,HOj.out]),(he.trans eq).grown g4 (fun k hk => jar own9 k hk)⟩
       case measure => simp [intOf];omega
  · obtain rfl : j = N := by omega
    go_wp2_with ((with_reducible show gx2);refine jaw rfl rfl rfl rfl (fun _ => rfl) rfl rfl kp Hcnt.out (by omega) (by omega) ?_;intro u hu;replace hu := HA0.out.symm.trans hu;cases hu);go_ret;rw [HR.out];exact retFl_own (tab_len _ _) own0 HF.out rfl he
end Go.Proofs.YtlimabbeaimdgaaGreat
namespace Go.Proofs.YtlimabbeaimdgaaGreat.lReduceLists
open Go.RowKit
def len0 (D : List (List Nat)) : Nat := (D.getD 0 []).length
def evenB (D : List (List Nat)) : Bool := !anyTo (fun i => !decide ((D.getD i []).length = len0 D)) D.length
theorem evenB_L {D : List (List Nat)} (h : evenB D = true) : EvenL D (len0 D) := by
 intro i hi;refine Classical.byContradiction fun hn => ?_
 unfold evenB at h;rw [anyTo_true.2 ⟨i,hi,by simp;exact hn⟩] at h
 cases h
def okR (k : Int) (D : List (List Nat)) : Prop := inB k 0 2 = true ∧ 1 ≤ D.length ∧ D.length ≤ 8 ∧ len0 D ≤ 512 ∧ evenB D = true
instance (k : Int) (D : List (List Nat)) : Decidable (okR k D) := by unfold okR;infer_instance
def res (k : Int) (D : List (List Nat)) : List Nat × Bool := if okR k D then (redF k D,true) else ([],false)
theorem res_bd (k : Int) (D : List (List Nat)) (_ : tot (.sl (.sl .flt)) D ≤ 1048576) (_ : Fit .int k) (_ : Fit (.sl (.sl .flt)) D) : tot (.sl .flt) (res k D).1 ≤ 1048576 := by
 rw [tot_flts];unfold res
 split
 · rename_i h
   rw [show (redF k D).length = len0 D from (evenB_L h.2.2.2.2).red h.2.1 k];have := h.2.2.2.1;omega
 · simp
theorem reduce_any (k : Int) (p : Option Addr) (n c N : Nat) (us : List Value) (l : List (List Nat)) (w : World) (hk : inB k 0 2 = true) (F0 : Fls w p n us l) (hn1 : 1 ≤ n) (hn : n ≤ 8) (hc : n ≤ c) (hE : EvenL l N) (hN : N ≤ 1048576) :
 Calls Tryz.prog 43 #[.int .i64 k,.slice p n c] w (RetFl w (redF k l)) := by
 rw [jbc] at hk;rcases (show k = 0 ∨ k = 1 ∨ k = 2 by omega) with rfl | rfl | rfl
 · exact reduce_line p n c N us l w F0 hn1 hn hc hE hN
 · exact reduce_tree p n c N us l w F0 hn1 hn hc hE hN
 · exact reduce_ring p n c N us l w F0 hn1 hn hE hN
theorem l10Reduce_any (k : Int) (p : Option Addr) (n c N : Nat) (us : List Value) (l : List (List Nat)) (w : World) (hk : inB k 0 2 = true) (F0 : Fls w p n us l) (hn1 : 1 ≤ n) (hn : n ≤ 8) (hc : n ≤ c) (hE : EvenL l N) (hN : N ≤ 1048576) :
 Calls Tryz.prog 70 #[.int .i64 k,.slice p n c] w (RetFl w (redF k l)) := by
 rw [jbc] at hk;rcases (show k = 0 ∨ k = 1 ∨ k = 2 by omega) with rfl | rfl | rfl
 · exact l10Reduce_ring0 p n c N us l w F0 hn1 hn hE hN
 · exact l10Reduce_tree p n c N us l w F0 hn1 hn hc hE hN
 · exact l10Reduce_ring2 p n c N us l w F0 hn1 hn hE hN
theorem isReduce_any (k : Int) (w : World) : Calls Tryz.prog 42 #[.int .i64 k] w fun e w' => e = .returned (.bool (inB k 0 2)) ∧ w = w' := by
 have A := hid (fun W => jbf k 0 2 W);generalize inB k 0 2 = b at *;go_enter Tryz.func42,Tryz.ntmps42;go_wp2_with fail;refine (A.out _).mono ?_;rintro e w' ⟨rfl,rfl⟩
 go_wp2;go_ret;exact ⟨rfl,rfl⟩
theorem l10Kind_any (k : Int) (w : World) : Calls Tryz.prog 69 #[.int .i64 k] w fun e w' => e = .returned (.bool (inB k 0 2)) ∧ w = w' := by
 have A := hid (fun W => jci k 0 2 W);generalize inB k 0 2 = b at *;go_enter Tryz.func69,Tryz.ntmps69;go_wp2_with fail;refine (A.out _).mono ?_;rintro e w' ⟨rfl,rfl⟩
 go_wp2;go_ret;exact ⟨rfl,rfl⟩
end Go.Proofs.YtlimabbeaimdgaaGreat.lReduceLists
namespace Go.Proofs.YtlimabbeaimdgaaGreat
open Go.RowKit
def onesL (ys : List Nat) : List (List Nat) := ys.map fun y => [y]
theorem onesL_take {lo : List Nat} {i : Nat} (h : i < lo.length) : onesL (lo.take (i + 1)) = onesL (lo.take i) ++ [[lo.getD i 0]] := by
 unfold onesL;rw [List.take_add_one,List.getElem?_eq_getElem h,List.map_append,List.getD_eq_getElem?_getD,List.getElem?_eq_getElem h];rfl
theorem onesL_even (lo : List Nat) : EvenL (onesL lo) 1 := by
 intro i hi;unfold onesL at hi ⊢;rw [List.getD_eq_getElem?_getD,List.getElem?_eq_getElem hi];simp
theorem own_flt1 {w : World} (b : Nat) {x : Nat} (h : cn .f32 b = x) : Own (w.alloc (.cells #[.float .f32 b] 48)) (.sl .flt) [.slice (some ⟨w.heap.size,0,none⟩) 1 1] [x] [w.heap.size] :=
 own_flts.2 ⟨some ⟨w.heap.size,0,none⟩,1,[.float .f32 b],rfl,.inr ⟨w.heap.size,_,_,rfl,heap_alloc_new w _,rfl⟩,F32s.cons rfl h F32s.nil,Nat.le_refl 1,by unfold maxLen;decide,rfl⟩
theorem grow_fls {w : World} {B : Nat} {te : TypeId} {v : Value} {l : List (List Nat)} {css : List (List Value)} {bss : List (List Nat)} (h : jax w B te (.sl .flt) v l css bss) : ∃ p c us,v = .slice p l.length c ∧ Fls w p l.length us l ∧ l.length ≤ c := by
 obtain ⟨bs,o,_,_⟩ := h.own;obtain ⟨p,c,us,h1,h2,h3,_⟩ := fls_of o.rep;exact ⟨p,c,us,h1,h2,h3⟩
theorem wgLists_even {L : List jac.T} {R K K2 nk : Nat} {xs ys : List Nat} (hg : jcq L R K xs.length R K2 ys.length = true) (hxl : xs.length = R * K) (hyl : ys.length = R * K2) (hk1 : 1 ≤ nk) (hkR : nk ≤ R) : EvenL (jb4 L K xs K2 ys R nk nk) (parF L).length := by
 intro i hi;rw [wgLists_len] at hi;unfold jb4;rw [List.getD_eq_getElem?_getD,List.getElem?_map,List.getElem?_range hi];exact wgList_len hg hxl hyl hk1 hkR hi
theorem parF_gr {L : List jac.T} {r k r2 k2 : Int} {nx ny : Nat} (hg : jcq L r k nx r2 k2 ny = true) : (parF L).length ≤ 1536 := by
 have h := (gradB_ten hg).2.2.2.1;unfold headB at h;rw [Bool.and_eq_true] at h;exact small_off (small_of (modOk h.1))
def sgB (L : List jac.T) (r k : Int) (nx : Nat) (r2 k2 : Int) (ny : Nat) (wk kd : Int) : Bool := wgB L r k nx r2 k2 ny wk && inB kd 0 2
def sgList (L : List jac.T) (r k : Int) (xs : List Nat) (k2 : Int) (ys : List Nat) (wk kd : Int) : List Nat := redF kd (jb4 L k.toNat xs k2.toNat ys r.toNat wk.toNat wk.toNat)
def sgLoss (L : List jac.T) (r k : Int) (xs : List Nat) (k2 : Int) (ys : List Nat) (wk kd : Int) : Nat := (redF kd (onesL (jbz L k.toNat xs k2.toNat ys r.toNat wk.toNat wk.toNat))).getD 0 0
def SgYes (w : World) (L : List jac.T) (r k : Int) (xs : List Nat) (r2 k2 : Int) (ys : List Nat) (wk kd : Int) (e : Ending) (w' : World) : Prop :=
 sgB L r k xs.length r2 k2 ys.length wk kd = true ∧ ∃ (q : Option Addr) (c b : Nat) (us : List Value),e = .returned (.tuple #[.slice q (parF L).length c,.float .f32 b,.bool true]) ∧ (sgList L r k xs k2 ys wk kd).length = (parF L).length ∧ w'.ownsRow w.heap.size 48 1 (.slice q (parF L).length c) (parF L).length us ∧ F32s us (sgList L r k xs k2 ys wk kd) ∧ cn .f32 b = sgLoss L r k xs k2 ys wk kd
def SgRet (w : World) (L : List jac.T) (r k : Int) (xs : List Nat) (r2 k2 : Int) (ys : List Nat) (wk kd : Int) (e : Ending) (w' : World) : Prop :=
 (sgB L r k xs.length r2 k2 ys.length wk kd = false ∧ e = .returned (.tuple #[.slice none 0 0,.float .f32 0,.bool false])) ∨ SgYes w L r k xs r2 k2 ys wk kd e w'
def SgAny (w : World) (L : List jac.T) (r k : Int) (xs : List Nat) (r2 k2 : Int) (ys : List Nat) (wk kd : Int) (e : Ending) (w' : World) : Prop :=
 (sgB L r k xs.length r2 k2 ys.length wk kd = false ∧ ∃ u v,e = .returned (.tuple #[u,v,.bool false])) ∨ SgYes w L r k xs r2 k2 ys wk kd e w'
theorem SharedGradients_any (p q q2 : Option Addr) (n c nx cx ny cy : Nat) (r k r2 k2 wk kd : Int) (css : List (List Value)) (L : List jac.T) (xs ys : List Nat) (us vs : List Value) (w : World) (hL : Lays w p n css L) (hxl : xs.length = nx) (hyl : ys.length = ny) (hnx : nx ≤ maxLen) (hny : ny ≤ maxLen) (hcx : nx ≤ cx) (hcy : ny ≤ cy) (hqx : Cs w q us) (hfx : F32s us xs) (hqy : Cs w q2 vs) (hfy : F32s vs ys) :
 Calls Tryz.prog 23 #[.agg #[.slice p n c],.agg #[.int .i64 r,.int .i64 k,.slice q nx cx],.agg #[.int .i64 r2,.int .i64 k2,.slice q2 ny cy],.int .i64 wk,.int .i64 kd] w fun e w' => SgRet w L r k xs r2 k2 ys wk kd e w' ∧ Ext w w' := by
 obtain ⟨W0,hW0⟩ : ∃ W0,W0 = ((w.alloc (.cells #[.slice p n c] 35)).alloc (.cells #[.int .i64 r,.int .i64 k,.slice q nx cx] 37)).alloc (.cells #[.int .i64 r2,.int .i64 k2,.slice q2 ny cy] 37) := ⟨_,rfl⟩;obtain ⟨E0,s0,b0,b1,b2⟩ := box3 hW0;have K := hid (WorkerGradients_any p q q2 n c nx cx ny cy r k r2 k2 wk css L xs ys us vs W0 (hL.ext E0) hxl hyl hnx hny hcx hcy (hqx.ext E0) hfx (hqy.ext E0) hfy);have A := hid (fun W => lReduceLists.isReduce_any kd W);clear b0 b1 b2 hL hxl hyl hqx hfx hqy hfy;go_enter Tryz.func23,Tryz.ntmps23;go_wp2_with fail;rw [← hW0];clear hW0;refine K.out.mono ?_;rintro e w2 ⟨⟨hg,rfl⟩ | ⟨hg,v,css',bss',ql,cl,vs9,rfl,hW⟩,e1⟩
 · have HG := hid hg
   clear hg K;go_wp2;refine bodyPost_ret (results_tmp3 (t := 10) (u := 11) (v := 12) (by kernel_rfl) _ _ _) rfl ?_;exact ⟨Or.inl ⟨by unfold sgB;rw [HG.out];rfl,rfl⟩,E0.trans e1⟩
 clear K;obtain ⟨hgr,_,hr2,R,K,K2,nk,hR,hK,hK2,hnk,m1,m2,_,_,_,_,_,hk1,hk8,hkR⟩ := wgB_nat hg;have hwk : wk.toNat = nk := by omega
 have hrn : r.toNat = R := by omega
 have hkn : k.toNat = K := by omega
 have hk2n : k2.toNat = K2 := by omega
 have HEv : Hid (EvenL (jb4 L k.toNat xs k2.toNat ys r.toNat nk nk) (parF L).length) := hid (by rw [hrn,hkn,hk2n];exact wgLists_even (by rw [hr2,hR,hK,hK2] at hgr;exact hgr) m1 m2 hk1 hkR);have hNP : (parF L).length ≤ 1048576 := Nat.le_trans (parF_gr hgr) (by decide);have HWK := hid hwk;rw [hwk] at hW ⊢;obtain ⟨pv,cv,uv,rfl,FLs,hcv⟩ := grow_fls hW.ls;rw [wgLists_len] at FLs hcv ⊢;have hLO := jbr hW.fs;have hLF := hW.fl;obtain ⟨Ls,hLs⟩ : ∃ x,jb4 L k.toNat xs k2.toNat ys r.toNat nk nk = x := ⟨_,rfl⟩;obtain ⟨lo,hlo⟩ : ∃ x,jbz L k.toNat xs k2.toNat ys r.toNat nk nk = x := ⟨_,rfl⟩;have hlol : lo.length = nk := by rw [← hlo,wgLosses_len]
 rw [hLs] at FLs HEv;rw [hlo] at hLF;have HLs := hid hLs;have Hlo := hid hlo;have HLN := hid hlol;have HLT := hid (fun i (hi : i ≤ nk) => show (onesL (lo.take i)).length = i by unfold onesL;rw [List.length_map,List.length_take];omega);have HTK := hid (fun i (hi : i < nk) => onesL_take (lo := lo) (i := i) (by omega));have HTN := hid (show onesL (lo.take nk) = onesL lo by rw [List.take_of_length_le (by omega)]);have HEo := hid (onesL_even lo);have HGG := hid hg;obtain ⟨NP,hNPe⟩ : ∃ NP,(parF L).length = NP := ⟨_,rfl⟩;rw [hNPe] at HEv hNP;have HNP := hid hNPe;go_wp2_with fail;refine (A.out _).mono ?_;rintro e w3 ⟨rfl,rfl⟩
 cases hkk : inB kd 0 2
 · have HK := hid hkk
   clear hgr hr2 hR hK hK2 m1 m2 hwk hrn hkn hk2n hLs hlo hlol hNPe hW hg hnk;clear hkk;go_wp2;refine bodyPost_ret (results_tmp3 (t := 10) (u := 11) (v := 12) (by kernel_rfl) _ _ _) rfl ?_;exact ⟨Or.inl ⟨by unfold sgB;rw [HGG.out,HK.out];rfl,rfl⟩,E0.trans e1⟩
 · clear hgr hr2 hR hK hK2 m1 m2 hwk hrn hkn hk2n hLs hlo hlol hNPe hW hg hnk
   go_wp2;obtain ⟨W3,hW3⟩ : ∃ W3,W3 = w2.alloc (.cells #[] 25) := ⟨_,rfl⟩;have E3 : Ext w2 W3 := by rw [hW3];exact Ext.alloc _ _
   have O3 : W3.ownsRow w2.heap.size 25 1 (.slice (some ⟨w2.heap.size,0,none⟩) 0 0) 0 [] := by rw [hW3];exact World.ownsRow_made w2 #[] 0 (Nat.le_refl _) (by decide) rfl
   rw [← hW3];clear hW3;go_loopw [16,38] (fun ov iv wr => ∃ (i : Nat) (css : List (List Value)) (bss : List (List Nat)),i ≤ nk ∧ iv = .int .i64 (i : Int) ∧ jax wr w2.heap.size 25 (.sl .flt) ov (onesL (lo.take i)) css bss ∧ Ext w2 wr) (fun _ iv _ => nk - (intOf iv).toNat)
   case atStart => exact ⟨0,[],[],by omega,rfl,jax.empty O3,E3⟩
   case round =>
    clear O3 E3;obtain ⟨i,css1,bss1,hi,rfl,hG,he⟩ := hrel
    by_cases hlt : i < nk
    · have hcs := hLO.ext he
      have Hln := hid (HLT.out i hi);have Hon := hid (HTK.out i hlt);have hrow := hG.row;rw [Hln.out] at hrow;have hsz := he.size;go_wp2_with (first | ((with_reducible show gx2);refine jc1 rfl rfl rfl rfl (fun _ => rfl) rfl rfl hcs hLF HLN.out (by omega) (by omega) ?_;intro r0 g0;rw [Int.toNat_natCast] at g0;have G0 := hid g0;clear g0) | ((with_reducible show gx10);refine jav (u := .slice (some ⟨wr.heap.size,0,none⟩) 1 1) rfl rfl rfl rfl rfl (by rfl) (by rfl) (fun _ => rfl) (fun _ => rfl) (jai hrow (Ext.alloc _ _)) (by unfold maxLen;omega) (by omega) (by simp;omega) ?_;intro g6 c6 w6 h6 gr6 hw6) | fail);go_roundw
      case rel =>
       have I := hG.snoc (Ext.alloc wr _) (own_flt1 r0 G0.out) (by simp) (by simp) he.size Hln.out h6 gr6 hw6;rw [← Hon.out] at I;exact ⟨i + 1,_,_,by omega,by go_num,I,(he.trans (Ext.alloc wr _)).grown gr6 (jar hrow)⟩
      case measure => simp [intOf];omega
    · obtain rfl : i = nk := by omega
      obtain ⟨po,co,uo,rfl,FLo,hco⟩ := grow_fls hG;have hlo2 := HLT.out i (Nat.le_refl _);rw [hlo2] at FLo hco ⊢;rw [HTN.out] at FLo;have eD := Ext.drew wr;have C1 := hid (fun W (h : Ext wr W) => lReduceLists.reduce_any kd pv i cv NP uv Ls W hkk (FLs.ext (he.trans h)) hk1 hk8 hcv HEv.out hNP);have C2 := hid (fun W (h : Ext wr W) => lReduceLists.reduce_any kd po i co 1 uo (onesL lo) W hkk (FLo.ext h) hk1 hk8 hco HEo.out (by decide));obtain ⟨RL,hRL⟩ : ∃ x,redF kd Ls = x := ⟨_,rfl⟩;obtain ⟨RO,hRO⟩ : ∃ x,redF kd (onesL lo) = x := ⟨_,rfl⟩;rw [hRL] at C1;rw [hRO] at C2;have HRL := hid hRL;have HRO := hid hRO;have HN1 := hid (show RL.length = NP by rw [← hRL];exact HEv.out.red (by rw [FLs.len];exact hk1) kd);have HN2 := hid (show RO.length = 1 by rw [← hRO];exact HEo.out.red (by rw [FLo.len];exact hk1) kd);clear hRL hRO hG hlo2 FLo FLs;go_wp2;refine jau (n := 10) (S := fun W => Ext wr.drew W) (by kernel_rfl) rfl ?_;have hS0 : Ext wr.drew wr.drew := Ext.refl _;refine jad (k := 0) (.int .i64 kd) (by kernel_rfl) rfl rfl (fun _ _ _ h => h) hS0 (fun W hW => by go_simp) ?_;simp only [Act.put,jab,pu1,pu2,pu3,pu4,pu5];refine jad (k := 1) (.slice pv i cv) (by kernel_rfl) rfl rfl (fun _ _ _ h => h) hS0 (fun W hW => by go_simp) ?_;simp only [Act.put,jab,pu1,pu2,pu3,pu4,pu5];refine jad (k := 3) (.int .i64 kd) (by kernel_rfl) rfl rfl (fun _ _ _ h => h) hS0 (fun W hW => by go_simp) ?_;simp only [Act.put,jab,pu1,pu2,pu3,pu4,pu5];refine jad (k := 4) (.slice po i co) (by kernel_rfl) rfl rfl (fun _ _ _ h => h) hS0 (fun W hW => by go_simp) ?_;simp only [Act.put,jab,pu1,pu2,pu3,pu4,pu5];refine jas (k := 2) (by kernel_rfl) ?_;refine ja0 (f := 43) (args := #[.int .i64 kd,.slice pv i cv]) rfl rfl rfl Tryz.func43 rfl (by kernel_rfl) (by simp [Act.eval]) (C1.out wr.drew eD) ?_;rintro e W4 ⟨q5,c5,vs5,rfl,o5,f5,e4⟩
      rw [HN1.out] at o5 ⊢;refine ⟨_,rfl,e4,?_⟩;simp only [Act.put,jab,pu1,pu2,pu3,pu4,pu5];refine jas (k := 5) (by kernel_rfl) ?_;refine ja0 (f := 43) (args := #[.int .i64 kd,.slice po i co]) rfl rfl rfl Tryz.func43 rfl (by kernel_rfl) (by simp [Act.eval]) (C2.out W4 (eD.trans e4)) ?_;rintro e W5 ⟨q6,c6,vs6,rfl,o6,f6,e5⟩
      rw [HN2.out] at o6 ⊢;have hS5 : Ext wr.drew W5 := e4.trans e5;refine ⟨_,rfl,hS5,?_⟩;simp only [Act.put,jab,pu1,pu2,pu3,pu4,pu5];refine jad (k := 8) (.slice q5 NP c5) (by kernel_rfl) rfl rfl (fun _ _ _ h => h) hS5 (fun W hW => by go_simp) ?_;simp only [Act.put,jab,pu1,pu2,pu3,pu4,pu5];obtain ⟨rb,hr1,hr2⟩ := f6.2 0 (by rw [HN2.out];decide);have cs6 := jbr o6;have hq6 : q6.isSome = true := cs6.isS (by intro h;rw [h] at hr1;simp at hr1);have hcell := cs6.cell 0 _ hr1;have Hr2 := hid hr2;clear hr2;refine jas (k := 6) (by kernel_rfl) ?_;refine jb3 (v := .pointer (some (adr q6 0))) (w' := W5) rfl rfl (by simp [execOp,Act.eval,run_indexAt (P := Tryz.prog) (t := 25) (s := 1) hq6 (show (0 : Int) ≤ 0 by decide) (show (0 : Int) < ((1 : Nat) : Int) by decide)]) ?_;refine ⟨hS5,?_⟩;simp only [Act.put,jab,pu1,pu2,pu3,pu4,pu5];refine jas (k := 7) (by kernel_rfl) ?_;refine jb3 (v := .float .f32 rb) (w' := W5) rfl rfl (by simp [execOp,Act.eval,jc5 hcell]) ?_;refine ⟨hS5,?_⟩;simp only [Act.put,jab,pu1,pu2,pu3,pu4,pu5];refine jas (k := 9) (by kernel_rfl) ?_;refine jb3 (v := .float .f32 rb) (w' := W5) rfl rfl (by go_simp) ?_;refine ⟨hS5,?_⟩;simp only [Act.put,jab,pu1,pu2,pu3,pu4,pu5];refine jbe (k := 10) (by kernel_rfl) rfl ?_;go_wp2;refine bodyPost_ret (results_tmp3 (t := 10) (u := 11) (v := 12) (by kernel_rfl) _ _ _) rfl ?_;refine ⟨Or.inr ⟨?_,q5,c5,rb,vs5,?_,?_,?_,?_,?_⟩,((E0.trans e1).trans he).trans (eD.trans hS5)⟩
      · unfold sgB;rw [HGG.out,hkk];rfl
      · rw [HNP.out];rfl
      · unfold sgList;rw [HWK.out,HLs.out,HRL.out,HN1.out,HNP.out]
      · rw [HNP.out];exact jao (jai o5 e5) (((E0.trans e1).trans he).trans eD).size
      · unfold sgList;rw [HWK.out,HLs.out,HRL.out];exact f5
      · unfold sgLoss;rw [HWK.out,Hlo.out,HRO.out];exact Hr2.out
def spl (f : Nat → Value) (p : Nat → Bool) : Nat → List Value → List Value
 | _,[] => []
 | j,x :: l => (bif p j then f j else x) :: spl f p (j + 1) l
def CutP (p : Nat → Bool) (F : World → Prop) (l : List Value) (ds : List Deferred) (ex : Exit) (a' : Act) (w' : World) : Prop := ex = .normal ∧ (∃ f,a' = ⟨(spl f p 0 l).toArray,ds⟩) ∧ F w'
theorem wp_cutS {P : Program} {Q : Exit → Act → World → Prop} {w : World} {c : Code} {l : List Value} {ds : List Deferred} (p : Nat → Bool) (F : World → Prop)
 (h1 : c.wp P (CutP p F l ds) ⟨l.toArray,ds⟩ w) (h2 : ∀ f w',F w' → Q .normal ⟨(spl f p 0 l).toArray,ds⟩ w') : c.wp P Q ⟨l.toArray,ds⟩ w :=
 Code.wp_mono (fun ex a w h => by obtain ⟨rfl,⟨f,rfl⟩,hF⟩ := h;exact h2 f w hF) h1
theorem jdm {p : Nat → Bool} {l l' : List Value} {ds : List Deferred} {F : World → Prop} {w : World} (hf : l' = spl (fun j => l'.getD j undef) p 0 l) (h : F w) : CutP p F l ds .normal ⟨l'.toArray,ds⟩ w :=
 ⟨rfl,⟨_,by rw [← hf]⟩,h⟩
theorem box4 {w W0 : World} {A B C D : Array Value} {ta tb tc td : TypeId} (h : W0 = (((w.alloc (.cells A ta)).alloc (.cells B tb)).alloc (.cells C tc)).alloc (.cells D td)) : Ext w W0 ∧ W0.heap.size = w.heap.size + 4 ∧ HB W0 w.heap.size A ta ∧ HB W0 (w.heap.size + 1) B tb ∧ HB W0 (w.heap.size + 1 + 1) C tc ∧ HB W0 (w.heap.size + 1 + 1 + 1) D td := by
 subst h;obtain ⟨h1,h2,h3,h4,h5⟩ := box3 (w := w) (A := A) (B := B) (C := C) (ta := ta) (tb := tb) (tc := tc) rfl;have e3 := Ext.alloc (((w.alloc (.cells A ta)).alloc (.cells B tb)).alloc (.cells C tc)) (.cells D td);have k3 : HB _ _ _ _ := h3;have k4 : HB _ _ _ _ := h4;have k5 : HB _ _ _ _ := h5;refine ⟨h1.trans e3,by simp,k3.ext e3,k4.ext e3,k5.ext e3,?_⟩;have hs : (((w.alloc (.cells A ta)).alloc (.cells B tb)).alloc (.cells C tc)).heap.size = w.heap.size + 1 + 1 + 1 := by simp
 have h := HB.new (((w.alloc (.cells A ta)).alloc (.cells B tb)).alloc (.cells C tc)) D td;rw [hs] at h;exact h
theorem box6 {w W0 : World} {A B C D E F : Array Value} {ta tb tc td te tf : TypeId} (h : W0 = (((((w.alloc (.cells A ta)).alloc (.cells B tb)).alloc (.cells C tc)).alloc (.cells D td)).alloc (.cells E te)).alloc (.cells F tf)) : Ext w W0 ∧ W0.heap.size = w.heap.size + 6 ∧ HB W0 w.heap.size A ta ∧ HB W0 (w.heap.size + 1) B tb ∧ HB W0 (w.heap.size + 1 + 1) C tc ∧ HB W0 (w.heap.size + 1 + 1 + 1) D td ∧ HB W0 (w.heap.size + 1 + 1 + 1 + 1) E te ∧ HB W0 (w.heap.size + 1 + 1 + 1 + 1 + 1) F tf := by
 obtain ⟨W4,h4⟩ : ∃ W4,W4 = (((w.alloc (.cells A ta)).alloc (.cells B tb)).alloc (.cells C tc)).alloc (.cells D td) := ⟨_,rfl⟩;rw [← h4] at h;obtain ⟨e4,s4,k1,k2,k3,k4⟩ := box4 h4;have e5 := Ext.alloc W4 (.cells E te);have e6 := Ext.alloc (W4.alloc (.cells E te)) (.cells F tf);have k5 := HB.new W4 E te;have k6 := HB.new (W4.alloc (.cells E te)) F tf;have s5 : (W4.alloc (.cells E te)).heap.size = W4.heap.size + 1 := by simp
 rw [s5,s4] at k6;rw [s4] at k5;subst h;exact ⟨e4.trans (e5.trans e6),by simp [s4],(k1.ext e5).ext e6,(k2.ext e5).ext e6,(k3.ext e5).ext e6,(k4.ext e5).ext e6,k5.ext e6,k6⟩
end Go.Proofs.YtlimabbeaimdgaaGreat
