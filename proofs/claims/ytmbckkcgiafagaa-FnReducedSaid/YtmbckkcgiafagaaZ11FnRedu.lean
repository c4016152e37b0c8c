/- A part of the proofs: RedN, RedB, AggW, RLst, CpyS. -/
import Derived.Test.YtmbckkcgiafagaaZ10FnRedu
import Derived.Test.YtmbckkcgiafagaaZ06FnRedu
import Derived.Test.YtmbckkcgiafagaaZ07FnRedu
import Derived.Test.YtmbckkcgiafagaaZ08FnRedu
import Derived.Test.YtmbckkcgiafagaaZ03FnRedu
import Derived.Test.YtmbckkcgiafagaaZ02FnRedu
set_option linter.unusedSimpArgs false
set_option linter.unusedVariables false
set_option maxRecDepth 100000
set_option maxHeartbeats 16000000
namespace Go.Proofs.Ytmbckkcgiafagaa
open Go.RowKit
structure Nx (w : World) (v : Value) (m : Nat) (us : List Value) (l : List (List Nat)) : Prop where
 at' : ∀ i,i < m → ∃ q c vs,us[i]? = some (.slice q (l.getD i []).length c) ∧ Cs w q vs ∧ F32s vs (l.getD i []) ∧ (l.getD i []).length ≤ c ∧ (vs ≠ [] → ∀ b,v.ownBlock = some b → (adr q 0).block ≠ b)
 len : l.length = m
 cnt : us.length = m
theorem Nx.ext {w w' : World} {v : Value} {m : Nat} {us : List Value} {l : List (List Nat)} (h : Nx w v m us l) (e : Ext w w') : Nx w' v m us l :=
 ⟨fun i hi => by obtain ⟨q,c,vs,h1,h2,h3,h4,h5⟩ := h.at' i hi;exact ⟨q,c,vs,h1,h2.ext e,h3,h4,h5⟩,h.len,h.cnt⟩
theorem Nx.nil {w : World} {v : Value} : Nx w v 0 [] [] := ⟨fun i hi => by omega,rfl,rfl⟩
theorem Nx.snoc {w w' : World} {v : Value} {m : Nat} {us : List Value} {l : List (List Nat)} (h : Nx w v m us l) {q : Option Addr} {k c : Nat} {vs : List Value} {x : List Nat} (hk : x.length = k) (hc : Cs w q vs) (hf : F32s vs x) (hkc : k ≤ c)
 (hn : vs ≠ [] → ∀ b,v.ownBlock = some b → (adr q 0).block ≠ b) {g c9 : Nat} (gr : w.grownBy w' v.ownBlock) (hg : v.ownBlock = some g ∨ w.heap.size ≤ g) : Nx w' (.slice (some ⟨g,0,none⟩) (m + 1) c9) (m + 1) (us ++ [.slice q k c]) (l ++ [x]) := by
 subst hk
 have keep : ∀ {p : Option Addr} {ws : List Value},Cs w p ws → (ws ≠ [] → ∀ b,v.ownBlock = some b → (adr p 0).block ≠ b) → Cs w' p ws ∧ (ws ≠ [] → ∀ b,(Value.slice (some ⟨g,0,none⟩) (m + 1) c9).ownBlock = some b → (adr p 0).block ≠ b) := by
  intro p ws h1 h2;refine ⟨h1.keep fun h3 => gr.block _ (h1.blk h3) (fun hh => h2 h3 _ hh.symm rfl),fun h3 b hb => ?_⟩;simp [Value.ownBlock] at hb;subst hb;rcases hg with hg | hg
  · exact h2 h3 _ hg
  · have := h1.blk h3;omega
 refine ⟨fun i hi => ?_,by rw [List.length_append,h.len];rfl,by rw [List.length_append,h.cnt];rfl⟩
 by_cases hm : i < m
 · obtain ⟨p,d,ws,h1,h2,h3,h4,h5⟩ := h.at' i hm
   have e : (l ++ [x]).getD i [] = l.getD i [] := by rw [List.getD_eq_getElem?_getD,List.getD_eq_getElem?_getD,List.getElem?_append_left (by rw [h.len];exact hm)]
   obtain ⟨k1,k2⟩ := keep h2 h5;rw [e];exact ⟨p,d,ws,by rw [List.getElem?_append_left (by rw [h.cnt];exact hm)];exact h1,k1,h3,h4,k2⟩
 · obtain rfl : i = m := by omega
   have e : (l ++ [x]).getD i [] = x := by rw [List.getD_eq_getElem?_getD,List.getElem?_append_right (by rw [h.len];exact Nat.le_refl _),h.len,Nat.sub_self];rfl
   obtain ⟨k1,k2⟩ := keep hc hn;rw [e];exact ⟨q,c,vs,by rw [List.getElem?_append_right (by rw [h.cnt];exact Nat.le_refl _),h.cnt,Nat.sub_self];rfl,k1,hf,hkc,k2⟩
theorem Nx.fls {w : World} {q : Option Addr} {m c B : Nat} {us : List Value} {l : List (List Nat)} {e : TypeId} (h : Nx w (.slice q m c) m us l) (o : w.ownsRow B e 1 (.slice q m c) m us) : Fls w q m us l :=
 ⟨jbi o,fun i hi => by obtain ⟨q,c,vs,h1,h2,h3,h4,_⟩ := h.at' i hi;exact ⟨q,c,vs,h1,h2,h3,h4⟩,h.len,h.cnt⟩
theorem drop_at {us : List Value} (t : Nat) : (us.drop 1)[t]? = us[t + 1]? := by rw [List.getElem?_drop,Nat.add_comm]
theorem Fls.tail {w : World} {p : Option Addr} {n c : Nat} {us : List Value} {l : List (List Nat)} (h : Fls w p n us l) (h1 : 1 ≤ n) (hc : n ≤ c) : Cs w (subp p 1 1 c) (us.drop 1) := by
 have := h.cs.sub (s := 1) (l := 1) (hi := n) (c := c) h1 hc
 rwa [Nat.mul_one,Nat.mul_one,List.take_of_length_le (by rw [h.cnt];exact Nat.le_refl _)] at this
theorem reduce_line (p : Option Addr) (n c N : Nat) (us : List Value) (l : List (List Nat)) (w : World) (F0 : Fls w p n us l) (hn1 : 1 ≤ n) (hn : n ≤ 8) (hc : n ≤ c) (hE : EvenL l N) (hN : N ≤ 1048576) :
 Calls Try.prog 53 #[.int .i64 0,.slice p n c] w (RetFl w (redF 0 l)) := by
 have Hcnt := hid F0.cnt;have HR := hid (show redF 0 l = lineF l (n - 1) from by rw [lineF_last (by decide) (by decide),F0.len]);have Hs := hid (fun t (h : t + 1 < n) => lineF_succ l (t := t) (by rw [F0.len];exact h));have H0 := hid (lineF_zero l);have HLn := hid (fun t => show (lineF l t).length = N from by unfold lineF;rw [jay];exact hE 0 (by rw [F0.len];exact hn1));have HEl := hid (fun t (h : t < n) => hE t (by rw [F0.len];exact h));obtain ⟨q0,c0,vs0,a1,a2,a3,a4⟩ := F0.at' 0 (by omega);rw [HEl.out 0 (by omega)] at a1 a4;have C0 := hid (fun W (h : Ext w W) => cloneF_any q0 N c0 vs0 (l.getD 0 []) W (HEl.out 0 (by omega)) (by omega) a4 (a2.ext h) a3);have HA := hid a1;have hp := F0.cs;have ht := F0.tail hn1 hc;have HAt := hid F0.at';obtain ⟨n1,hn1e⟩ : ∃ n1,n1 = n - 1 := ⟨_,rfl⟩;obtain ⟨c1',hc1e⟩ : ∃ c1,c1 = c - 1 := ⟨_,rfl⟩;have hdl : (us.drop 1).length = n1 := by rw [List.length_drop,F0.cnt,hn1e]
 rw [← hn1e] at HR;have HN1 := hid hn1e;have HC1 := hid hc1e;have Hdl := hid hdl;have hn7 : n1 + 1 = n := by omega
 have HN7 := hid hn7;clear F0 hE a1 a2 a3 a4 hn1e hc1e hdl hn7;go_enter Try.func53,Try.ntmps53;go_wp2_with ((with_reducible show gx0);refine jag rfl rfl rfl rfl (fun _ => rfl) rfl rfl hp Hcnt.out (by omega) (by omega) ?_;intro u hu;replace hu := HA.out.symm.trans hu;cases hu);refine (C0.out _ (Ext.refl _)).mono ?_;rintro e w1 ⟨q1,c1,ws,rfl,own0,hF,e0⟩
 rw [HEl.out 0 (by omega)] at own0 ⊢;rw [← H0.out] at hF;have HF := hid hF;clear hF;go_wp2_with (refine wl_sliceFrom (l := 1) rfl rfl rfl rfl rfl (by omega) (by omega) ?_;rw [← HN1.out,← HC1.out]);go_loopw [5,25] (fun ov iv wr => ∃ (t : Nat) (q1 : Option Addr) (c1 : Nat) (ws : List Value),t ≤ n1 ∧ iv = .int .i64 t ∧ ov = .slice q1 N c1 ∧ wr.ownsRow w.heap.size 33 1 (.slice q1 N c1) N ws ∧ Hid (F32s ws (lineF l t)) ∧ Ext w wr) (fun _ iv _ => n1 - (intOf iv).toNat)
 case atStart => exact ⟨0,q1,c1,ws,by omega,rfl,rfl,own0,HF,e0⟩
 case round =>
  clear own0 HF e0;obtain ⟨t,q1,c1,ws,hi,rfl,rfl,own0,HF,he⟩ := hrel;have hB := he.size
  by_cases hlt : t < n1
  · have htn : t + 1 < n := by have := HN7.out;omega
    obtain ⟨qe,ce,vse,b1,b2,b3,b4⟩ := HAt.out (t + 1) htn;rw [HEl.out _ htn] at b1 b4;rw [← drop_at] at b1;have HB1 := hid b1;have C1 := hid (addLists_any q1 qe N c1 ce ws vse (lineF l t) (l.getD (t + 1) []) wr (HLn.out t) (HEl.out _ htn) hN (jas own0).1 (jbi own0) HF.out (b2.ext he) b3);rw [← Hs.out t htn] at C1;have kt := ht.ext he;clear b1 b2 b3 b4;go_wp2_with ((with_reducible show gx0);refine jag rfl rfl rfl rfl (fun _ => rfl) rfl rfl kt Hdl.out (by omega) (by omega) ?_;intro u hu;rw [Int.toNat_natCast] at hu;replace hu := HB1.out.symm.trans hu;cases hu);refine C1.out.mono ?_;rintro e w3 ⟨q3,c3,ws3,rfl,own3,hF3,e3⟩
    rw [HLn.out] at own3 ⊢;have HF3 := hid hF3;clear hF3;go_wp2;go_roundw
    case rel => exact ⟨t + 1,q3,c3,ws3,by omega,by go_num,rfl,ja6 own3 hB,HF3,he.trans e3⟩
    case measure => simp [intOf];omega
  · obtain rfl : t = n1 := by omega
    go_wp2;go_ret;rw [HR.out];exact retFl_own (HLn.out _) own0 HF.out rfl he
theorem reduce_tree (p : Option Addr) (n c N : Nat) (us : List Value) (l : List (List Nat)) (w : World) (F0 : Fls w p n us l) (hn1 : 1 ≤ n) (hn : n ≤ 8) (hc : n ≤ c) (hE : EvenL l N) (hN : N ≤ 1048576) :
 Calls Try.prog 53 #[.int .i64 1,.slice p n c] w (RetFl w (redF 1 l)) := by
 have HR := hid (show redF 1 l = treeF l from rfl);have HRl := hid (show (treeF l).length = N from hE.tree rfl (by rw [F0.len];exact hn1));obtain ⟨R,hR⟩ : ∃ R,R = treeF l := ⟨_,rfl⟩;rw [← hR] at HR HRl;have HTr := hid hR.symm;have HE := hid hE;clear hE hR;go_enter Try.func53,Try.ntmps53;go_wp2_with fail;go_loopw [1] (fun lv wr => ∃ (n' c' : Nat) (q' : Option Addr) (us' : List Value) (l' : List (List Nat)),lv = .slice q' n' c' ∧ 1 ≤ n' ∧ n' ≤ 8 ∧ n' ≤ c' ∧ Fls wr q' n' us' l' ∧ Hid (EvenL l' N) ∧ Hid (treeF l' = R) ∧ Ext w wr) (fun lv _ => match lv with | .slice _ m _ => m | _ => 0)
 case atStart => exact ⟨n,c,p,us,l,rfl,hn1,hn,hc,F0,HE,HTr,Ext.refl _⟩
 case round =>
  clear F0 HE HTr hn1 hn hc;obtain ⟨n',c',q',us',l',rfl,hn1,hn8,hnc,F1,HE,HTr,he⟩ := hrel;have Hcnt := hid F1.cnt;have HEl := hid (fun t (h : t < n') => HE.out t (by rw [F1.len];exact h));have HAt := hid F1.at';have hB := he.size
  by_cases hlt : 1 < n'
  · have HTr2 := hid (show treeF (pairF l') = R from by rw [← treeF_pair (by rw [F1.len];exact hlt)];exact HTr.out)
    have HE2 := hid HE.out.pair;have Hp := hid (show pairF l' = ltab ((n' + 1) / 2) (prF l') from by unfold pairF;rw [F1.len]);have Hpr := hid (fun j (h : 2 * j + 1 < n') => show prF l' j = addF (l'.getD (2 * j) []) (l'.getD (2 * j + 1) []) from by unfold prF;rw [if_pos (by rw [F1.len];exact h)]);have Hpn := hid (fun j (h : ¬ 2 * j + 1 < n') => show prF l' j = l'.getD (2 * j) [] from by unfold prF;rw [if_neg (by rw [F1.len];exact h)]);have hp := F1.cs;have hst : (wr.alloc (.cells #[] 25)).ownsRow wr.heap.size 25 1 (.slice (some ⟨wr.heap.size,0,none⟩) 0 0) 0 [] := World.ownsRow_made wr #[] 0 (Nat.le_refl _) (by decide) rfl;have e3 := Ext.alloc wr (.cells #[] 25);obtain ⟨wo,hwo⟩ : ∃ wo,wo = wr := ⟨_,rfl⟩;rw [← hwo] at he HAt hp hB hst e3;have hdec : decide ((1 : Int) < (n' : Int)) = true := by simp;omega
    clear F1 HE HTr;go_wp2_with fail;rw [← hwo];clear hwo;go_loopw [8,9] (fun nv iv wr => ∃ (i m : Nat) (q8 : Option Addr) (c8 : Nat) (us8 : List Value),Hid (i = 2 * m) ∧ i ≤ n' + 1 ∧ m ≤ 5 ∧ iv = .int .i64 i ∧ nv = .slice q8 m c8 ∧ wr.ownsRow wo.heap.size 25 1 (.slice q8 m c8) m us8 ∧ Hid (Nx wr (.slice q8 m c8) m us8 (ltab m (prF l'))) ∧ Ext wo wr) (fun _ iv _ => n' + 1 - (intOf iv).toNat)
    case atStart => exact ⟨0,0,_,_,[],rfl,by omega,by omega,rfl,rfl,hst,Nx.nil,e3⟩
    case round =>
     clear hst e3;obtain ⟨i,m,q8,c8,us8,Him,hi,hm5,rfl,rfl,own8,HNx,e8⟩ := hrel;have hB8 := e8.size
     by_cases hlt2 : i < n'
     · obtain ⟨qa,ca,vsa,a1,a2,a3,a4⟩ := HAt.out i hlt2
       rw [HEl.out i hlt2] at a1 a4;have HA1 := hid a1;have hpa : vsa ≠ [] → ∀ b,(Value.slice q8 m c8).ownBlock = some b → (adr qa 0).block ≠ b := fun h b hb => by have := a2.blk h;have := jak own8 b hb;omega
       have kp := hp.ext e8;have Hm1 := hid (ltab_succ m (prF l'));have hm4 : m + 1 ≤ 5 := by have := Him.out;omega
       clear a1
       by_cases hlt3 : i + 1 < n'
       · obtain ⟨qb,cb,vsb,b1,b2,b3,b4⟩ := HAt.out (i + 1) hlt3
         rw [HEl.out _ hlt3] at b1 b4;have HB1 := hid b1;have HW := hid (show IntKind.i64.wrap ((i : Int) + 1) = ((i + 1 : Nat) : Int) from by rw [show (i : Int) + 1 = ((i + 1 : Nat) : Int) by omega];exact jau _ (by omega) (by omega));have hpr := Hpr.out m (by have := Him.out;omega);have hxl : (addF (l'.getD i []) (l'.getD (i + 1) [])).length = N := by rw [addF_len];exact HEl.out i hlt2
         rw [← Him.out] at hpr;have HPR := hid hpr;have HXL := hid hxl;have C1 := hid (fun W (h : Ext wr W) => (addLists_any qa qb N ca cb vsa vsb (l'.getD i []) (l'.getD (i + 1) []) W (HEl.out i hlt2) (HEl.out _ hlt3) hN a4 (a2.ext (e8.trans h)) a3 (b2.ext (e8.trans h)) b3).mono fun e w3 h3 => h3.is);obtain ⟨F,hF⟩ : ∃ F : Option Tmp → World → Value → Prop,F = fun _ w' u => IsFl wr.heap.size (addF (l'.getD i []) (l'.getD (i + 1) [])) w' u := ⟨_,rfl⟩
         have HF := hid hF;clear b1 hpr hxl hF;have eD := Ext.drew wr;have kq := kp.ext eD;go_wp2;refine wp_region_xt 12 (F := F) (by kernel_rfl) (by kernel_rfl) (by kernel_rfl) (by kernel_rfl) (by kernel_rfl) ?_;intro wf hwf;simp only [pw1,pw2,pw3,pw4]
         repeat (first
          | ((first | (refine jav rfl ?_) | (refine x_mv rfl rfl rfl ?_) | (refine x_as rfl rfl rfl ?_) | ((with_reducible show gx1);first | (refine x_idxload rfl rfl (fun _ => rfl) rfl (fun _ => rfl) rfl rfl kq Hcnt.out (by omega) (by omega) ?_;intro u hu;rw [Int.toNat_natCast] at hu;replace hu := HA1.out.symm.trans hu;cases hu) | (refine x_idxload rfl rfl (fun _ => rfl) rfl (fun _ => rfl) rfl rfl kq Hcnt.out (by rw [HW.out];omega) (by rw [HW.out];omega) ?_;intro u hu;rw [HW.out,Int.toNat_natCast] at hu;replace hu := HB1.out.symm.trans hu;cases hu)) | ((with_reducible show gx12);refine jax (f := 94) (args := #[.slice qa N ca,.slice qb N cb]) rfl rfl Try.func94 rfl (by kernel_rfl) ?_ ?_ ?_;(focus (simp [Act.eval];done));(focus (intro w1 hw1;exact (by rw [HF.out];exact (C1.out w1 (eD.trans hw1)).mono fun e w3 ⟨u,h1,h2,h3⟩ => ⟨u,h1,h2,IsFl.base h3 (by have := (eD.trans hw1).size;omega)⟩)));rintro u w3 e3 e4 hu;simp only [HF.out] at hu;obtain ⟨qx,cx,vsx,rfl,ox,fx⟩ := IsFl.ext hu e4;rw [HXL.out] at ox ⊢;have FX := hid fx;clear fx hu) | (refine x_build1 (u := .slice qx N cx) rfl rfl rfl rfl ?_;intro g5 hg5 hg6 hg7));simp only [Act.put,jai,pu1,pu2,pu3,pu4,pu5])
          | (refine x_run rfl fun K hK w1 hw1 => ?_;go_simp;refine hK _ ?_;clear hK K  hw1 w1))
         refine x_nil ?_;have eW := eD.trans hwf;have own9 := jaj own8 eW;have hN9 := (HNx.out).ext eW;have HN9 := hid hN9;have hox := jak ox;have hsz9 := eW.size;have hlt8 := own_lt own8;clear hN9;go_wp2_with ((with_reducible show gx5);refine wl_app1s rfl rfl rfl rfl own9 hg7 rfl (fun u hu => by simp [Value.cells] at hu;subst hu;rfl) (by unfold maxLen;omega) (by omega) (by omega) ?_;intro g6 c6 w6 own6 gr6 hg6');go_roundw
         case rel =>
          refine ⟨i + 2,m + 1,_,c6,us8 ++ [.slice qx N cx],?_,by omega,by omega,by go_num,rfl,own6,?_,(e8.trans eW).grown gr6 (fun kk hk => by have := jak own8 kk hk;omega)⟩
          · rw [Hid];have := Him.out;omega
          · rw [Hid,Hm1.out,HPR.out]
            exact HN9.out.snoc HXL.out (jbi ox) FX.out (jas ox).1 (fun h b hb => by
             have h1 := hlt8 b hb
             cases qx with
             | none => have := (jbi ox).isS h;simp at this
             | some a => have := hox _ rfl;show a.block ≠ b;omega) gr6 hg6'
         case measure => simp [intOf];omega
       · have hin : i + 1 = n' := by omega
         have HIN := hid hin;have hpr := Hpn.out m (by have := Him.out;omega);rw [← Him.out] at hpr;have HPR := hid hpr;clear hin hpr;have HN9 := HNx;go_wp2_with (first | ((with_reducible show gx0);refine jag rfl rfl rfl rfl (fun _ => rfl) rfl rfl kp Hcnt.out (by omega) (by omega) ?_;intro u hu;rw [Int.toNat_natCast] at hu;replace hu := HA1.out.symm.trans hu;cases hu) | ((with_reducible show gx6);refine ja5 (u := .slice qa N ca) rfl rfl rfl rfl rfl (by rfl) (by rfl) (fun _ => rfl) (fun _ => rfl) own8 (by unfold maxLen;omega) (by omega) (by omega) ?_;intro g6 c6 w6 own6 gr6 hg6'));go_roundw
         case rel =>
          refine ⟨i + 2,m + 1,_,c6,us8 ++ [.slice qa N ca],?_,by omega,by omega,by go_num,rfl,own6,?_,e8.grown gr6 (fun kk hk => by have := jak own8 kk hk;omega)⟩
          · rw [Hid];have := Him.out;omega
          · rw [Hid,Hm1.out,HPR.out]
            exact HN9.out.snoc (HEl.out i hlt2) (a2.ext e8) a3 a4 hpa gr6 (hg6'.imp id (fun h => by omega))
         case measure => simp [intOf];omega
     · have hmm : m = (n' + 1) / 2 := by have := Him.out;omega
       have Hmm := hid hmm;have hm1 : 1 ≤ m := by omega
       have hml : m < n' := by omega
       have hm8 : m ≤ 8 := by omega
       have hF := (HNx.out).fls own8;have hcap := (jas own8).1;clear hmm;go_wp2;go_roundw
       case rel => exact ⟨m,c8,q8,us8,ltab m (prF l'),rfl,hm1,hm8,hcap,hF,by have := HE2.out;rw [Hp.out,← Hmm.out] at this;exact this,by have := HTr2.out;rw [Hp.out,← Hmm.out] at this;exact this,he.trans e8⟩
       case measure => simp;omega
  · obtain rfl : n' = 1 := by omega
    obtain ⟨qa,ca,vsa,a1,a2,a3,a4⟩ := HAt.out 0 (by omega);have hl0 : l'.getD 0 [] = R := by rw [← HTr.out,treeF_one (by rw [F1.len];exact Nat.le_refl _)]
    rw [hl0] at a1 a3 a4;rw [HRl.out] at a1 a4;have HA1 := hid a1;have C0 := hid (cloneF_any qa N ca vsa R wr HRl.out (by omega) a4 a2 a3);have hp := F1.cs;clear a1 hl0;go_wp2_with ((with_reducible show gx0);refine jag rfl rfl rfl rfl (fun _ => rfl) rfl rfl hp Hcnt.out (by omega) (by omega) ?_;intro u hu;replace hu := HA1.out.symm.trans hu;cases hu);refine C0.out.mono ?_;rintro e w1 ⟨q1,c1,ws,rfl,own0,hF,e0⟩
    go_wp2;go_ret;rw [HR.out];exact ⟨q1,c1,ws,rfl,ja6 own0 hB,hF,he.trans e0⟩
theorem reduce_ring (p : Option Addr) (n c N : Nat) (us : List Value) (l : List (List Nat)) (w : World) (F0 : Fls w p n us l) (hn1 : 1 ≤ n) (hn : n ≤ 8) (hE : EvenL l N) (hN : N ≤ 1048576) :
 Calls Try.prog 53 #[.int .i64 2,.slice p n c] w (RetFl w (redF 2 l)) := by
 have Hcnt := hid F0.cnt;have HEl := hid (fun t (h : t < n) => hE t (by rw [F0.len];exact h));have HAt := hid F0.at';obtain ⟨o,ho⟩ : ∃ o : Nat → Nat,o = fun j => sumK l (fstR 2 n j) j (n - 1) := ⟨_,rfl⟩
 have HR := hid (show redF 2 l = tab N o from by rw [ho];unfold redF;rw [if_neg (by decide)];unfold ringF;rw [hE 0 (by rw [F0.len];exact hn1),F0.len]);have HO := hid (fun j => show o j = sumK l (j % n) j (n - 1) from by rw [ho];rfl);have HS := hid (fun f j i => show sumK l f j (i + 1) = fop .add .f32 (sumK l f j i) ((l.getD ((f + i + 1) % n) []).getD j 0) from by rw [← F0.len];rfl);have HS0 := hid (fun f j => show sumK l f j 0 = (l.getD f []).getD j 0 from rfl);have hp := F0.cs;obtain ⟨q0,c0,vs0,a1,a2,a3,a4⟩ := F0.at' 0 (by omega);rw [HEl.out 0 (by omega)] at a1;have HA0 := hid a1;have hst : (w.alloc (.cells #[] 33)).ownsRow w.heap.size 33 1 (.slice (some ⟨w.heap.size,0,none⟩) 0 0) 0 [] := World.ownsRow_made w #[] 0 (Nat.le_refl _) (by decide) rfl;have e3 := Ext.alloc w (.cells #[] 33);clear F0 hE ho a1 a2 a3 a4;have hpa := hp.ext e3;go_enter Try.func53,Try.ntmps53;go_wp2_with ((with_reducible show gx0);refine jag rfl rfl rfl rfl (fun _ => rfl) rfl rfl hpa Hcnt.out (by omega) (by omega) ?_;intro u hu;replace hu := HA0.out.symm.trans hu;cases hu);go_loopw [10,83] (fun ov jv wr => ∃ (j : Nat) (q1 : Option Addr) (c1 : Nat) (ws : List Value),j ≤ N ∧ jv = .int .i64 j ∧ ov = .slice q1 j c1 ∧ wr.ownsRow w.heap.size 33 1 (.slice q1 j c1) j ws ∧ Hid (F32s ws (tab j o)) ∧ Ext w wr) (fun _ jv _ => N - (intOf jv).toNat)
 case atStart => exact ⟨0,_,_,[],by omega,rfl,rfl,hst,F32s.nil,e3⟩
 case round =>
  clear hst e3 hpa;obtain ⟨j,q1,c1,ws,hj,rfl,rfl,own0,HF,he⟩ := hrel;have kp := hp.ext he
  by_cases hlt : j < N
  · obtain ⟨f,hfe⟩ : ∃ f,f = j % n := ⟨_,rfl⟩
    have hf : f < n := by rw [hfe];first | exact Nat.mod_lt _ (by omega) | omega
    have HM := hid (show ((j : Int) % (n : Int)) = ((f : Nat) : Int) from by rw [hfe,Int.natCast_emod]);have hoj := HO.out j;rw [← hfe] at hoj;have HOj := hid hoj;have Hgi := hid (fun i => show (j + i) % n = (f + i) % n from by rw [hfe,Nat.mod_add_mod]);obtain ⟨qf,cf,vsf,a1,a2,a3,_⟩ := HAt.out f hf;rw [HEl.out f hf] at a1;have HA1 := hid a1;have HL1 := hid (HEl.out f hf);have k2 := a2.ext he;clear a1 hoj hfe a2;go_wp2_with (first | ((with_reducible show gx0);first | (refine jag rfl rfl rfl rfl (fun _ => rfl) rfl rfl kp Hcnt.out (by rw [HM.out];omega) (by rw [HM.out];omega) ?_;intro u hu;rw [HM.out,Int.toNat_natCast] at hu;replace hu := HA1.out.symm.trans hu;cases hu) | (refine wl_ldF rfl rfl rfl rfl (fun _ => rfl) rfl rfl k2 a3 HL1.out (by omega) (by omega) ?_;intro r0 g0;have G0 := hid g0;clear g0)));have hr0 : cn .f32 r0 = sumK l f j 0 := by rw [G0.out,HS0.out,Int.toNat_natCast]
    have HR0 := hid hr0;clear hr0 G0;go_loopw [13,14] (fun sv iv wq => ∃ (i r : Nat),1 ≤ i ∧ i ≤ n ∧ iv = .int .i64 i ∧ sv = .float .f32 r ∧ Hid (cn .f32 r = sumK l f j (i - 1)) ∧ Ext wr wq) (fun _ iv _ => n - (intOf iv).toNat)
    case atStart => exact ⟨1,r0,by omega,hn1,rfl,rfl,HR0,Ext.refl _⟩
    case round =>
     clear HR0;obtain ⟨i,r,hi1,hi,rfl,rfl,HRr,eq⟩ := hrel
     by_cases hlt2 : i < n
     · obtain ⟨g,hge⟩ : ∃ g,g = (f + i) % n := ⟨_,rfl⟩
       have hg : g < n := by rw [hge];exact Nat.mod_lt _ (by omega)
       have h0 : (j + i) % n = g := by rw [hge,Hgi.out]
       have HG := hid (show (((j : Nat) : Int) + (i : Int)) % (n : Int) = ((g : Nat) : Int) from by rw [← h0,Int.natCast_emod,Int.natCast_add]);clear h0;have hsi := HS.out f j (i - 1);rw [show f + (i - 1) + 1 = f + i by omega,show i - 1 + 1 = i by omega,← hge] at hsi;have HSi := hid hsi;obtain ⟨qg,cg,vsg,b1,b2,b3,_⟩ := HAt.out g hg;rw [HEl.out g hg] at b1;have HB1 := hid b1;have HL2 := hid (HEl.out g hg);have k3 := b2.ext (he.trans eq);have kq := kp.ext eq;clear b1 hsi hge b2;go_wp2_with (first | ((with_reducible show gx0);first | (refine jag rfl rfl rfl rfl (fun _ => rfl) rfl rfl kq Hcnt.out (by rw [HG.out];omega) (by rw [HG.out];omega) ?_;intro u hu;rw [HG.out,Int.toNat_natCast] at hu;replace hu := HB1.out.symm.trans hu;cases hu) | (refine wl_ldF rfl rfl rfl rfl (fun _ => rfl) rfl rfl k3 b3 HL2.out (by omega) (by omega) ?_;intro r1 g1;have G1 := hid g1;clear g1)) | ((with_reducible show gx3);refine wl_fop rfl rfl rfl rfl rfl ?_;intro r3 w3 e3' g3;have G3 := hid g3;clear g3));go_roundw
       case rel =>
        have q1 := G1.out;rw [Int.toNat_natCast] at q1;exact ⟨i + 1,r3,by omega,by omega,by go_num,rfl,by rw [Hid,show i + 1 - 1 = i by omega,HSi.out,G3.out,HRr.out,q1],eq.trans e3'⟩
       case measure => simp [intOf];omega
     · obtain rfl : i = n := by omega
       have own9 := jaj own0 eq;have hB9 := eq.size;have hB0 := he.size;have hBB : w.heap.size ≤ wr.heap.size := by omega
       go_wp2_with ((with_reducible show gx6);refine ja5 (u := .float .f32 r) rfl rfl rfl rfl rfl rfl rfl (fun _ => rfl) (fun _ => rfl) own9 (by unfold maxLen;omega) (by omega) (by omega) ?_;intro g c w4 own4 g4 hg4);go_roundw
       case rel =>
        have own5 : w4.ownsRow w.heap.size 33 1 (.slice (some ⟨g,0,none⟩) (j + 1) c) (j + 1) (ws ++ [.float .f32 r]) := own4;exact ⟨j + 1,some ⟨g,0,none⟩,c,ws ++ [.float .f32 r],by omega,by go_num,rfl,own5,by rw [Hid];exact HF.out.push (by rw [HRr.out,HOj.out]),(he.trans eq).grown g4 (fun k hk => jak own9 k hk)⟩
       case measure => simp [intOf];omega
  · obtain rfl : j = N := by omega
    go_wp2;go_ret;rw [HR.out];exact retFl_own (jay _ _) own0 HF.out rfl he
section
variable {P : Program} {w : World} {ops : Array Oper} {rest : List Oper} {o : Oper} {a : Act} {Q : Exit → Act → World → Prop}
theorem wl_valueW {v : Value} {w' : World} (hw : Region.wanted o (yielded ops a.tmps) = true) (hr : (execOp a.eval o).run P w = .ok (.value v) w') (h : wpList P ops Q rest (a.put o.dst v) w') : wpList P ops Q (o :: rest) a w := by
 unfold wpList;rw [if_pos hw];refine .inl ?_;unfold Oper.wp;rw [hr];exact h
end
def OutT (w : World) (t : TypeId) (s : Sh) (r : s.T × Bool) (e : Ending) (w' : World) : Prop :=
 ∃ cs bs,e = .returned (.tuple #[ofCs s cs,.bool r.2]) ∧ Own w' s cs r.1 bs ∧ bs.Nodup ∧ (∀ b ∈ bs,w.heap.size ≤ b) ∧ (∀ b ∈ bs,∀ Z,w'.heap[b]? ≠ some (.cells Z t)) ∧ Ext w w'
end Go.Proofs.Ytmbckkcgiafagaa
namespace Go.Proofs.Ytmbckkcgiafagaa.lReduceLists
open Go.RowKit
section
variable {P : Program} {w : World} {ops : Array Oper} {rest : List Oper} {o1 o2 : Oper} {a : Act} {Q : Exit → Act → World → Prop}
theorem wl_idxloadW {t e b : Nat} {z : Value} [SlTy P t e 1 z b] [Cell1 P e] {x ix : Operand} {d : Tmp} (hw1 : Region.wanted o1 (yielded ops a.tmps) = true) (ho1 : o1.op = .indexAddr t x ix) (hw2 : ∀ y,Region.wanted o2 (yielded ops (a.put o1.dst y).tmps) = true) (ho2 : o2.op = .load e (.tmp d))
 {p : Option Addr} {n c : Nat} {k : IntKind} {i : Int} {j : Nat} (hd : ∀ y,(a.put o1.dst y).eval (.tmp d) = y)
 (hx : a.eval x = .slice p n c) (hi : a.eval ix = .int k i) (hij : i = j) {vs : List Value} (hc : Cs w p vs) (hvn : vs.length = n) (hn : j < n) {u : Value} (hu : vs[j]? = some u)
 (h : wpList P ops Q rest ((a.put o1.dst (.pointer (some (adr p j)))).put o2.dst u) w) : wpList P ops Q (o1 :: o2 :: rest) a w := by
 subst hij;have hp : p.isSome = true := hc.isS (by intro h0;rw [h0] at hu;simp at hu);refine wl_valueW hw1 (w' := w) (v := .pointer (some (adr p j))) (by simp [execOp,ho1,hx,hi,run_indexAt (P := P) (t := t) (s := 1) hp (show (0 : Int) ≤ (j : Int) by omega) (show (j : Int) < n by omega)]) ?_;exact wl_valueW (hw2 _) (by simp [execOp,ho2,hd,run_load1 (hc.cell _ _ hu)]) h
end
def len0 (D : List (List Nat)) : Nat := (D.getD 0 []).length
def evenB (D : List (List Nat)) : Bool := !anyTo (fun i => !decide ((D.getD i []).length = len0 D)) D.length
theorem evenB_L {D : List (List Nat)} (h : evenB D = true) : EvenL D (len0 D) := by
 intro i hi;refine Classical.byContradiction fun hn => ?_
 unfold evenB at h;rw [anyTo_true.2 ⟨i,hi,by simp;exact hn⟩] at h
 cases h
def okR (k : Int) (D : List (List Nat)) : Prop := inB k 0 2 = true ∧ 1 ≤ D.length ∧ D.length ≤ 8 ∧ len0 D ≤ 512 ∧ evenB D = true
instance (k : Int) (D : List (List Nat)) : Decidable (okR k D) := by unfold okR;infer_instance
def res (k : Int) (D : List (List Nat)) : List Nat × Bool := if okR k D then (redF k D,true) else ([],false)
theorem res_no {k : Int} {D : List (List Nat)} (h : ¬ okR k D) : res k D = ([],false) := by unfold res;rw [if_neg h]
theorem out_noL {w w' : World} {en : Ending} (h : en = .returned (.tuple #[.slice none 0 0,.bool false])) (hx : Ext w w') : OutOk w (.sl .flt) ([],false) en w' :=
 ⟨[.slice none 0 0],[],h,own_nil,by simp,by simp,hx⟩
theorem own_outF {w w' : World} {q : Option Addr} {c : Nat} {xs : List Nat} {vs : List Value} {e : Ending} {B : Nat} (hB : w.heap.size ≤ B) (h : w'.ownsRow B 33 1 (.slice q xs.length c) xs.length vs) (hf : F32s vs xs) (he : e = .returned (.tuple #[.slice q xs.length c,.bool true])) (hx : Ext w w') : OutOk w (.sl .flt) (xs,true) e w' := by
 have h1 := own_flts.2 ⟨q,c,vs,rfl,ownRow_of h,hf,(jas h).1,(jas h).2,rfl⟩;refine ⟨[.slice q xs.length c],_,he,h1,?_,?_,hx⟩
 · cases q <;> simp [jac]
 · intro b hb
   cases q with
   | none => simp [jac] at hb
   | some a => simp [jac] at hb;subst hb;exact Nat.le_trans hB (jak h _ rfl)
theorem reduce_any (k : Int) (p : Option Addr) (n c N : Nat) (us : List Value) (l : List (List Nat)) (w : World) (hk : inB k 0 2 = true) (F0 : Fls w p n us l) (hn1 : 1 ≤ n) (hn : n ≤ 8) (hc : n ≤ c) (hE : EvenL l N) (hN : N ≤ 1048576) :
 Calls Try.prog 53 #[.int .i64 k,.slice p n c] w (RetFl w (redF k l)) := by
 rw [inB_true] at hk;rcases (show k = 0 ∨ k = 1 ∨ k = 2 by omega) with rfl | rfl | rfl
 · exact reduce_line p n c N us l w F0 hn1 hn hc hE hN
 · exact reduce_tree p n c N us l w F0 hn1 hn hc hE hN
 · exact reduce_ring p n c N us l w F0 hn1 hn hE hN
theorem isReduce_any (k : Int) (w : World) : Calls Try.prog 50 #[.int .i64 k] w fun e w' => e = .returned (.bool (inB k 0 2)) ∧ w = w' := by
 have A := hid (fun W => jal k 0 2 W);generalize inB k 0 2 = b at *;go_enter Try.func50,Try.ntmps50;go_wp2_with fail;refine (A.out _).mono ?_;rintro e w' ⟨rfl,rfl⟩
 go_wp2;go_ret;exact ⟨rfl,rfl⟩
theorem clos_ok (b : Nat) (p q q0 : Option Addr) (n c m d N c0 : Nat) (us : List Value) (w : World) (g0 : w.cell? ⟨b,0,none⟩ = some (.slice p n c)) (hp : Cs w p us) (hl : us.length = n) (hn : 1 ≤ n) (h0 : us[0]? = some (.slice q0 N c0)) (hm : m ≤ maxLen) (hN : N ≤ maxLen) :
 Calls Try.prog 52 #[.slice q m d,.pointer (some ⟨b,0,none⟩)] w (RetB w (!decide (m = N))) := by
 unfold maxLen at hm hN;have H0 := hid h0;have HL := hid hl;clear h0 hl
 by_cases h : m = N
 · have Q := bne_f (show (m : Int) = N by omega)
   rw [decide_eq_true h];clear h;go_enter Try.func52,Try.ntmps52;go_wp2_with ((with_reducible show gx0);refine jag rfl rfl rfl rfl (fun _ => rfl) rfl rfl hp HL.out (by omega) (by omega) ?_;intro u hu;replace hu := H0.out.symm.trans hu;cases hu);go_ret;exact ⟨rfl,Ext.refl _⟩
 · have Q := bne_t (show ¬ (m : Int) = N by omega)
   rw [decide_eq_false h];clear h;go_enter Try.func52,Try.ntmps52;go_wp2_with ((with_reducible show gx0);refine jag rfl rfl rfl rfl (fun _ => rfl) rfl rfl hp HL.out (by omega) (by omega) ?_;intro u hu;replace hu := H0.out.symm.trans hu;cases hu);go_ret;exact ⟨rfl,Ext.refl _⟩
theorem impl_any (a0 : Int) (cs1 : List Value) (D1 : List (List Nat)) (w : World) (h1 : Rep w (.sl (.sl .flt)) cs1 D1) : Calls Try.prog 13 #[.int .i64 a0,ofCs (.sl (.sl .flt)) cs1] w (OutOk w (.sl .flt) (res a0 D1)) := by
 obtain ⟨p,c,rfl,_⟩ := rep_val h1;obtain ⟨p',c',us,he0,F,hnc,hcm,hlm⟩ := fls_of h1
 cases he0
 simp only [ofCs,Sh.agg,if_false,Bool.false_eq_true,List.headD_cons];have A := hid (fun W => isReduce_any a0 W);have E0 := Ext.alloc w (.cells #[.slice p D1.length c] 30);have hnm : D1.length ≤ maxLen := Nat.le_trans hnc hcm;have HLm := hid hlm;have hcnt := F.cnt;clear h1
 cases hb0 : inB a0 0 2
 · rw [res_no (fun h => by have := h.1;rw [hb0] at this;cases this)]
   rw [hb0] at A;clear F hb0 hcnt;generalize D1.length = n at *;unfold maxLen at hnm;go_enter Try.func13,Try.ntmps13;go_wp2_with fail;refine (A.out _).mono ?_;rintro e w1 ⟨rfl,rfl⟩
   go_wp2;go_ret2;exact out_noL rfl E0
 rw [hb0] at A
 by_cases hn1 : 1 ≤ D1.length
 rotate_left
 · rw [res_no (fun h => hn1 h.2.1)]
   clear F hb0 hcnt;generalize D1.length = n at *;unfold maxLen at hnm;have hd1 : decide ((n : Int) < 1) = true := by simp;omega
   go_enter Try.func13,Try.ntmps13;go_wp2_with fail;refine (A.out _).mono ?_;rintro e w1 ⟨rfl,rfl⟩
   go_wp2;go_ret2;exact out_noL rfl E0
 by_cases hn8 : D1.length ≤ 8
 rotate_left
 · rw [res_no (fun h => hn8 h.2.2.1)]
   clear F hb0 hcnt;generalize D1.length = n at *;unfold maxLen at hnm;have hd1 : decide ((n : Int) < 1) = false := by simp;omega
   have hd2 : decide ((8 : Int) < (n : Int)) = true := by simp;omega
   go_enter Try.func13,Try.ntmps13;go_wp2_with fail;refine (A.out _).mono ?_;rintro e w1 ⟨rfl,rfl⟩
   go_wp2;go_ret2;exact out_noL rfl E0
 obtain ⟨q0,c0,vs0,a1,a2,a3,a4⟩ := F.at' 0 (by omega);have hl0 := HLm.out 0 (by omega);have HA0 := hid a1;have hp := F.cs;have hp1 := hp.ext E0;have Hcnt := hid hcnt
 by_cases h512 : len0 D1 ≤ 512
 rotate_left
 · rw [res_no (fun h => h512 h.2.2.2.1)]
   unfold len0 at h512;clear F hb0 a1 a3 hcnt hlm;generalize (D1.getD 0 []).length = N at *;generalize D1.length = n at *;unfold maxLen at hnm hl0;have hd1 : decide ((n : Int) < 1) = false := by simp;omega
   have hd2 : decide ((8 : Int) < (n : Int)) = false := by simp;omega
   have hd3 : decide ((512 : Int) < (N : Int)) = true := by simp;omega
   go_enter Try.func13,Try.ntmps13;go_wp2_with fail;refine (A.out _).mono ?_;rintro e w1 ⟨rfl,rfl⟩
   go_wp2_with ((with_reducible show gx0);refine wl_idxloadW (j := 0) rfl rfl (fun _ => rfl) rfl (fun _ => rfl) rfl rfl rfl hp1 Hcnt.out (by omega) HA0.out ?_);go_ret2;exact out_noL rfl E0
 have hq : ∀ W,Ext (w.alloc (.cells #[.slice p D1.length c] 30)) W → PredOk 52 #[.pointer (some ⟨w.heap.size,0,none⟩)] us (fun i => !decide ((D1.getD i []).length = len0 D1)) W := by
  intro W hW i u W2 hu h2;have hi : i < D1.length := by rw [← hcnt];exact (List.getElem?_eq_some_iff.1 hu).1
  obtain ⟨q,c1,vs,e1,_,_,_⟩ := F.at' i hi;rw [hu] at e1
  cases e1
  exact clos_ok w.heap.size p q q0 D1.length c _ c1 _ c0 us W2 ((hW.trans h2).cell (by simp)) (hp1.ext (hW.trans h2)) hcnt hn1 HA0.out (HLm.out i hi) hl0
 have C := hid (fun W (h : Ext (w.alloc (.cells #[.slice p D1.length c] 30)) W) => containsFuncSl_any 52 #[.pointer (some ⟨w.heap.size,0,none⟩)] (by intro args w;kernel_rfl) p D1.length c us (fun i => !decide ((D1.getD i []).length = len0 D1)) W hcnt hnm (hp1.ext h) (hq W h))
 cases hev : evenB D1
 · rw [res_no (fun h => by have := h.2.2.2.2;rw [hev] at this;cases this)]
   unfold evenB at hev;rw [Bool.not_eq_false'] at hev;rw [hev] at C;unfold len0 at h512;clear F hb0 a1 a3 hcnt hlm hev hq HLm;generalize (D1.getD 0 []).length = N at *;generalize D1.length = n at *;unfold maxLen at hnm hl0;have hd1 : decide ((n : Int) < 1) = false := by simp;omega
   have hd2 : decide ((8 : Int) < (n : Int)) = false := by simp;omega
   have hd3 : decide ((512 : Int) < (N : Int)) = false := by simp;omega
   go_enter Try.func13,Try.ntmps13;go_wp2_with fail;refine (A.out _).mono ?_;rintro e w1 ⟨rfl,rfl⟩
   go_wp2_with ((with_reducible show gx0);refine wl_idxloadW (j := 0) rfl rfl (fun _ => rfl) rfl (fun _ => rfl) rfl rfl rfl hp1 Hcnt.out (by omega) HA0.out ?_);refine (C.out _ (Ext.refl _)).mono ?_;rintro e w2 ⟨rfl,e2⟩
   go_wp2;go_ret2;exact out_noL rfl (E0.trans e2)
 · have hok : okR a0 D1 := ⟨hb0,hn1,hn8,h512,hev⟩
   have hEL := evenB_L hev;rw [show res a0 D1 = (redF a0 D1,true) from by unfold res;rw [if_pos hok]];have R := hid (fun W (h : Ext w W) => reduce_any a0 p D1.length c (len0 D1) us D1 W hb0 (F.ext h) hn1 hn8 hnc hEL (by omega));unfold evenB at hev;rw [Bool.not_eq_true'] at hev;rw [hev] at C;unfold len0 at h512;clear F hb0 a1 a3 hcnt hlm hev hq HLm hok hEL;generalize redF a0 D1 = red at *;generalize (D1.getD 0 []).length = N at *;generalize D1.length = n at *;unfold maxLen at hnm hl0;have hd1 : decide ((n : Int) < 1) = false := by simp;omega
   have hd2 : decide ((8 : Int) < (n : Int)) = false := by simp;omega
   have hd3 : decide ((512 : Int) < (N : Int)) = false := by simp;omega
   have x0 : (w.alloc (.cells #[.slice p n c] 30)).cell? ⟨w.heap.size,0,none⟩ = some (.slice p n c) := by simp
   go_enter Try.func13,Try.ntmps13;go_wp2_with fail;refine (A.out _).mono ?_;rintro e w1 ⟨rfl,rfl⟩
   go_wp2_with ((with_reducible show gx0);refine wl_idxloadW (j := 0) rfl rfl (fun _ => rfl) rfl (fun _ => rfl) rfl rfl rfl hp1 Hcnt.out (by omega) HA0.out ?_);refine (C.out _ (Ext.refl _)).mono ?_;rintro e w2 ⟨rfl,e2⟩
   have x1 := e2.cell x0;go_wp2_with fail;refine (R.out _ (E0.trans e2)).mono ?_;rintro e w3 ⟨q3,c3,vs3,rfl,own3,hf3,e3⟩
   go_wp2;go_ret2;exact own_outF (E0.trans e2).size own3 hf3 rfl ((E0.trans e2).trans e3)
theorem impl_ok (a0 : Int) (cs1 : List Value) (D1 : List (List Nat)) (w : World) (h1 : Rep w (.sl (.sl .flt)) cs1 D1) (_ : Fit .int a0) (_ : Fit (.sl (.sl .flt)) D1) : Calls Try.prog 13 #[.int .i64 a0,ofCs (.sl (.sl .flt)) cs1] w (OutOk w (.sl .flt) (res a0 D1)) :=
 impl_any a0 cs1 D1 w h1
end Go.Proofs.Ytmbckkcgiafagaa.lReduceLists
namespace Go.Proofs.Ytmbckkcgiafagaa
open Go.RowKit
def off (L : List jaa.T) (j : Nat) : Nat := (parF (L.take j)).length
end Go.Proofs.Ytmbckkcgiafagaa
