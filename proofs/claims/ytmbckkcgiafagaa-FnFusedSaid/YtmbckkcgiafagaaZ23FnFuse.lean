/- A part of the proofs: RedN, RLst, RMod, SOf, RLay, HExamples, Exa, CCor, CntP. -/
import Derived.Test.YtmbckkcgiafagaaZ11FnFuse
import Derived.Test.YtmbckkcgiafagaaZ10FnFuse
import Derived.Test.YtmbckkcgiafagaaZ12FnFuse
import Derived.Test.YtmbckkcgiafagaaZ09FnFuse
import Derived.Test.YtmbckkcgiafagaaZ07FnFuse
import Derived.Test.YtmbckkcgiafagaaZ02FnFuse
import Derived.Test.YtmbckkcgiafagaaZ03FnFuse
import Derived.Test.YtmbckkcgiafagaaZ06FnFuse
import Derived.Test.YtmbckkcgiafagaaZ08FnFuse
import Derived.Test.YtmbckkcgiafagaaTnWhFnFu
import Derived.Test.YtmbckkcgiafagaaZ15FnFuse
import Derived.Test.YtmbckkcgiafagaaZ16FnFuse
import Derived.Test.YtmbckkcgiafagaaZ14FnFuse
set_option linter.unusedSimpArgs false
set_option linter.unusedVariables false
set_option maxRecDepth 100000
set_option maxHeartbeats 16000000
namespace Go.Proofs.Ytmbckkcgiafagaa
open Go.RowKit
structure Nx (w : World) (v : Value) (m : Nat) (us : List Value) (l : List (List Nat)) : Prop where
 at' : ∀ i,i < m → ∃ q c vs,us[i]? = some (.slice q (l.getD i []).length c) ∧ Cs w q vs ∧ F32s vs (l.getD i []) ∧ (l.getD i []).length ≤ c ∧ (vs ≠ [] → ∀ b,v.ownBlock = some b → (adr q 0).block ≠ b)
 len : l.length = m
 cnt : us.length = m
theorem Nx.ext {w w' : World} {v : Value} {m : Nat} {us : List Value} {l : List (List Nat)} (h : Nx w v m us l) (e : Ext w w') : Nx w' v m us l :=
 ⟨fun i hi => by obtain ⟨q,c,vs,h1,h2,h3,h4,h5⟩ := h.at' i hi;exact ⟨q,c,vs,h1,h2.ext e,h3,h4,h5⟩,h.len,h.cnt⟩
theorem Nx.nil {w : World} {v : Value} : Nx w v 0 [] [] := ⟨fun i hi => by omega,rfl,rfl⟩
theorem Nx.snoc {w w' : World} {v : Value} {m : Nat} {us : List Value} {l : List (List Nat)} (h : Nx w v m us l) {q : Option Addr} {k c : Nat} {vs : List Value} {x : List Nat} (hk : x.length = k) (hc : Cs w q vs) (hf : F32s vs x) (hkc : k ≤ c)
 (hn : vs ≠ [] → ∀ b,v.ownBlock = some b → (adr q 0).block ≠ b) {g c9 : Nat} (gr : w.grownBy w' v.ownBlock) (hg : v.ownBlock = some g ∨ w.heap.size ≤ g) : Nx w' (.slice (some ⟨g,0,none⟩) (m + 1) c9) (m + 1) (us ++ [.slice q k c]) (l ++ [x]) := by
 subst hk
 have keep : ∀ {p : Option Addr} {ws : List Value},Cs w p ws → (ws ≠ [] → ∀ b,v.ownBlock = some b → (adr p 0).block ≠ b) → Cs w' p ws ∧ (ws ≠ [] → ∀ b,(Value.slice (some ⟨g,0,none⟩) (m + 1) c9).ownBlock = some b → (adr p 0).block ≠ b) := by
  intro p ws h1 h2;refine ⟨h1.keep fun h3 => gr.block _ (h1.blk h3) (fun hh => h2 h3 _ hh.symm rfl),fun h3 b hb => ?_⟩;simp [Value.ownBlock] at hb;subst hb;rcases hg with hg | hg
  · exact h2 h3 _ hg
  · have := h1.blk h3;omega
 refine ⟨fun i hi => ?_,by rw [List.length_append,h.len];rfl,by rw [List.length_append,h.cnt];rfl⟩
 by_cases hm : i < m
 · obtain ⟨p,d,ws,h1,h2,h3,h4,h5⟩ := h.at' i hm
   have e : (l ++ [x]).getD i [] = l.getD i [] := by rw [List.getD_eq_getElem?_getD,List.getD_eq_getElem?_getD,List.getElem?_append_left (by rw [h.len];exact hm)]
   obtain ⟨k1,k2⟩ := keep h2 h5;rw [e];exact ⟨p,d,ws,by rw [List.getElem?_append_left (by rw [h.cnt];exact hm)];exact h1,k1,h3,h4,k2⟩
 · obtain rfl : i = m := by omega
   have e : (l ++ [x]).getD i [] = x := by rw [List.getD_eq_getElem?_getD,List.getElem?_append_right (by rw [h.len];exact Nat.le_refl _),h.len,Nat.sub_self];rfl
   obtain ⟨k1,k2⟩ := keep hc hn;rw [e];exact ⟨q,c,vs,by rw [List.getElem?_append_right (by rw [h.cnt];exact Nat.le_refl _),h.cnt,Nat.sub_self];rfl,k1,hf,hkc,k2⟩
theorem Fls.tail {w : World} {p : Option Addr} {n c : Nat} {us : List Value} {l : List (List Nat)} (h : Fls w p n us l) (h1 : 1 ≤ n) (hc : n ≤ c) : Cs w (subp p 1 1 c) (us.drop 1) := by
 have := h.cs.sub (s := 1) (l := 1) (hi := n) (c := c) h1 hc
 rwa [Nat.mul_one,Nat.mul_one,List.take_of_length_le (by rw [h.cnt];exact Nat.le_refl _)] at this
end Go.Proofs.Ytmbckkcgiafagaa
namespace Go.Proofs.Ytmbckkcgiafagaa.lReduceLists
open Go.RowKit
def len0 (D : List (List Nat)) : Nat := (D.getD 0 []).length
def evenB (D : List (List Nat)) : Bool := !anyTo (fun i => !decide ((D.getD i []).length = len0 D)) D.length
def okR (k : Int) (D : List (List Nat)) : Prop := inB k 0 2 = true ∧ 1 ≤ D.length ∧ D.length ≤ 8 ∧ len0 D ≤ 512 ∧ evenB D = true
instance (k : Int) (D : List (List Nat)) : Decidable (okR k D) := by unfold okR;infer_instance
end Go.Proofs.Ytmbckkcgiafagaa.lReduceLists
namespace Go.Proofs.Ytmbckkcgiafagaa.lRunModel
open Go.RowKit
theorem own_heap {w : World} {B te s n c : Nat} {q : Option Addr} {vs : List Value} (h : w.ownsRow B te s (.slice q n c) n vs) {t : TypeId} (hne : te ≠ t) : ∀ b ∈ jac q,∀ Z,w.heap[b]? ≠ some (.cells Z t) := by
 intro b hb Z he
 cases q with
 | none => simp [jac] at hb
 | some a => simp [jac] at hb;subst hb;exact own_tag h he hne _ rfl rfl
theorem outT_ten {w w' : World} {r c : Int} {xs : List Nat} {q : Option Addr} {cp n : Nat} {vs : List Value} {en : Ending} {t : TypeId} (hl : xs.length = n) (h : w'.ownsRow w.heap.size 33 1 (.slice q n cp) n vs) (hf : F32s vs xs) (hne : 33 ≠ t)
 (he : en = .returned (.tuple #[.agg #[.int .i64 r,.int .i64 c,.slice q n cp],.bool true])) (hx : Ext w w') : OutT w t jae ((r,c,xs,()),true) en w' := by
 subst hl;refine ⟨[.int .i64 r,.int .i64 c,.slice q xs.length cp],jac q,he,own_ten rfl (jbv.2 ⟨q,cp,vs,rfl,jbl h,hf,(jat h).1,(jat h).2,rfl⟩),?_,?_,own_heap h hne,hx⟩
 · cases q <;> simp [jac]
 · intro b hb
   cases q with
   | none => simp [jac] at hb
   | some a => simp [jac] at hb;subst hb;exact jah h _ rfl
theorem outT_no_ten {w : World} {en : Ending} {w' : World} {t : TypeId} (h : en = .returned (.tuple #[.agg #[.int .i64 0,.int .i64 0,.slice none 0 0],.bool false])) (hx : Ext w w') : OutT w t jae ((0,0,[],()),false) en w' :=
 ⟨[.int .i64 0,.int .i64 0,.slice none 0 0],[],h,own_ten rfl own_nil,by simp,by simp,by simp,hx⟩
def res (d : jag.T) (x : jae.T) : jae.T × Bool := if modB d.1 = true ∧ tenB x.1 x.2.1 (x.2.2.1 : List Nat).length = true ∧ x.2.1 = inL d.1 0 then ((x.1,outL d.1,rowsM d.1 x.2.2.1 x.2.1.toNat x.1.toNat,()),true) else ((0,0,[],()),false)
theorem impl_ok (cs0 : List Value) (D0 : jag.T) (cs1 : List Value) (D1 : jae.T) (w : World) (h0 : Rep w jag cs0 D0) (h1 : Rep w jae cs1 D1) (f0 : Fit jag D0) (_ : Fit jae D1) : Calls Try.prog 28 #[ofCs jag cs0,ofCs jae cs1] w (OutT w 27 jae (res D0 D1)) := by
 obtain ⟨L0,u0⟩ := D0;obtain ⟨c0,c1,rfl,k0,rfl⟩ := h0;obtain ⟨p,c,rfl,_⟩ := rep_val k0;obtain ⟨p',c',css,he0,L⟩ := lays_of k0 f0.1
 cases he0
 obtain ⟨q,cq,us,rfl,hp,hf,hcq,hcm⟩ := ten_vals h1;obtain ⟨r,k,xs,_⟩ := D1;dsimp only at hp hf hcq hcm ⊢;simp only [ofCs,Sh.agg,if_true,List.append_nil];have hxm : xs.length ≤ maxLen := Nat.le_trans hcq hcm;unfold res;dsimp only;obtain ⟨W0,hW0⟩ : ∃ W0,W0 = ((w.alloc (.cells #[.slice p L0.length c] 38)).alloc (.cells #[.int .i64 r,.int .i64 k,.slice q xs.length cq] 27)).alloc (.cells #[.int .i64 0,.int .i64 0,.slice none 0 0] 27) := ⟨_,rfl⟩;obtain ⟨E0,s0,b0,b1,b2⟩ := box3 hW0;have a0 : W0.cell? ⟨w.heap.size,0,none⟩ = some (.slice p L0.length c) := jai b0 rfl;have t0 : W0.cell? ⟨w.heap.size + 1,0,none⟩ = some (.int .i64 r) := jai b1 rfl;have t1 : W0.cell? ⟨w.heap.size + 1,1,none⟩ = some (.int .i64 k) := jai b1 rfl;have t2 : W0.cell? ⟨w.heap.size + 1,2,none⟩ = some (.slice q xs.length cq) := jai b1 rfl;have z0 : W0.cell? ⟨w.heap.size + 2,0,none⟩ = some (.int .i64 0) := jai b2 rfl;have z1 : W0.cell? ⟨w.heap.size + 2,1,none⟩ = some (.int .i64 0) := jai b2 rfl;have z2 : W0.cell? ⟨w.heap.size + 2,2,none⟩ = some (.slice none 0 0) := jai b2 rfl;have y0 := fun j => frozen_of_heap b2 (j := j)
 clear b0 b1 b2;have A := hid (fun W (h : Ext W0 W) => jbk p L0.length c L0 css W L.len L.le (L.cs.ext (E0.trans h)) (L.all.imp fun _ _ => Rep.ext (E0.trans h)) L.size L.cnt);have B := hid (fun W (h : Ext W0 W) => ValidTensor_any r k q xs.length cq W hxm);have D := hid (fun W (h : Ext W0 W) h1 => in_any p L0.length c css L0 W (L.ext (E0.trans h)) h1);have E := hid (fun W (h : Ext W0 W) hM (R C : Nat) (h1 : (C : Int) = inL L0 0) h2 h3 (h4 : xs.length = R * C) => runModel_any p q L0.length c cq R C css L0 us xs W (L.ext (E0.trans h)) hM h1 h2 h3 h4 (by rw [← h4];exact hcq) hcm (hp.ext (E0.trans h)) hf);have hpos : modB L0 = true → 1 ≤ L0.length := fun h => (modOk h).pos
 have HX := hid (rfl : xs.length = xs.length);clear L k0 hp hf hcq hcm h1;generalize hb1 : modB L0 = b1 at *;generalize hb2 : tenB r k xs.length = b2 at *;generalize hn : L0.length = n at *;generalize hm : xs.length = m at *;generalize hi : inL L0 0 = I at *;have HN := hid hn;have HM := hid hm;have HI := hid hi;have HB1 := hid hb1;have HB2 := hid hb2;clear hn hm hi hb1 hb2 hxm HX
 cases b1
 · rw [if_neg (by simp)]
   clear D E;obtain ⟨F,hF⟩ : ∃ F : Option Tmp → World → Value → Prop,F = fun d _ u => match d with | some 7 => u = .bool false | some 11 => u = .bool b2 | _ => u = .int .i64 I := ⟨_,rfl⟩
   have HF := hid hF;clear hF;go_enter Try.func28,Try.ntmps28;go_wp2;rw [← hW0];clear hW0;have eD := Ext.drew W0;have d0 := eD.cell a0;have d1 := eD.cell t0;have d2 := eD.cell t1;have d3 := eD.cell t2;refine jab (F := F) (by kernel_rfl) (by kernel_rfl) (by kernel_rfl) ?_;intro wf hwf
   repeat (first
    | ((first | (refine jar rfl ?_) | (refine x_mv rfl rfl rfl ?_) | (refine x_as rfl rfl rfl ?_) | ((with_reducible show gx6);first | (refine jay (f := 35) (args := #[.agg #[.slice p n c]]) rfl rfl Try.func35 rfl (by kernel_rfl) ?_ ?_ ?_;(focus (simp [Act.eval];done));(focus (intro w1 hw1;exact (by rw [HF.out];exact (A.out w1 (eD.trans hw1)).mono fun e w3 h => ⟨_,h.1,h.2,rfl⟩)));rintro u w3 e3 e4 hu;simp only [HF.out] at hu;subst hu) | (refine jay (f := 69) (args := #[.agg #[.int .i64 r,.int .i64 k,.slice q m cq]]) rfl rfl Try.func69 rfl (by kernel_rfl) ?_ ?_ ?_;(focus (simp [Act.eval];done));(focus (intro w1 hw1;exact (by rw [HF.out];exact (B.out w1 (eD.trans hw1)).mono fun e w3 h => ⟨_,h.1,h.2,rfl⟩)));rintro u w3 e3 e4 hu;simp only [HF.out] at hu;subst hu)));simp only [Act.put,jad,pu1,pu2,pu3,pu4,pu5])
    | (refine ja7 rfl fun K hK w1 hw1 => ?_;have k0 := hw1.cell (d0);have k1 := hw1.cell (d1);have k2 := hw1.cell (d2);have k3 := hw1.cell (d3);go_simp;refine hK _ ?_;clear hK K k0 k1 k2 k3 hw1 w1))
   refine ja6 ?_;have eF := eD.trans hwf;have n0 := eF.cell z0;have n1 := eF.cell z1;have n2 := eF.cell z2;have n3 := eF.frozen (p := ⟨w.heap.size + 2,0,none⟩) (by simp;omega) (y0 0);have n4 := eF.frozen (p := ⟨w.heap.size + 2,1,none⟩) (by simp;omega) (y0 1);have n5 := eF.frozen (p := ⟨w.heap.size + 2,2,none⟩) (by simp;omega) (y0 2);have m0 := eF.cell a0;have m1 := eF.cell t0;have m2 := eF.cell t1;have m3 := eF.cell t2;clear z0 z1 z2 y0 a0 t0 t1 t2 d0 d1 d2 d3;go_wp2;refine bodyPost_ret (v := .tuple #[.agg #[.int .i64 0,.int .i64 0,.slice none 0 0],.bool false]) (by simp [results,Try.results28,go_sem,n0,n1,n2,n3,n4,n5]) rfl ?_;exact outT_no_ten rfl (by have := E0.trans eF;(repeat (first | (with_reducible first | exact Ext.refl _ | assumption) | ((with_reducible refine Ext.setCell ?_ ?_ _);rotate_left;focus (first | (simp;done) | (simp;omega))) | (with_reducible first | refine px1 ?_ _ | refine px2 ?_ | refine Ext.trans ?_ (by assumption)))))
 · cases b2
   · rw [if_neg (by simp)]
     clear D E;obtain ⟨F,hF⟩ : ∃ F : Option Tmp → World → Value → Prop,F = fun d _ u => match d with | some 7 => u = .bool true | some 11 => u = .bool false | _ => u = .int .i64 I := ⟨_,rfl⟩
     have HF := hid hF;clear hF;go_enter Try.func28,Try.ntmps28;go_wp2;rw [← hW0];clear hW0;have eD := Ext.drew W0;have d0 := eD.cell a0;have d1 := eD.cell t0;have d2 := eD.cell t1;have d3 := eD.cell t2;refine jab (F := F) (by kernel_rfl) (by kernel_rfl) (by kernel_rfl) ?_;intro wf hwf
     repeat (first
      | ((first | (refine jar rfl ?_) | (refine x_mv rfl rfl rfl ?_) | (refine x_as rfl rfl rfl ?_) | ((with_reducible show gx6);first | (refine jay (f := 35) (args := #[.agg #[.slice p n c]]) rfl rfl Try.func35 rfl (by kernel_rfl) ?_ ?_ ?_;(focus (simp [Act.eval];done));(focus (intro w1 hw1;exact (by rw [HF.out];exact (A.out w1 (eD.trans hw1)).mono fun e w3 h => ⟨_,h.1,h.2,rfl⟩)));rintro u w3 e3 e4 hu;simp only [HF.out] at hu;subst hu) | (refine jay (f := 69) (args := #[.agg #[.int .i64 r,.int .i64 k,.slice q m cq]]) rfl rfl Try.func69 rfl (by kernel_rfl) ?_ ?_ ?_;(focus (simp [Act.eval];done));(focus (intro w1 hw1;exact (by rw [HF.out];exact (B.out w1 (eD.trans hw1)).mono fun e w3 h => ⟨_,h.1,h.2,rfl⟩)));rintro u w3 e3 e4 hu;simp only [HF.out] at hu;subst hu)));simp only [Act.put,jad,pu1,pu2,pu3,pu4,pu5])
      | (refine ja7 rfl fun K hK w1 hw1 => ?_;have k0 := hw1.cell (d0);have k1 := hw1.cell (d1);have k2 := hw1.cell (d2);have k3 := hw1.cell (d3);go_simp;refine hK _ ?_;clear hK K k0 k1 k2 k3 hw1 w1))
     refine ja6 ?_;have eF := eD.trans hwf;have n0 := eF.cell z0;have n1 := eF.cell z1;have n2 := eF.cell z2;have n3 := eF.frozen (p := ⟨w.heap.size + 2,0,none⟩) (by simp;omega) (y0 0);have n4 := eF.frozen (p := ⟨w.heap.size + 2,1,none⟩) (by simp;omega) (y0 1);have n5 := eF.frozen (p := ⟨w.heap.size + 2,2,none⟩) (by simp;omega) (y0 2);have m0 := eF.cell a0;have m1 := eF.cell t0;have m2 := eF.cell t1;have m3 := eF.cell t2;clear z0 z1 z2 y0 a0 t0 t1 t2 d0 d1 d2 d3;go_wp2;refine bodyPost_ret (v := .tuple #[.agg #[.int .i64 0,.int .i64 0,.slice none 0 0],.bool false]) (by simp [results,Try.results28,go_sem,n0,n1,n2,n3,n4,n5]) rfl ?_;exact outT_no_ten rfl (by have := E0.trans eF;(repeat (first | (with_reducible first | exact Ext.refl _ | assumption) | ((with_reducible refine Ext.setCell ?_ ?_ _);rotate_left;focus (first | (simp;done) | (simp;omega))) | (with_reducible first | refine px1 ?_ _ | refine px2 ?_ | refine Ext.trans ?_ (by assumption)))))
   · have h1n := hpos rfl
     have hM := modOk HB1.out;have D2 := hid (fun W h => D.out W h h1n);obtain ⟨R,C,e1,e2,hR,hR1,hC,hC1,hmn⟩ := tenB_of HB2.out;subst e1 e2
     by_cases hx : (C : Int) = I
     · rw [if_pos ⟨rfl,rfl,hx⟩]
       subst hx;simp only [Int.toNat_natCast];have G := hid (fun W h => E.out W h hM R C rfl hR1 hC1 hmn);rw [← hmn] at G;have Hmn := hid hmn;have hK : (m : Int) ≤ 256 := by have := Nat.mul_le_mul hR1 hC1;omega
       clear D E hM h1n hmn;generalize hI : (C : Int) = kk at *;have HI2 := hid hI;clear hI;obtain ⟨F,hF⟩ : ∃ F : Option Tmp → World → Value → Prop,F = fun d _ u => match d with | some 7 => u = .bool true | some 11 => u = .bool true | _ => u = .int .i64 kk := ⟨_,rfl⟩
       have HF := hid hF;clear hF;go_enter Try.func28,Try.ntmps28;go_wp2;rw [← hW0];clear hW0;have eD := Ext.drew W0;have d0 := eD.cell a0;have d1 := eD.cell t0;have d2 := eD.cell t1;have d3 := eD.cell t2;refine jab (F := F) (by kernel_rfl) (by kernel_rfl) (by kernel_rfl) ?_;intro wf hwf
       repeat (first
        | ((first | (refine jar rfl ?_) | (refine x_mv rfl rfl rfl ?_) | (refine x_as rfl rfl rfl ?_) | ((with_reducible show gx6);first | (refine jay (f := 35) (args := #[.agg #[.slice p n c]]) rfl rfl Try.func35 rfl (by kernel_rfl) ?_ ?_ ?_;(focus (simp [Act.eval];done));(focus (intro w1 hw1;exact (by rw [HF.out];exact (A.out w1 (eD.trans hw1)).mono fun e w3 h => ⟨_,h.1,h.2,rfl⟩)));rintro u w3 e3 e4 hu;simp only [HF.out] at hu;subst hu) | (refine jay (f := 69) (args := #[.agg #[.int .i64 R,.int .i64 kk,.slice q m cq]]) rfl rfl Try.func69 rfl (by kernel_rfl) ?_ ?_ ?_;(focus (simp [Act.eval];done));(focus (intro w1 hw1;exact (by rw [HF.out];exact (B.out w1 (eD.trans hw1)).mono fun e w3 h => ⟨_,h.1,h.2,rfl⟩)));rintro u w3 e3 e4 hu;simp only [HF.out] at hu;subst hu) | (refine jay (f := 70) (args := #[.agg #[.slice p n c]]) rfl rfl Try.func70 rfl (by kernel_rfl) ?_ ?_ ?_;(focus (simp [Act.eval];done));(focus (intro w1 hw1;exact (by rw [HF.out];exact (D2.out w1 (eD.trans hw1)).mono fun e w3 h => ⟨_,h.1,h.2,rfl⟩)));rintro u w3 e3 e4 hu;simp only [HF.out] at hu;subst hu)));simp only [Act.put,jad,pu1,pu2,pu3,pu4,pu5])
        | (refine ja7 rfl fun K hK w1 hw1 => ?_;have k0 := hw1.cell (d0);have k1 := hw1.cell (d1);have k2 := hw1.cell (d2);have k3 := hw1.cell (d3);go_simp;refine hK _ ?_;clear hK K k0 k1 k2 k3 hw1 w1))
       refine ja6 ?_;have eF := eD.trans hwf;have n0 := eF.cell z0;have n1 := eF.cell z1;have n2 := eF.cell z2;have n3 := eF.frozen (p := ⟨w.heap.size + 2,0,none⟩) (by simp;omega) (y0 0);have n4 := eF.frozen (p := ⟨w.heap.size + 2,1,none⟩) (by simp;omega) (y0 1);have n5 := eF.frozen (p := ⟨w.heap.size + 2,2,none⟩) (by simp;omega) (y0 2);have m0 := eF.cell a0;have m1 := eF.cell t0;have m2 := eF.cell t1;have m3 := eF.cell t2;clear a0 t0 t1 t2 d0 d1 d2 d3 A B D2;go_wp2_with fail;refine (G.out _ eF).mono ?_;rintro e w4 ⟨q4,cp4,vs4,rfl,own4,hf4,e4'⟩
       generalize rowsM L0 xs C R = z at *;generalize hz : z.length = zl at *;have HZ := hid hz;clear hz;have hz2 : w.heap.size + 2 < wf.heap.size := lt_of_cell n0;have l0 := e4'.cell n0;have l1 := e4'.cell n1;have l2 := e4'.cell n2;have l3 := e4'.frozen (p := ⟨w.heap.size + 2,0,none⟩) hz2 n3;have l4 := e4'.frozen (p := ⟨w.heap.size + 2,1,none⟩) hz2 n4;have l5 := e4'.frozen (p := ⟨w.heap.size + 2,2,none⟩) hz2 n5;have e5 := E0.trans (eF.trans e4');have s5 := eF.size;clear n0 n1 n2 n3 n4 n5 z0 z1 z2 y0;generalize outL L0 = oL at *;go_wp2;refine bodyPost_ret (v := .tuple #[.agg #[.int .i64 R,.int .i64 oL,.slice q4 zl cp4],.bool true]) (by simp [results,Try.results28,go_sem,l0,l1,l2,l3,l4,l5]) rfl ?_;exact outT_ten HZ.out (ja0 (ja3 (S := fun k => k = w.heap.size + 2) own4 (by (repeat (first | (with_reducible first | exact Chg.refl _ _ | exact Chg.of_ext (by assumption) | assumption) | ((with_reducible refine Chg.setCell ?_ ?_ _);rotate_left;focus (first | (simp;done) | (simp;omega))) | (with_reducible first | refine Chg.alloc ?_ _ | refine Chg.drew ?_ | refine px3 ?_ (by assumption))))) (fun k hk => by omega)) (by have := E0.size;omega)) hf4 (by decide) rfl (by (repeat (first | (with_reducible first | exact Ext.refl _ | assumption) | ((with_reducible refine Ext.setCell ?_ ?_ _);rotate_left;focus (first | (simp;done) | (simp;omega))) | (with_reducible first | refine px1 ?_ _ | refine px2 ?_ | refine Ext.trans ?_ (by assumption)))))
     · rw [if_neg (fun h => hx h.2.2)]
       have hx2 : ((C : Int) != I) = true := bne_t hx;clear E hM h1n hmn D hx;generalize hI : (C : Int) = kk at *;have HI2 := hid hI;clear hI;obtain ⟨F,hF⟩ : ∃ F : Option Tmp → World → Value → Prop,F = fun d _ u => match d with | some 7 => u = .bool true | some 11 => u = .bool true | _ => u = .int .i64 I := ⟨_,rfl⟩
       have HF := hid hF;clear hF;go_enter Try.func28,Try.ntmps28;go_wp2;rw [← hW0];clear hW0;have eD := Ext.drew W0;have d0 := eD.cell a0;have d1 := eD.cell t0;have d2 := eD.cell t1;have d3 := eD.cell t2;refine jab (F := F) (by kernel_rfl) (by kernel_rfl) (by kernel_rfl) ?_;intro wf hwf
       repeat (first
        | ((first | (refine jar rfl ?_) | (refine x_mv rfl rfl rfl ?_) | (refine x_as rfl rfl rfl ?_) | ((with_reducible show gx6);first | (refine jay (f := 35) (args := #[.agg #[.slice p n c]]) rfl rfl Try.func35 rfl (by kernel_rfl) ?_ ?_ ?_;(focus (simp [Act.eval];done));(focus (intro w1 hw1;exact (by rw [HF.out];exact (A.out w1 (eD.trans hw1)).mono fun e w3 h => ⟨_,h.1,h.2,rfl⟩)));rintro u w3 e3 e4 hu;simp only [HF.out] at hu;subst hu) | (refine jay (f := 69) (args := #[.agg #[.int .i64 R,.int .i64 kk,.slice q m cq]]) rfl rfl Try.func69 rfl (by kernel_rfl) ?_ ?_ ?_;(focus (simp [Act.eval];done));(focus (intro w1 hw1;exact (by rw [HF.out];exact (B.out w1 (eD.trans hw1)).mono fun e w3 h => ⟨_,h.1,h.2,rfl⟩)));rintro u w3 e3 e4 hu;simp only [HF.out] at hu;subst hu) | (refine jay (f := 70) (args := #[.agg #[.slice p n c]]) rfl rfl Try.func70 rfl (by kernel_rfl) ?_ ?_ ?_;(focus (simp [Act.eval];done));(focus (intro w1 hw1;exact (by rw [HF.out];exact (D2.out w1 (eD.trans hw1)).mono fun e w3 h => ⟨_,h.1,h.2,rfl⟩)));rintro u w3 e3 e4 hu;simp only [HF.out] at hu;subst hu)));simp only [Act.put,jad,pu1,pu2,pu3,pu4,pu5])
        | (refine ja7 rfl fun K hK w1 hw1 => ?_;have k0 := hw1.cell (d0);have k1 := hw1.cell (d1);have k2 := hw1.cell (d2);have k3 := hw1.cell (d3);go_simp;refine hK _ ?_;clear hK K k0 k1 k2 k3 hw1 w1))
       refine ja6 ?_;have eF := eD.trans hwf;have n0 := eF.cell z0;have n1 := eF.cell z1;have n2 := eF.cell z2;have n3 := eF.frozen (p := ⟨w.heap.size + 2,0,none⟩) (by simp;omega) (y0 0);have n4 := eF.frozen (p := ⟨w.heap.size + 2,1,none⟩) (by simp;omega) (y0 1);have n5 := eF.frozen (p := ⟨w.heap.size + 2,2,none⟩) (by simp;omega) (y0 2);have m0 := eF.cell a0;have m1 := eF.cell t0;have m2 := eF.cell t1;have m3 := eF.cell t2;clear z0 z1 z2 y0 a0 t0 t1 t2 d0 d1 d2 d3;go_wp2;refine bodyPost_ret (v := .tuple #[.agg #[.int .i64 0,.int .i64 0,.slice none 0 0],.bool false]) (by simp [results,Try.results28,go_sem,n0,n1,n2,n3,n4,n5]) rfl ?_;exact outT_no_ten rfl (by have := E0.trans eF;(repeat (first | (with_reducible first | exact Ext.refl _ | assumption) | ((with_reducible refine Ext.setCell ?_ ?_ _);rotate_left;focus (first | (simp;done) | (simp;omega))) | (with_reducible first | refine px1 ?_ _ | refine px2 ?_ | refine Ext.trans ?_ (by assumption)))))
end Go.Proofs.Ytmbckkcgiafagaa.lRunModel
namespace Go.Proofs.Ytmbckkcgiafagaa.lStagesOf
open Go.RowKit
theorem _root_.Go.Proofs.Ytmbckkcgiafagaa.GrowOwn.base {w : World} {B B' : Nat} {te : TypeId} {E : Sh} {v : Value} {l : List E.T} {css : List (List Value)} {bss : List (List Nat)} (h : GrowOwn w B te E v l css bss) (hB : B' ≤ B) : GrowOwn w B' te E v l css bss :=
 ⟨ja0 h.row hB,h.els,h.nodup,fun b hb => ⟨Nat.le_trans hB (h.lo b hb).1,(h.lo b hb).2⟩⟩
end Go.Proofs.Ytmbckkcgiafagaa.lStagesOf
namespace Go.Proofs.Ytmbckkcgiafagaa.lRunLayer
open Go.RowKit
def res (d : jaa.T) (xs : List Nat) : List Nat × Bool := if layD d = true ∧ (xs.length : Int) = d.2.1 then (layF d xs,true) else ([],false)
theorem impl_ok (cs0 : List Value) (D0 : jaa.T) (cs1 : List Value) (D1 : List Nat) (w : World) (h0 : Rep w jaa cs0 D0) (h1 : Rep w (.sl .flt) cs1 D1) : Calls Try.prog 38 #[ofCs jaa cs0,ofCs (.sl .flt) cs1] w (OutOk w (.sl .flt) (res D0 D1)) := by
 have hl := hid h0.size;have ho := hid h0.one;obtain ⟨p,c,us,rfl,hp,hf,hc,_⟩ := ja5.1 h1;have A := hid (fun w1 (e1 : Ext w w1) => valid_at (h0.ext e1));have B := hid (fun w1 (e1 : Ext w w1) hv hx => run_lay cs0 D0 p _ c us D1 w1 (h0.ext e1) hv rfl hx (hp.ext e1) hf);have hcs : cs0[1]? = some (.int .i64 D0.2.1) := by obtain ⟨pw,cw,pb,cb,rfl,_⟩ := lay_vals h0;rfl
 unfold res;generalize hL : D1.length = n at *;have HL := hid hL;simp only [ofCs,Sh.agg,List.headD_cons,Bool.false_eq_true,if_false,if_true];have H1 := hid hcs;clear h0 h1 hcs hL
 by_cases hv : layD D0 = true
 · by_cases hx : (n : Int) = D0.2.1
   · rw [if_pos ⟨hv,hx⟩]
     have B2 := hid (fun w1 e1 => B.out w1 e1 hv hx);rw [hv] at A;have HX := hid hx;clear hx B hv;go_enter Try.func38,Try.ntmps38;go_wp2_with (first | ((with_reducible show gx12);refine wl_box (s := jaa) (cs := cs0) rfl rfl rfl hl.out ho.out ?_;intro b v e1 hlo c1) | ((with_reducible show gx13);refine wl_ldA (s := jaa) (cs := cs0) rfl rfl rfl c1 hl.out ?_;simp only [ofCs,Sh.agg,if_true]));refine (A.out _ e1).mono ?_;rintro e w1 ⟨rfl,e2⟩
     have c2 := c1.ext e2;have g1 := c2.cell 1 _ H1.out;simp only [jap] at g1;rw [← HX.out] at g1;go_wp2_with ((with_reducible show gx13);refine wl_ldA (s := jaa) (cs := cs0) rfl rfl rfl c2 hl.out ?_;simp only [ofCs,Sh.agg,if_true]);refine (B2.out _ (e1.trans e2)).mono ?_;rintro e w3 ⟨q,cq,vs,rfl,own0,HF,he⟩
     go_wp2;go_ret2;exact out_flts (ja0 own0 (e1.trans e2).size) HF rfl ((e1.trans e2).trans he)
   · rw [if_neg (fun h => hx h.2)]
     rw [hv] at A;have hx2 : ((n : Int) != D0.2.1) = true := bne_t hx;clear B hv hx;go_enter Try.func38,Try.ntmps38;go_wp2_with (first | ((with_reducible show gx12);refine wl_box (s := jaa) (cs := cs0) rfl rfl rfl hl.out ho.out ?_;intro b v e1 hlo c1) | ((with_reducible show gx13);refine wl_ldA (s := jaa) (cs := cs0) rfl rfl rfl c1 hl.out ?_;simp only [ofCs,Sh.agg,if_true]));refine (A.out _ e1).mono ?_;rintro e w1 ⟨rfl,e2⟩
     have c2 := c1.ext e2;have g1 := c2.cell 1 _ H1.out;simp only [jap] at g1;go_wp2;go_ret2;exact outOk_no rfl (e1.trans e2)
 · rw [if_neg (fun h => hv h.1)]
   have hv : layD D0 = false := by simpa using hv
   rw [hv] at A;clear B hv;go_enter Try.func38,Try.ntmps38;go_wp2_with (first | ((with_reducible show gx12);refine wl_box (s := jaa) (cs := cs0) rfl rfl rfl hl.out ho.out ?_;intro b v e1 hlo c1) | ((with_reducible show gx13);refine wl_ldA (s := jaa) (cs := cs0) rfl rfl rfl c1 hl.out ?_;simp only [ofCs,Sh.agg,if_true]));refine (A.out _ e1).mono ?_;rintro e w1 ⟨rfl,e2⟩
   go_wp2;go_ret2;exact outOk_no rfl (e1.trans e2)
end Go.Proofs.Ytmbckkcgiafagaa.lRunLayer
namespace Go.Proofs.Ytmbckkcgiafagaa
open Go.RowKit
abbrev shExamples : Sh := .pr jae (.pr jae (.un))
def exaB (r1 c1 : Int) (n1 : Nat) (r2 c2 : Int) (n2 : Nat) : Bool := tenB r1 c1 n1 && (tenB r2 c2 n2 && decide (r1 = r2))
end Go.Proofs.Ytmbckkcgiafagaa
namespace Go.Proofs.Ytmbckkcgiafagaa.lCountCorrect
open Go.RowKit
theorem take_rowsM {l : List jaa.T} {xs : List Nat} {c R m : Nat} (hM : ModOk l) (hc : (c : Int) = inL l 0) (hm : (m : Int) = outL l) (hx : xs.length = R * c) (r : Nat) : ∀ k,r + k ≤ R → (rowsM l xs c (r + k)).take (r * m) = rowsM l xs c r
 | 0,h => by rw [Nat.add_zero,← rowsM_len hM hc hm hx r (by omega),List.take_length]
 | k + 1,h => by
   rw [show r + (k + 1) = (r + k) + 1 by omega,rowsM_succ,List.take_append_of_le_length,take_rowsM hM hc hm hx r k (by omega)];rw [rowsM_len hM hc hm hx (r + k) (by omega)];exact Nat.mul_le_mul_right m (by omega)
theorem rowT_rowsM {l : List jaa.T} {xs : List Nat} {c R m : Nat} (hM : ModOk l) (hc : (c : Int) = inL l 0) (hm : (m : Int) = outL l) (hx : xs.length = R * c) {i : Nat} (hi : i < R) : rowT (rowsM l xs c R) m i = curF l (rowT xs c i) l.length := by
 have h1 := take_rowsM hM hc hm hx (i + 1) (R - (i + 1)) (by omega);rw [show i + 1 + (R - (i + 1)) = R by omega] at h1;unfold rowT;rw [h1,rowsM_succ,← rowsM_len hM hc hm hx i (by omega),List.drop_left];rfl
def okD (d : jag.T) (x : shExamples.T) : Prop := exaB x.1.1 x.1.2.1 (x.1.2.2.1 : List Nat).length x.2.1.1 x.2.1.2.1 (x.2.1.2.2.1 : List Nat).length = true ∧ modB d.1 = true ∧ x.1.2.1 = inL d.1 0 ∧ x.2.1.2.1 = outL d.1
instance (d : jag.T) (x : shExamples.T) : Decidable (okD d x) := by unfold okD;infer_instance
end Go.Proofs.Ytmbckkcgiafagaa.lCountCorrect
namespace Go.Proofs.Ytmbckkcgiafagaa
open Go.RowKit
theorem RunModel_yes (q tq : Option Addr) (n c R I O tc : Nat) (L : List jaa.T) (xs : List Nat) (w : World) (hm : modB L = true) (hn : L.length = n) (hf : Fit (.sl jaa) L) (hr : Rep w (.sl jaa) [.slice q n c] L) (hI : (I : Int) = inL L 0) (hO : (O : Int) = outL L) (hR : 1 ≤ R ∧ R ≤ 16) (hI1 : 1 ≤ I ∧ I ≤ 16) (hx : xs.length = R * I) (hxb : ∀ x ∈ xs,x < 4294967296) (ht : Rep w (.sl .flt) [.slice tq (R * I) tc] xs) :
 Calls Try.prog 28 #[.agg #[.slice q n c],.agg #[.int .i64 R,.int .i64 I,.slice tq (R * I) tc]] w fun e w' => ∃ (oq : Option Addr) (oc : Nat) (us : List Value),e = .returned (.tuple #[.agg #[.int .i64 R,.int .i64 O,.slice oq (R * O) oc],.bool true]) ∧ (rowsM L xs I R).length = R * O ∧ Cs w' oq us ∧ F32s us (rowsM L xs I R) ∧ R * O ≤ oc ∧ oc ≤ maxLen ∧ Ext w w' := by
 subst hn;have hMO := modOk hm
 have htb : tenB (R : Int) (I : Int) xs.length = true := by
  unfold tenB;rw [jas.2 (show (1 : Int) ≤ R ∧ (R : Int) ≤ 16 by omega),jas.2 (show (1 : Int) ≤ I ∧ (I : Int) ≤ 16 by omega),hx];simp
 have hres : lRunModel.res (L,()) ((R : Int),(I : Int),xs,()) = (((R : Int),(O : Int),rowsM L xs I R,()),true) := by
  unfold lRunModel.res;rw [if_pos ⟨hm,htb,hI⟩];show (((R : Int),outL L,rowsM L xs (I : Int).toNat (R : Int).toNat,()),true) = _;rw [← hO,Int.toNat_natCast,Int.toNat_natCast]
 have f0 : Fit jag (L,()) := ⟨hf,trivial⟩
 have fi : ∀ z : Nat,z ≤ 100 → Fit .int (z : Int) := fun z hz => by
  have : -9223372036854775808 ≤ (z : Int) ∧ (z : Int) ≤ 9223372036854775807 := by omega
  exact this
 have f1 : Fit jae ((R : Int),(I : Int),xs,()) := ⟨fi R (by omega),fi I (by omega),hxb,trivial⟩;have hrep1 : Rep w jae [.int .i64 R,.int .i64 I,.slice tq (R * I) tc] ((R : Int),(I : Int),xs,()) := ⟨[.int .i64 R],_,rfl,rfl,⟨[.int .i64 I],_,rfl,rfl,⟨[.slice tq (R * I) tc],[],rfl,ht,rfl⟩⟩⟩;have CC := lRunModel.impl_ok [.slice q L.length c] (L,()) [.int .i64 R,.int .i64 I,.slice tq (R * I) tc] ((R : Int),(I : Int),xs,()) w ⟨[.slice q L.length c],[],rfl,hr,rfl⟩ hrep1 f0 f1;have hl := rowsM_len (xs := xs) (c := I) hMO hI hO hx R (Nat.le_refl _);simp only [hres,ofCs,Sh.agg,if_true,List.append_nil,List.headD_cons,Bool.false_eq_true,if_false] at CC;refine CC.mono ?_;rintro e w' ⟨cs,bs,rfl,o,_,_,_,e1⟩
 obtain ⟨p,c',us,h1,h2,h3,h4,h5⟩ := ten_vals o.rep;subst h1;dsimp only at h2 h3 h4;rw [hl] at h4;exact ⟨p,c',us,by simp only [ofCs,Sh.agg,if_true,hl],hl,h2,h3,h4,h5,e1⟩
theorem RunLayer_yes (ce : List Value) (d : jaa.T) (tq : Option Addr) (I tc : Nat) (xs : List Nat) (w : World) (hd : layD d = true) (hr : Rep w jaa ce d) (hI : (I : Int) = d.2.1) (hx : xs.length = I) (ht : Rep w (.sl .flt) [.slice tq I tc] xs) :
 Calls Try.prog 38 #[ofCs jaa ce,.slice tq I tc] w fun e w' => ∃ (p : Option Addr) (k : Nat) (us : List Value),e = .returned (.tuple #[.slice p (layF d xs).length k,.bool true]) ∧ Cs w' p us ∧ F32s us (layF d xs) ∧ (layF d xs).length ≤ k ∧ k ≤ maxLen ∧ Ext w w' := by
 have hres : lRunLayer.res d xs = (layF d xs,true) := by
  unfold lRunLayer.res;rw [if_pos ⟨hd,by rw [hx];exact hI⟩]
 have CC := lRunLayer.impl_ok ce d [.slice tq I tc] xs w hr ht;rw [hres] at CC;refine CC.mono ?_;rintro e w' ⟨cs,bs,rfl,o,_,_,e1⟩
 obtain ⟨p,c',us,h1,h2,h3,h4,h5⟩ := ja5.1 o.rep;subst h1;exact ⟨p,c',us,rfl,h2,h3,h4,h5,e1⟩
end Go.Proofs.Ytmbckkcgiafagaa
