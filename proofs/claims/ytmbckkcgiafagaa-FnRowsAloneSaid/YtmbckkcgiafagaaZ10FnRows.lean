/- A part of the proofs: RowM, RowS, Tab, CpyM, AggW. -/
import Derived.Test.YtmbckkcgiafagaaZ09FnRows
import Derived.Test.YtmbckkcgiafagaaZ07FnRows
import Derived.Test.YtmbckkcgiafagaaZ06FnRows
set_option linter.unusedSimpArgs false
set_option linter.unusedVariables false
set_option maxRecDepth 100000
set_option maxHeartbeats 16000000
namespace Go.Proofs.Ytmbckkcgiafagaa
open Go.RowKit
theorem jag {w : World} {b : Nat} {Z : Array Value} {t : TypeId} {j : Nat} {v : Value} (h : w.heap[b]? = some (.cells Z t)) (hv : Z[j]? = some v) : w.cell? ⟨b,j,none⟩ = some v := by simp [World.cell?,h,hv]
theorem frozen_of_heap {w : World} {b : Nat} {Z : Array Value} {t : TypeId} {j : Nat} (h : w.heap[b]? = some (.cells Z t)) : w.frozen? ⟨b,j,none⟩ = false := by simp [World.frozen?,h]
theorem box2 {w W0 : World} {A B : Array Value} {ta tb : TypeId} (h : W0 = (w.alloc (.cells A ta)).alloc (.cells B tb)) : Ext w W0 ∧ W0.heap.size = w.heap.size + 2 ∧ W0.heap[w.heap.size]? = some (.cells A ta) ∧ W0.heap[w.heap.size + 1]? = some (.cells B tb) := by
 subst h;have e1 := Ext.alloc w (.cells A ta);have e2 := Ext.alloc (w.alloc (.cells A ta)) (.cells B tb);refine ⟨e1.trans e2,by simp,?_,?_⟩
 · rw [e2.block _ (by simp)];exact heap_alloc_new w _
 · have := heap_alloc_new (w.alloc (.cells A ta)) (.cells B tb)
   simpa using this
theorem box3 {w W0 : World} {A B C : Array Value} {ta tb tc : TypeId} (h : W0 = ((w.alloc (.cells A ta)).alloc (.cells B tb)).alloc (.cells C tc)) : Ext w W0 ∧ W0.heap.size = w.heap.size + 3 ∧ W0.heap[w.heap.size]? = some (.cells A ta) ∧ W0.heap[w.heap.size + 1]? = some (.cells B tb) ∧ W0.heap[w.heap.size + 2]? = some (.cells C tc) := by
 subst h;obtain ⟨h1,h2,h3,h4⟩ := box2 (w := w) (A := A) (B := B) (ta := ta) (tb := tb) rfl;have e3 := Ext.alloc ((w.alloc (.cells A ta)).alloc (.cells B tb)) (.cells C tc);refine ⟨h1.trans e3,by simp,?_,?_,?_⟩
 · rw [e3.block _ (by simp;omega)];exact h3
 · rw [e3.block _ (by simp)];exact h4
 · have := heap_alloc_new ((w.alloc (.cells A ta)).alloc (.cells B tb)) (.cells C tc)
   simpa using this
section
variable {P : Program} {w wf : World} {ops : Array Oper} {rest : List Oper} {o : Oper} {a : Act} {Q : Act → Prop} {F : Option Tmp → World → World → Value → Prop}
theorem x_alloc {t : TypeId} {Z : Array Value} (hw : Region.wanted o (yielded ops a.tmps) = true) (hr : ∀ w1,(execOp a.eval o).run P w1 = .ok (.value (.pointer (some ⟨w1.heap.size,0,none⟩))) (w1.alloc (.cells Z t)))
 (h : ∀ b,w.heap.size ≤ b → b < wf.heap.size → wf.heap[b]? = some (.cells Z t) → wpX P ops F w wf Q rest (a.put o.dst (.pointer (some ⟨b,0,none⟩)))) : wpX P ops F w wf Q (o :: rest) a :=
 x_made (V := fun wf u => ∃ b,u = .pointer (some ⟨b,0,none⟩) ∧ w.heap.size ≤ b ∧ b < wf.heap.size ∧ wf.heap[b]? = some (.cells Z t)) hw
  (fun w1 e1 => ⟨_,_,hr w1,Ext.alloc _ _,fun wf hf => ⟨w1.heap.size,rfl,e1.size,Nat.lt_of_lt_of_le (by simp) hf.size,by rw [hf.block _ (by simp)];exact heap_alloc_new w1 _⟩⟩)
  (fun u ⟨b,h1,h2,h3,h4⟩ => by subst h1;exact h b h2 h3 h4)
end
theorem growBase {w : World} {B B' : Nat} {te : TypeId} {E : Sh} {v : Value} {l : List E.T} {css : List (List Value)} {bss : List (List Nat)} (h : GrowOwn w B te E v l css bss) (hB : B' ≤ B) : GrowOwn w B' te E v l css bss :=
 ⟨jbe h.row hB,h.els,h.nodup,fun b hb => ⟨Nat.le_trans hB (h.lo b hb).1,(h.lo b hb).2⟩⟩
theorem jav {S : Nat → Prop} {w w' : World} {B e s n : Nat} {v : Value} {vs : List Value} (h : w.ownsRow B e s v n vs) (k : Chg S w w') (hS : ∀ b,S b → b < B) : w'.ownsRow B e s v n vs := by
 obtain ⟨h1,h2⟩ := h;refine ⟨h1,?_⟩;rcases h2 with h2 | ⟨g,cap,cur,hv,hg,hh,r⟩
 · exact .inl h2
 · have hlt : g < w.heap.size := by
    rcases Nat.lt_or_ge g w.heap.size with h' | h'
    · exact h'
    · simp [Array.getElem?_eq_none h'] at hh
   exact .inr ⟨g,cap,cur,hv,hg,by rw [k.block g hlt (fun hs => by have := hS g hs;omega)];exact hh,r⟩
theorem own_slice {w : World} {B e s n : Nat} {v : Value} {vs : List Value} (h : w.ownsRow B e s v n vs) : ∃ q c,v = .slice q n c := by
 rcases h.2 with ⟨h1,h2⟩ | ⟨g,cap,cur,h1,_⟩
 · exact ⟨none,0,by rw [h1,h2]⟩
 · exact ⟨_,_,h1⟩
def IsSt (B : Nat) (l : List (List Nat)) (w : World) (u : Value) : Prop := ∃ css bss,GrowOwn w B 25 (.sl .flt) u l css bss
theorem IsSt.ext {B : Nat} {l : List (List Nat)} {w w' : World} {u : Value} (h : IsSt B l w u) (e : Ext w w') : IsSt B l w' u := by
 obtain ⟨css,bss,hg⟩ := h;exact ⟨css,bss,hg.ext e⟩
theorem IsSt.last {B : Nat} {l : List jaa.T} {x : List Nat} {n : Nat} {w : World} {u : Value} (h : IsSt B (stF l x n) w u) (hn : 1 ≤ n) : ∃ (p : Option Addr) (k : Nat) (q : Option Addr) (m cq : Nat) (css : List (List Value)),u = .slice p n k ∧ Cs w p css.flatten ∧ (∀ c ∈ css,c.length = 1) ∧ css.length = n ∧ p.isSome = true ∧ css[n - 1]? = some [.slice q m cq] ∧ Rep w (.sl .flt) [.slice q m cq] (curF l x n) := by
 obtain ⟨css,bss,hg⟩ := h;have hrow := hg.row;rw [stF_len] at hrow;have hall := hg.els.all;have k1 := hg.els.1;have k2 := hg.els.2.1;rw [stF_len] at k1 k2
 have hr := (hg.els.2.2 (n - 1) (css[n - 1]'(by omega)) (bss[n - 1]'(by omega)) (curF l x n) (by simp) (by simp) (by
  unfold stF;rw [List.getElem?_map,List.getElem?_range (by omega)];simp [show n - 1 + 1 = n by omega])).rep
 obtain ⟨q,cq,us,hc,hrest⟩ := ja8.1 hr
 obtain ⟨p,k,rfl⟩ : ∃ p k,u = .slice p n k := by
  rcases hrow.2 with ⟨h1,h2⟩ | ⟨g,cap,cur,h1,_⟩
  · exact ⟨none,0,by rw [h1,h2]⟩
  · exact ⟨_,_,h1⟩
 have hp := own_Cs hrow;refine ⟨p,k,q,_,cq,css,rfl,hp,hall,k1,?_,by rw [← hc];simp,by rw [← hc];exact hr⟩;exact hp.some_of (s := 1) (i := 0) hall (by decide) (by omega)
theorem rep_row {w : World} {p : Option Addr} {us : List Value} {xs : List Nat} {C i R cp : Nat} (hp : Cs w p us) (hf : F32s us xs) (hx : xs.length = R * C) (hi : i < R) (hcp : R * C ≤ cp) (hcm : cp ≤ maxLen) : Rep w (.sl .flt) [.slice (subp p 1 (i * C) cp) C (cp - i * C)] (rowT xs C i) := by
 have hl := rowT_len hx hi;have h1 := row_le (c := C) hi;have h2 : (i + 1) * C = i * C + C := by rw [Nat.add_mul];omega
 refine ja8.2 ⟨_,_,_,by rw [hl],row_cs hp (by omega),hf.part _ _,by rw [hl];omega,by omega⟩
def RetTen (w : World) (r c : Int) (xs : List Nat) (e : Ending) (w' : World) : Prop :=
 ∃ q cp vs,e = .returned (.agg #[.int .i64 r,.int .i64 c,.slice q xs.length cp]) ∧ w'.ownsRow w.heap.size 33 1 (.slice q xs.length cp) xs.length vs ∧ F32s vs xs ∧ Ext w w'
theorem RetTen.of {w w' : World} {r c : Int} {xs : List Nat} {v : Value} {vs : List Value} {n : Nat} {e : Ending} (hl : xs.length = n) (h : w'.ownsRow w.heap.size 33 1 v n vs) (hf : F32s vs xs) (he : e = .returned (.agg #[.int .i64 r,.int .i64 c,v])) (hx : Ext w w') : RetTen w r c xs e w' := by
 obtain ⟨q,cp,us,h1,h2,h3,h4⟩ := retFl_of hl h hf (e := .returned v) rfl hx;simp only [Ending.returned.injEq] at h1;subst h1;exact ⟨q,cp,us,he,h2,h3,h4⟩
theorem app_row {A : List Nat} {n m : Nat} (h : A.length = n * m) : (n + 1) * m = n * m + m := by rw [Nat.add_mul];omega
theorem runModel_any (p q0 : Option Addr) (n c cp R C : Nat) (css : List (List Value)) (l : List jaa.T) (us : List Value) (xs : List Nat) (w : World) (L : Lays w p n css l) (hM : ModOk l) (hx : (C : Int) = inL l 0)
 (hR1 : R ≤ 16) (hC : C ≤ 16) (hxs : xs.length = R * C) (hcp : R * C ≤ cp) (hcm : cp ≤ maxLen) (hp : Cs w q0 us) (hf : F32s us xs) :
 Calls Try.prog 71 #[.agg #[.slice p n c],.agg #[.int .i64 R,.int .i64 C,.slice q0 (R * C) cp]] w (RetTen w R (outL l) (rowsM l xs C R)) := by
 obtain ⟨m,hm,hm1,hm8⟩ := outL_nat hM;have hlen := rowsM_len hM hx hm hxs;have hn : n ≤ 6 := by have := hM.few;rw [L.len] at this;exact this
 have hn1 : 1 ≤ n := by have := hM.pos;rw [L.len] at this;exact this
 have A := hid (fun W (h : Ext w W) => out_any p n c css l W (L.ext h) hn1);rw [← hm] at A ⊢;have B := hid (fun i (hi : i < R) W (h : Ext w W) => row_any R C i (R * C) cp q0 W hi hR1 hC rfl hcp);have D := hid (fun i (hi : i < R) W (h : Ext w W) => stages_any p (subp q0 1 (i * C) cp) n c C (cp - i * C) css l (rowT xs C i) W (L.ext h) hM (rep_row (hp.ext h) hf hxs hi hcp hcm) (by rw [rowT_len hxs hi];exact hx));have HL := hid L.len;have Hlen := hid hlen;have Hs := hid (fun r => rowsM_succ l xs C r);have hRC : R * C ≤ 256 := Nat.mul_le_mul hR1 hC
 have Hcur := hid (fun i (hi : i < R) => show (curF l (rowT xs C i) n).length = m by
  have h1 := cur_out hM (x := rowT xs C i) (by rw [rowT_len hxs hi];exact hx);rw [L.len] at h1;omega)
 clear L hM hx hlen hm hp hf hxs;generalize R * C = kk at *;obtain ⟨W0,hW0⟩ : ∃ W0,W0 = ((w.alloc (.cells #[.slice p n c] 38)).alloc (.cells #[.int .i64 R,.int .i64 C,.slice q0 kk cp] 27)).alloc (.cells #[.int .i64 0,.int .i64 0,.slice none 0 0] 27) := ⟨_,rfl⟩;obtain ⟨E0,s0,b0,b1,b2⟩ := box3 hW0;have a0 : W0.cell? ⟨w.heap.size,0,none⟩ = some (.slice p n c) := jag b0 rfl;have t0 : W0.cell? ⟨w.heap.size + 1,0,none⟩ = some (.int .i64 R) := jag b1 rfl;have t1 : W0.cell? ⟨w.heap.size + 1,1,none⟩ = some (.int .i64 C) := jag b1 rfl;have t2 : W0.cell? ⟨w.heap.size + 1,2,none⟩ = some (.slice q0 kk cp) := jag b1 rfl;have z0 : W0.cell? ⟨w.heap.size + 2,0,none⟩ = some (.int .i64 0) := jag b2 rfl;have z1 : W0.cell? ⟨w.heap.size + 2,1,none⟩ = some (.int .i64 0) := jag b2 rfl;have z2 : W0.cell? ⟨w.heap.size + 2,2,none⟩ = some (.slice none 0 0) := jag b2 rfl;have y0 := fun j => frozen_of_heap b2 (j := j)
 clear b0 b1 b2;go_enter Try.func71,Try.ntmps71;go_wp2;rw [← hW0];clear hW0;have e1 := Ext.drew W0;have a1 := e1.cell a0;have u0 := e1.cell t0;obtain ⟨F,hF⟩ : ∃ F : Option Tmp → World → Value → Prop,F = fun _ _ u => u = .int .i64 m := ⟨_,rfl⟩
 have HF := hid hF;clear hF;refine wp_region_xt 6 (F := F) (by kernel_rfl) (by kernel_rfl) (by kernel_rfl) (by kernel_rfl) (by kernel_rfl) ?_;intro wf hwf;simp only [pw1,pw2,pw3,pw4]
 repeat (first
  | ((first | (refine jal rfl ?_) | (refine x_mv rfl rfl rfl ?_) | (refine x_as rfl rfl rfl ?_) | ((with_reducible show gx6);refine jap (f := 98) (args := #[.agg #[.slice p n c]]) rfl rfl Try.func98 rfl (by kernel_rfl) ?_ ?_ ?_;(focus (simp [Act.eval];done));(focus (intro w1 hw1;exact (by rw [HF.out];exact (A.out w1 (E0.trans (e1.trans hw1))).mono fun e w3 h => ⟨_,h.1,h.2,rfl⟩)));rintro u w3 e3 e4 hu;simp only [HF.out] at hu;subst hu) | ((with_reducible show gx15);refine x_alloc (t := 27) (Z := #[.int .i64 0,.int .i64 0,.slice none 0 0]) rfl (fun w1 => by go_simp) ?_;intro b hb1 hb2 hb3));simp only [Act.put,jad,pu1,pu2,pu3,pu4,pu5])
  | (refine ja2 rfl fun K hK w1 hw1 => ?_;have k0 := hw1.cell (a1);have k1 := hw1.cell (u0);go_simp;refine hK _ ?_;clear hK K k0 k1 hw1 w1))
 refine ja1 ?_;have E1 := e1.trans hwf;have o0 : wf.cell? ⟨b,0,none⟩ = some (.int .i64 0) := jag hb3 rfl;have o1 : wf.cell? ⟨b,1,none⟩ = some (.int .i64 0) := jag hb3 rfl;have o2 : wf.cell? ⟨b,2,none⟩ = some (.slice none 0 0) := jag hb3 rfl;have o3 := fun j => frozen_of_heap hb3 (j := j)
 have x0 := E1.cell t0;have hb1' : w.heap.size + 3 ≤ b := by have := e1.size;omega
 clear hb3 a1 u0;go_wp2;go_loopw [15] (fun iv wr => ∃ (r : Nat) (v : Value) (vs : List Value),r ≤ R ∧ iv = .int .i64 r ∧ wr.cell? ⟨b,0,none⟩ = some (.int .i64 R) ∧ wr.cell? ⟨b,1,none⟩ = some (.int .i64 m) ∧ wr.cell? ⟨b,2,none⟩ = some v ∧ wr.frozen? ⟨b,2,none⟩ = false ∧ wr.ownsRow (b + 1) 33 1 v (r * m) vs ∧ Hid (F32s vs (rowsM l xs C r)) ∧ Ext W0 wr ∧ b < wr.heap.size) (fun iv _ => R - (intOf iv).toNat)
 case atStart => exact ⟨0,.slice none 0 0,[],by omega,rfl,by go_simp,by go_simp,by go_simp,by go_simp,⟨by simp,.inl ⟨rfl,by simp⟩⟩,F32s.nil,by (repeat (first | (with_reducible first | exact Ext.refl _ | assumption) | ((with_reducible refine Ext.setCell ?_ ?_ _);rotate_left;focus (first | (simp;done) | (simp;omega))) | (with_reducible first | refine px1 ?_ _ | refine px2 ?_ | refine Ext.trans ?_ (by assumption)))),by simpa using hb2⟩
 case round =>
  clear o0 o1 o2 o3 x0 E1 hwf hb2;obtain ⟨r,v,vs,hr,rfl,k0,k1,k2,k3,hown,HV,he,hz⟩ := hrel;obtain ⟨q6,c6,rfl⟩ := own_slice hown
  by_cases hlt : r < R
  · have hRm : r * m ≤ 128 := Nat.mul_le_mul (show r ≤ 16 by omega) hm8
    have Am := hid (app_row (Hlen.out r hr));have eD := he.trans (Ext.drew wr);have g0 := eD.cell a0;have g1 := eD.cell t0;have g2 := eD.cell t1;have g3 := eD.cell t2;have C1 := hid (fun W (h : Ext wr.drew W) => B.out r hlt W (E0.trans (eD.trans h)));have C2 := hid (fun W (h : Ext wr.drew W) => D.out r hlt W (E0.trans (eD.trans h)));have Hc := hid (Hcur.out r hlt);have Hsr := hid (Hs.out r);have HL2 := HL;clear A B D Hcur;generalize hrc : r * C = rC at *;clear hrc;obtain ⟨F,hF⟩ : ∃ F : Option Tmp → World → Value → Prop,F = fun d w' u => match d with | some 21 => u = .slice (subp q0 1 rC cp) C (cp - rC) | some 22 => IsSt (b + 1) (stF l (rowT xs C r) n) w' u | _ => False := ⟨_,rfl⟩
    have HF := hid hF;clear hF;go_wp2;refine jab (F := F) (by kernel_rfl) (by kernel_rfl) (by kernel_rfl) ?_;intro wf hwf
    repeat (first
     | ((first | (refine jal rfl ?_) | (refine x_mv rfl rfl rfl ?_) | (refine x_as rfl rfl rfl ?_) | ((with_reducible show gx6);first | (refine jap (f := 114) (args := #[.agg #[.int .i64 R,.int .i64 C,.slice q0 kk cp],.int .i64 r]) rfl rfl Try.func114 rfl (by kernel_rfl) ?_ ?_ ?_;(focus (simp [Act.eval];done));(focus (intro w1 hw1;exact (by rw [HF.out];exact (C1.out w1 hw1).mono fun e w3 h => ⟨_,h.1,h.2,rfl⟩)));rintro u w3 e3 e4 hu;simp only [HF.out] at hu;subst hu) | (refine jap (f := 79) (args := #[.agg #[.slice p n c],.slice (subp q0 1 rC cp) C (cp - rC)]) rfl rfl Try.func79 rfl (by kernel_rfl) ?_ ?_ ?_;(focus (simp [Act.eval];done));(focus (intro w1 hw1;exact (by rw [HF.out];exact (C2.out w1 hw1).mono fun e w3 ⟨v,css,bss,h1,h2,h3⟩ => ⟨v,h1,h3,show IsSt (b + 1) (stF l (rowT xs C r) n) w3 v from ⟨css,bss,growBase h2 (Nat.le_trans hz hw1.size)⟩⟩)));rintro u w3 e3 e4 hu;simp only [HF.out] at hu;have HU := hid (IsSt.ext hu e4);clear hu)));simp only [Act.put,jad,pu1,pu2,pu3,pu4,pu5])
     | (refine ja2 rfl fun K hK w1 hw1 => ?_;have k0 := hw1.cell (g0);have k1 := hw1.cell (g1);have k2 := hw1.cell (g2);have k3 := hw1.cell (g3);go_simp;refine hK _ ?_;clear hK K k0 k1 k2 k3 hw1 w1))
    refine ja1 ?_;obtain ⟨p5,k5,q5,m5,c5,css5,rfl,hp5,hall5,hcnt5,hs5,hget5,hrep5⟩ := IsSt.last (HU.out) hn1;clear HU;obtain ⟨us5,hx5,hc5,hf5,hmc5⟩ := rep_flt1 hrep5;have eF := eD.trans hwf;have hwf' := hwf;have o0 := hwf.cell ((Ext.drew wr).cell k2);have hownF := jaj hown ((Ext.drew wr).trans hwf);have hzF : b < wf.heap.size := Nat.lt_of_lt_of_le hz hwf.size;have fz := ((Ext.drew wr).trans hwf).frozen (p := ⟨b,2,none⟩) hz k3;have hm5 : m5 = m := by rw [← hx5];exact Hc.out
    have hm5c : m5 ≤ c5 := by rw [← hx5];exact hmc5
    subst hm5;have q1 : IntKind.i64.wrap ((n : Int) - 1) = ((n - 1 : Nat) : Int) := by rw [show (n : Int) - 1 = ((n - 1 : Nat) : Int) by omega];exact jat _ (by omega) (by omega)
    have hmm := hid (hf5.one);have eG := Ext.drew wf;have o1 := eG.cell o0;have hpG := hp5.ext eG;go_wp2;refine wp_region_xt 8 (F := fun _ _ _ => True) (by kernel_rfl) (by kernel_rfl) (by kernel_rfl) (by kernel_rfl) (by kernel_rfl) ?_;intro wf hwf;simp only [pw1,pw2,pw3,pw4]
    repeat (first
     | ((first | (refine jal rfl ?_) | (refine x_mv rfl rfl rfl ?_) | (refine x_as rfl rfl rfl ?_) | ((with_reducible show gx0);refine x_idxloadE (s := (.sl .flt)) (j := n - 1) rfl rfl (fun _ => rfl) rfl (fun _ => rfl) rfl rfl (by first | rfl | exact q1 | omega) hpG hall5 hcnt5 (by omega) hs5 hget5 ?_;simp only [ofCs,Sh.agg,List.headD_cons,Bool.false_eq_true,if_false]));simp only [Act.put,jad,pu1,pu2,pu3,pu4,pu5])
     | (refine ja2 rfl fun K hK w1 hw1 => ?_;have k0 := hw1.cell (o1);go_simp;refine hK _ ?_;clear hK K k0 hw1 w1))
    refine ja1 ?_;have eH := eG.trans hwf;have l0 := eH.cell o0;have l2 := eH.frozen (p := ⟨b,2,none⟩) hzF fz;have hownH := jaj hownF eH;have hzH : b < wf.heap.size := Nat.lt_of_lt_of_le hzF eH.size;have hcH := hc5.ext eH;have l1 := (eF.trans eH);have l3 := (((Ext.drew wr).trans hwf').trans eH);go_wp2_with ((with_reducible show gx8);refine wl_appz rfl rfl rfl rfl hownH hcH (by rw [Nat.mul_one,hf5.1,hx5]) hm5c hmm.out (by unfold maxLen;omega) (by omega) (by have := eH.size;omega) ?_;intro v9 w9 own9 g9;obtain ⟨q9,c9,rfl⟩ := own_slice own9;have l4 := (g9.block b (by omega) (fun hh => by have := jaf hownH b hh.symm;omega));have l5 := (World.cell?_of_block (a := ⟨b,2,none⟩) l4).trans l0;have l6 := (World.frozen?_of_block (a := ⟨b,2,none⟩) l4).trans l2;clear l4);go_roundw
    case rel =>
     have blk := g9.block b hzH (fun hh => by have := jaf hownH b hh.symm;omega);have j0 := (World.cell?_of_block (a := ⟨b,0,none⟩) blk).trans (l3.cell k0);have j1 := (World.cell?_of_block (a := ⟨b,1,none⟩) blk).trans (l3.cell k1);have am := Am.out;have e9 : Ext W0 w9 := l1.grown g9 (fun k hk => by have := jaf hownH k hk;omega);have hz9 := g9.size;have hchg : Chg (fun k => k = b) w9 (w9.setCell ⟨b,2,none⟩ (.slice q9 (r * m5 + m5) c9)) := by (repeat (first | (with_reducible first | exact Chg.refl _ _ | exact Chg.of_ext (by assumption) | assumption) | ((with_reducible refine Chg.setCell ?_ ?_ _);rotate_left;focus (first | (simp;done) | (simp;omega))) | (with_reducible first | refine Chg.alloc ?_ _ | refine Chg.drew ?_ | refine px3 ?_ (by assumption))))
     have hF9 := HV.out.app hf5;rw [← HL.out,← Hsr.out] at hF9;refine ⟨r + 1,.slice q9 (r * m5 + m5) c9,vs ++ us5,by omega,by go_num,by go_simp,by go_simp,by go_simp,by go_simp,?_,hF9,?_,by simp;omega⟩
     · rw [am];exact jav own9 hchg (fun k hk => by omega)
     · exact e9.chg hchg (fun k hk => by omega)
    case measure => simp [intOf];omega
  · obtain rfl : r = R := by omega
    have n0 := he.cell z0;have n1 := he.cell z1;have n2 := he.cell z2;have n3 := he.frozen (p := ⟨w.heap.size + 2,0,none⟩) (by simp;omega) (y0 0);have n4 := he.frozen (p := ⟨w.heap.size + 2,1,none⟩) (by simp;omega) (y0 1);have n5 := he.frozen (p := ⟨w.heap.size + 2,2,none⟩) (by simp;omega) (y0 2);clear z0 z1 z2 y0;go_wp2;refine bodyPost_ret (v := .agg #[.int .i64 r,.int .i64 m,.slice q6 (r * m) c6]) (by simp [results,Try.results71,go_sem,n0,n1,n2,n3,n4,n5]) rfl ?_;exact RetTen.of (Hlen.out r (Nat.le_refl _)) (jbe (jav (S := fun k => k = w.heap.size + 2) hown (by (repeat (first | (with_reducible first | exact Chg.refl _ _ | exact Chg.of_ext (by assumption) | assumption) | ((with_reducible refine Chg.setCell ?_ ?_ _);rotate_left;focus (first | (simp;done) | (simp;omega))) | (with_reducible first | refine Chg.alloc ?_ _ | refine Chg.drew ?_ | refine px3 ?_ (by assumption))))) (fun k hk => by omega)) (by omega)) HV.out rfl (by have := E0.trans he;(repeat (first | (with_reducible first | exact Ext.refl _ | assumption) | ((with_reducible refine Ext.setCell ?_ ?_ _);rotate_left;focus (first | (simp;done) | (simp;omega))) | (with_reducible first | refine px1 ?_ _ | refine px2 ?_ | refine Ext.trans ?_ (by assumption)))))
theorem own_tag {w : World} {B te t s n b : Nat} {v : Value} {vs : List Value} {Z : Array Value} (h : w.ownsRow B te s v n vs) (hb : w.heap[b]? = some (.cells Z t)) (hne : te ≠ t) : ∀ k,v.ownBlock = some k → k ≠ b := by
 intro k hk he;subst he;rcases h.2 with ⟨h1,_⟩ | ⟨g,cap,cur,h1,_,h2,_⟩
 · subst h1;simp [Value.ownBlock] at hk
 · subst h1
   simp [Value.ownBlock] at hk;subst hk;rw [hb] at h2;simp only [Option.some.injEq,Obj.cells.injEq] at h2;exact hne h2.2.1.symm
theorem own_chgK {S : Nat → Prop} {w w' : World} {B e s n : Nat} {v : Value} {vs : List Value} (h : w.ownsRow B e s v n vs) (k : Chg S w w') (hS : ∀ b,v.ownBlock = some b → ¬ S b) : w'.ownsRow B e s v n vs := by
 have hlt0 := own_lt h;obtain ⟨h1,h2⟩ := h;refine ⟨h1,?_⟩;rcases h2 with h2 | ⟨g,cap,cur,hv,hg,hh,r⟩
 · exact .inl h2
 · have hgb : v.ownBlock = some g := by rw [hv];rfl
   exact .inr ⟨g,cap,cur,hv,hg,by rw [k.block g (hlt0 g hgb) (hS g hgb)];exact hh,r⟩
section
variable {P : Program} {w : World} {ops : Array Oper} {rest : List Oper} {o : Oper} {a : Act} {Q : Exit → Act → World → Prop}
theorem wl_store1 {t : TypeId} [Cell1 P t] {x y : Operand} (hg : o.guard = none) (ho : o.op = .store t x y) {q : Addr} {u v : Value} (hx : a.eval x = .pointer (some q)) (hy : a.eval y = u) (hu : u.oneCell' = true) (hc : w.cell? q = some v) (hf : w.frozen? q = false)
 (h : wpList P ops Q rest (a.put o.dst undef) (w.setCell q u)) : wpList P ops Q (o :: rest) a w :=
 wl_skip hg (w' := w.setCell q u) (by simp [execOp,ho,hx,hy,run_store1 hc hf hu]) h
end
instance c1SlLay : Cell1 Try.prog 36 := ⟨by kernel_rfl,by kernel_rfl⟩
def HB (w : World) (b : Nat) (Z : Array Value) (t : TypeId) : Prop := w.heap[b]? = some (.cells Z t)
theorem HB.cell {w : World} {b : Nat} {Z : Array Value} {t : TypeId} (h : HB w b Z t) (j : Nat) {v : Value} (hv : Z[j]? = some v) : w.cell? ⟨b,j,none⟩ = some v := jag h hv
theorem HB.froz {w : World} {b : Nat} {Z : Array Value} {t : TypeId} (h : HB w b Z t) (j : Nat) : w.frozen? ⟨b,j,none⟩ = false := frozen_of_heap h
theorem HB.ext {w w' : World} {b : Nat} {Z : Array Value} {t : TypeId} (h : HB w b Z t) (e : Ext w w') : HB w' b Z t := by
 have hb : b < w.heap.size := by
  rcases Nat.lt_or_ge b w.heap.size with h' | h'
  · exact h'
  · unfold HB at h;simp [Array.getElem?_eq_none h'] at h
 unfold HB at *;rw [e.block b hb];exact h
theorem HB.lt {w : World} {b : Nat} {Z : Array Value} {t : TypeId} (h : HB w b Z t) : b < w.heap.size := by
 rcases Nat.lt_or_ge b w.heap.size with h' | h'
 · exact h'
 · unfold HB at h;simp [Array.getElem?_eq_none h'] at h
theorem HB.chg {S : Nat → Prop} {w w' : World} {b : Nat} {Z : Array Value} {t : TypeId} (h : HB w b Z t) (k : Chg S w w') (hS : ¬ S b) : HB w' b Z t := by
 have hb := h.lt;unfold HB at *;rw [k.block b hb hS];exact h
theorem HB.set {w : World} {b : Nat} {Z : Array Value} {t : TypeId} (h : HB w b Z t) (j : Nat) (v : Value) : HB (w.setCell ⟨b,j,none⟩ v) b (Z.setIfInBounds j v) t := by
 unfold HB at *;simp [World.setCell,Array.getElem?_modify,h]
theorem HB.new (w : World) (Z : Array Value) (t : TypeId) : HB (w.alloc (.cells Z t)) w.heap.size Z t := heap_alloc_new w _
theorem jae (w : World) (b j : Nat) (u : Value) : Chg (fun k => k = b) w (w.setCell ⟨b,j,none⟩ u) := ⟨rfl,rfl,rfl,by simp [World.setCell],fun k hk hn => Below.heap_setCell _ _ _ _ (fun h => hn h)⟩
section
variable {P : Program} {w : World} {ops : Array Oper} {rest : List Oper} {o : Oper} {a : Act} {Q : Exit → Act → World → Prop}
theorem jbb {t : TypeId} [Cell1 P t] {x y : Operand} (hg : o.guard = none) (ho : o.op = .store t x y) {b j : Nat} {Z : Array Value} {te : TypeId} {u v : Value} (hb : HB w b Z te) (hj : Z[j]? = some v) (hx : a.eval x = .pointer (some ⟨b,j,none⟩)) (hy : a.eval y = u) (hu : u.oneCell' = true)
 (h : ∀ w',HB w' b (Z.setIfInBounds j u) te → Chg (fun k => k = b) w w' → wpList P ops Q rest (a.put o.dst undef) w') : wpList P ops Q (o :: rest) a w :=
 wl_store1 hg ho hx hy hu (hb.cell j hj) (hb.froz j) (h _ (hb.set j u) ⟨rfl,rfl,rfl,by simp [World.setCell],fun k hk hn => Below.heap_setCell _ _ _ _ (fun h => hn h)⟩)
end
def Tys (w : World) (ts : List TypeId) (bs : List Nat) : Prop := ∀ b ∈ bs,∃ Z T m,T ∈ ts ∧ w.heap[b]? = some (.cells Z T m)
theorem heap_lt {w : World} {b : Nat} {o : Obj} (h : w.heap[b]? = some o) : b < w.heap.size := by
 rcases Nat.lt_or_ge b w.heap.size with h' | h'
 · exact h'
 · simp [Array.getElem?_eq_none h'] at h
theorem Tys.ext {w w' : World} {ts : List TypeId} {bs : List Nat} (h : Tys w ts bs) (e : Ext w w') : Tys w' ts bs := by
 intro b hb;obtain ⟨Z,T,m,h1,h2⟩ := h b hb;exact ⟨Z,T,m,h1,by rw [e.block b (heap_lt h2)];exact h2⟩
theorem Tys.chg {S : Nat → Prop} {w w' : World} {ts : List TypeId} {bs : List Nat} (h : Tys w ts bs) (k : Chg S w w') (hS : ∀ b ∈ bs,¬ S b) : Tys w' ts bs := by
 intro b hb;obtain ⟨Z,T,m,h1,h2⟩ := h b hb;exact ⟨Z,T,m,h1,by rw [k.block b (heap_lt h2) (hS b hb)];exact h2⟩
theorem Tys.app {w : World} {ts : List TypeId} {a b : List Nat} (h : Tys w ts a) (k : Tys w ts b) : Tys w ts (a ++ b) := fun x hx => by
 rcases List.mem_append.1 hx with hx | hx
 · exact h x hx
 · exact k x hx
theorem Tys.mono {w : World} {ts us : List TypeId} {a : List Nat} (h : Tys w ts a) (k : ∀ t ∈ ts,t ∈ us) : Tys w us a := fun x hx => by
 obtain ⟨Z,T,m,h1,h2⟩ := h x hx;exact ⟨Z,T,m,k T h1,h2⟩
theorem own_tys {w : World} {B te s n c : Nat} {q : Option Addr} {vs : List Value} (h : w.ownsRow B te s (.slice q n c) n vs) : Tys w [te] (jac q) := by
 intro b hb;rcases h.2 with ⟨hv,h0⟩ | ⟨g,cap,cur,hv,hg,hh,hr⟩
 · cases hv;simp [jac] at hb
 · cases hv
   simp [jac] at hb;subst hb;exact ⟨_,_,_,by simp,hh⟩
def IsOwnY (ts : List TypeId) (B : Nat) (s : Sh) (w : World) (cs : List Value) (d : s.T) : Prop := ∃ bs,Own w s cs d bs ∧ bs.Nodup ∧ (∀ b ∈ bs,B ≤ b) ∧ Tys w ts bs
theorem IsOwnY.ext {ts : List TypeId} {B : Nat} {s : Sh} {w w' : World} {cs : List Value} {d : s.T} (h : IsOwnY ts B s w cs d) (e : Ext w w') : IsOwnY ts B s w' cs d := by
 obtain ⟨bs,h1,h2,h3,h4⟩ := h;exact ⟨bs,h1.ext e,h2,h3,h4.ext e⟩
theorem IsOwnY.base {ts : List TypeId} {B B' : Nat} {s : Sh} {w : World} {cs : List Value} {d : s.T} (h : IsOwnY ts B s w cs d) (hB : B' ≤ B) : IsOwnY ts B' s w cs d := by
 obtain ⟨bs,h1,h2,h3,h4⟩ := h;exact ⟨bs,h1,h2,fun b hb => Nat.le_trans hB (h3 b hb),h4⟩
theorem IsOwnY.chg {ts : List TypeId} {B : Nat} {s : Sh} {w w' : World} {cs : List Value} {d : s.T} (h : IsOwnY ts B s w cs d) {S : Nat → Prop} (k : Chg S w w') (hS : ∀ b,S b → b < B) : IsOwnY ts B s w' cs d := by
 obtain ⟨bs,h1,h2,h3,h4⟩ := h;have hn : ∀ b ∈ bs,¬ S b := fun b hb hs => by have := h3 b hb;have := hS b hs;omega
 exact ⟨bs,h1.chg k hn,h2,h3,h4.chg k hn⟩
theorem GrowOwn.ownY {w : World} {B : Nat} {te : TypeId} {E : Sh} {v : Value} {l : List E.T} {css : List (List Value)} {bss : List (List Nat)} (h : GrowOwn w B te E v l css bss) {ts : List TypeId} (ht : Tys w ts bss.flatten) (hte : te ∈ ts) : IsOwnY ts B (.sl E) w [v] l := by
 obtain ⟨h1,h2,h3,h4⟩ := h;have hrow := h1;obtain ⟨hl,hr⟩ := h1;rcases hr with ⟨rfl,h0⟩ | ⟨g,cap,cur,rfl,hg,hh,hnc,hm,hsz,ht'⟩
 · have hl0 : l = [] := List.eq_nil_of_length_eq_zero h0
   subst hl0;exact ⟨[],own_nil,by simp,by simp,fun b hb => by simp at hb⟩
 · refine ⟨g :: bss.flatten,own_sl.2 ⟨some ⟨g,0,none⟩,cap,css,bss,rfl,ownRow_of hrow,hnc,hm,h2,rfl⟩,?_,?_,?_⟩
   · rw [List.nodup_cons];exact ⟨fun hb => (h4 g hb).2 rfl,h3⟩
   · intro b hb
     rcases List.mem_cons.1 hb with rfl | hb
     · exact hg
     · exact (h4 b hb).1
   · intro b hb
     rcases List.mem_cons.1 hb with rfl | hb
     · exact ⟨_,_,_,hte,hh⟩
     · exact ht b hb
theorem retFl_thing3 {w w' : World} {xs : List Nat} {e : Ending} {n : Nat} (hn : xs.length = n) (h : RetFl w xs e w') : ∃ q c bs,e = .returned (.slice q n c) ∧ Own w' (.sl .flt) [.slice q n c] xs bs ∧ bs.Nodup ∧ (∀ b ∈ bs,w.heap.size ≤ b) ∧ Ext w w' ∧ Tys w' [33] bs := by
 subst hn;obtain ⟨q,c,vs,he,ho,hf,hx⟩ := h;refine ⟨q,c,jac q,he,jbi.2 ⟨q,c,vs,rfl,ownRow_of ho,hf,(jay ho).1,(jay ho).2,rfl⟩,?_,?_,hx,own_tys ho⟩
 · cases q <;> simp [jac]
 · intro b hb
   cases q with
   | none => simp [jac] at hb
   | some a => simp [jac] at hb;subst hb;exact jaf ho _ rfl
def Small (L : List jaa.T) : Prop := L.length ≤ 12 ∧ ∀ d ∈ L,(d.2.2.2.1 : List Nat).length ≤ 64 ∧ (d.2.2.2.2.1 : List Nat).length ≤ 64
theorem lay_full {w : World} {cs : List Value} {d : jaa.T} (h : Rep w jaa cs d) : ∃ pw cw pb cb uw ub,cs = [.int .i64 d.1,.int .i64 d.2.1,.int .i64 d.2.2.1,.slice pw (d.2.2.2.1 : List Nat).length cw,.slice pb (d.2.2.2.2.1 : List Nat).length cb] ∧
 (Cs w pw uw ∧ F32s uw d.2.2.2.1 ∧ (d.2.2.2.1 : List Nat).length ≤ cw) ∧ (Cs w pb ub ∧ F32s ub d.2.2.2.2.1 ∧ (d.2.2.2.2.1 : List Nat).length ≤ cb) := by
 obtain ⟨a1,a2,a3,a4,a5,au⟩ := d;obtain ⟨_,_,rfl,rfl,_,_,rfl,rfl,_,_,rfl,rfl,_,_,rfl,h4,_,_,rfl,h5,rfl⟩ := h;obtain ⟨p4,c4,u4,rfl,g1,g2,g3,_⟩ := ja8.1 h4;obtain ⟨p5,c5,u5,rfl,k1,k2,k3,_⟩ := ja8.1 h5;exact ⟨p4,c4,p5,c5,u4,u5,rfl,⟨g1,g2,g3⟩,⟨k1,k2,k3⟩⟩
theorem own_lay {w : World} {d : jaa.T} {qw qb : Option Addr} {lw kw lb kb : Nat} {bw bb : List Nat} (h1 : Own w (.sl .flt) [.slice qw lw kw] d.2.2.2.1 bw) (h2 : Own w (.sl .flt) [.slice qb lb kb] d.2.2.2.2.1 bb) :
 Own w jaa [.int .i64 d.1,.int .i64 d.2.1,.int .i64 d.2.2.1,.slice qw lw kw,.slice qb lb kb] d (bw ++ bb) := by
 obtain ⟨a1,a2,a3,a4,a5,au⟩ := d
 exact ⟨[.int .i64 a1],[.int .i64 a2,.int .i64 a3,.slice qw lw kw,.slice qb lb kb],[],bw ++ bb,rfl,⟨rfl,rfl⟩,⟨[.int .i64 a2],[.int .i64 a3,.slice qw lw kw,.slice qb lb kb],[],bw ++ bb,rfl,⟨rfl,rfl⟩,⟨[.int .i64 a3],[.slice qw lw kw,.slice qb lb kb],[],bw ++ bb,rfl,⟨rfl,rfl⟩,
  ⟨[.slice qw lw kw],[.slice qb lb kb],bw,bb,rfl,h1,⟨[.slice qb lb kb],[],bb,[],rfl,h2,⟨rfl,rfl⟩,by simp⟩,rfl⟩,rfl⟩,rfl⟩,rfl⟩
theorem take_snoc {A : Type} {l : List A} {i : Nat} {d : A} (h : l[i]? = some d) : l.take i ++ [d] = l.take (i + 1) := by
 rw [List.take_add_one,h];rfl
theorem GrowOwn.chgB {S : Nat → Prop} {w w' : World} {B : Nat} {te : TypeId} {E : Sh} {v : Value} {l : List E.T} {css : List (List Value)} {bss : List (List Nat)} (h : GrowOwn w B te E v l css bss) (k : Chg S w w') (hS : ∀ b,S b → b < B) : GrowOwn w' B te E v l css bss :=
 ⟨jav h.row k hS,h.els.chg k (fun b hb hs => by have := (h.lo b hb).1;have := hS b hs;omega),h.nodup,h.lo⟩
section
variable {P : Program} {w : World} {ops : Array Oper} {rest : List Oper} {o : Oper} {a : Act} {Q : Exit → Act → World → Prop}
theorem wl_valueW {v : Value} {w' : World} (hw : Region.wanted o (yielded ops a.tmps) = true) (hr : (execOp a.eval o).run P w = .ok (.value v) w') (h : wpList P ops Q rest (a.put o.dst v) w') : wpList P ops Q (o :: rest) a w := by
 unfold wpList;rw [if_pos hw];refine .inl ?_;unfold Oper.wp;rw [hr];exact h
end
def OutT (w : World) (t : TypeId) (s : Sh) (r : s.T × Bool) (e : Ending) (w' : World) : Prop :=
 ∃ cs bs,e = .returned (.tuple #[ofCs s cs,.bool r.2]) ∧ Own w' s cs r.1 bs ∧ bs.Nodup ∧ (∀ b ∈ bs,w.heap.size ≤ b) ∧ (∀ b ∈ bs,∀ Z,w'.heap[b]? ≠ some (.cells Z t)) ∧ Ext w w'
end Go.Proofs.Ytmbckkcgiafagaa
