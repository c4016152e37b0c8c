/- A part of the proofs: RowM, RowS, AggW, RMod, Lbl, HExamples, Exa, CCor. -/
import Derived.Test.YtmbckkcgiafagaaZ09FnMode
import Derived.Test.YtmbckkcgiafagaaZ06FnMode
import Derived.Test.YtmbckkcgiafagaaZ08FnMode
import Derived.Test.YtmbckkcgiafagaaZ03FnMode
import Derived.Test.YtmbckkcgiafagaaZ02FnMode
import Derived.Test.YtmbckkcgiafagaaZ07FnMode
set_option linter.unusedSimpArgs false
set_option linter.unusedVariables false
set_option maxRecDepth 100000
set_option maxHeartbeats 16000000
namespace Go.Proofs.Ytmbckkcgiafagaa
open Go.RowKit
theorem jat {w : World} {b : Nat} {Z : Array Value} {t : TypeId} {j : Nat} {v : Value} (h : w.heap[b]? = some (.cells Z t)) (hv : Z[j]? = some v) : w.cell? ⟨b,j,none⟩ = some v := by simp [World.cell?,h,hv]
theorem frozen_of_heap {w : World} {b : Nat} {Z : Array Value} {t : TypeId} {j : Nat} (h : w.heap[b]? = some (.cells Z t)) : w.frozen? ⟨b,j,none⟩ = false := by simp [World.frozen?,h]
theorem box2 {w W0 : World} {A B : Array Value} {ta tb : TypeId} (h : W0 = (w.alloc (.cells A ta)).alloc (.cells B tb)) : Ext w W0 ∧ W0.heap.size = w.heap.size + 2 ∧ W0.heap[w.heap.size]? = some (.cells A ta) ∧ W0.heap[w.heap.size + 1]? = some (.cells B tb) := by
 subst h;have e1 := Ext.alloc w (.cells A ta);have e2 := Ext.alloc (w.alloc (.cells A ta)) (.cells B tb);refine ⟨e1.trans e2,by simp,?_,?_⟩
 · rw [e2.block _ (by simp)];exact heap_alloc_new w _
 · have := heap_alloc_new (w.alloc (.cells A ta)) (.cells B tb)
   simpa using this
theorem box3 {w W0 : World} {A B C : Array Value} {ta tb tc : TypeId} (h : W0 = ((w.alloc (.cells A ta)).alloc (.cells B tb)).alloc (.cells C tc)) : Ext w W0 ∧ W0.heap.size = w.heap.size + 3 ∧ W0.heap[w.heap.size]? = some (.cells A ta) ∧ W0.heap[w.heap.size + 1]? = some (.cells B tb) ∧ W0.heap[w.heap.size + 2]? = some (.cells C tc) := by
 subst h;obtain ⟨h1,h2,h3,h4⟩ := box2 (w := w) (A := A) (B := B) (ta := ta) (tb := tb) rfl;have e3 := Ext.alloc ((w.alloc (.cells A ta)).alloc (.cells B tb)) (.cells C tc);refine ⟨h1.trans e3,by simp,?_,?_,?_⟩
 · rw [e3.block _ (by simp;omega)];exact h3
 · rw [e3.block _ (by simp)];exact h4
 · have := heap_alloc_new ((w.alloc (.cells A ta)).alloc (.cells B tb)) (.cells C tc)
   simpa using this
section
variable {P : Program} {w wf : World} {ops : Array Oper} {rest : List Oper} {o : Oper} {a : Act} {Q : Act → Prop} {F : Option Tmp → World → World → Value → Prop}
theorem x_alloc {t : TypeId} {Z : Array Value} (hw : Region.wanted o (yielded ops a.tmps) = true) (hr : ∀ w1,(execOp a.eval o).run P w1 = .ok (.value (.pointer (some ⟨w1.heap.size,0,none⟩))) (w1.alloc (.cells Z t)))
 (h : ∀ b,w.heap.size ≤ b → b < wf.heap.size → wf.heap[b]? = some (.cells Z t) → wpX P ops F w wf Q rest (a.put o.dst (.pointer (some ⟨b,0,none⟩)))) : wpX P ops F w wf Q (o :: rest) a :=
 x_made (V := fun wf u => ∃ b,u = .pointer (some ⟨b,0,none⟩) ∧ w.heap.size ≤ b ∧ b < wf.heap.size ∧ wf.heap[b]? = some (.cells Z t)) hw
  (fun w1 e1 => ⟨_,_,hr w1,Ext.alloc _ _,fun wf hf => ⟨w1.heap.size,rfl,e1.size,Nat.lt_of_lt_of_le (by simp) hf.size,by rw [hf.block _ (by simp)];exact heap_alloc_new w1 _⟩⟩)
  (fun u ⟨b,h1,h2,h3,h4⟩ => by subst h1;exact h b h2 h3 h4)
end
theorem growBase {w : World} {B B' : Nat} {te : TypeId} {E : Sh} {v : Value} {l : List E.T} {css : List (List Value)} {bss : List (List Nat)} (h : GrowOwn w B te E v l css bss) (hB : B' ≤ B) : GrowOwn w B' te E v l css bss :=
 ⟨jak h.row hB,h.els,h.nodup,fun b hb => ⟨Nat.le_trans hB (h.lo b hb).1,(h.lo b hb).2⟩⟩
theorem jag {S : Nat → Prop} {w w' : World} {B e s n : Nat} {v : Value} {vs : List Value} (h : w.ownsRow B e s v n vs) (k : Chg S w w') (hS : ∀ b,S b → b < B) : w'.ownsRow B e s v n vs := by
 obtain ⟨h1,h2⟩ := h;refine ⟨h1,?_⟩;rcases h2 with h2 | ⟨g,cap,cur,hv,hg,hh,r⟩
 · exact .inl h2
 · have hlt : g < w.heap.size := by
    rcases Nat.lt_or_ge g w.heap.size with h' | h'
    · exact h'
    · simp [Array.getElem?_eq_none h'] at hh
   exact .inr ⟨g,cap,cur,hv,hg,by rw [k.block g hlt (fun hs => by have := hS g hs;omega)];exact hh,r⟩
theorem own_slice {w : World} {B e s n : Nat} {v : Value} {vs : List Value} (h : w.ownsRow B e s v n vs) : ∃ q c,v = .slice q n c := by
 rcases h.2 with ⟨h1,h2⟩ | ⟨g,cap,cur,h1,_⟩
 · exact ⟨none,0,by rw [h1,h2]⟩
 · exact ⟨_,_,h1⟩
def IsSt (B : Nat) (l : List (List Nat)) (w : World) (u : Value) : Prop := ∃ css bss,GrowOwn w B 25 (.sl .flt) u l css bss
theorem IsSt.ext {B : Nat} {l : List (List Nat)} {w w' : World} {u : Value} (h : IsSt B l w u) (e : Ext w w') : IsSt B l w' u := by
 obtain ⟨css,bss,hg⟩ := h;exact ⟨css,bss,hg.ext e⟩
theorem IsSt.last {B : Nat} {l : List jac.T} {x : List Nat} {n : Nat} {w : World} {u : Value} (h : IsSt B (stF l x n) w u) (hn : 1 ≤ n) : ∃ (p : Option Addr) (k : Nat) (q : Option Addr) (m cq : Nat) (css : List (List Value)),u = .slice p n k ∧ Cs w p css.flatten ∧ (∀ c ∈ css,c.length = 1) ∧ css.length = n ∧ p.isSome = true ∧ css[n - 1]? = some [.slice q m cq] ∧ Rep w (.sl .flt) [.slice q m cq] (curF l x n) := by
 obtain ⟨css,bss,hg⟩ := h;have hrow := hg.row;rw [stF_len] at hrow;have hall := hg.els.all;have k1 := hg.els.1;have k2 := hg.els.2.1;rw [stF_len] at k1 k2
 have hr := (hg.els.2.2 (n - 1) (css[n - 1]'(by omega)) (bss[n - 1]'(by omega)) (curF l x n) (by simp) (by simp) (by
  unfold stF;rw [List.getElem?_map,List.getElem?_range (by omega)];simp [show n - 1 + 1 = n by omega])).rep
 obtain ⟨q,cq,us,hc,hrest⟩ := jco.1 hr
 obtain ⟨p,k,rfl⟩ : ∃ p k,u = .slice p n k := by
  rcases hrow.2 with ⟨h1,h2⟩ | ⟨g,cap,cur,h1,_⟩
  · exact ⟨none,0,by rw [h1,h2]⟩
  · exact ⟨_,_,h1⟩
 have hp := jbt hrow;refine ⟨p,k,q,_,cq,css,rfl,hp,hall,k1,?_,by rw [← hc];simp,by rw [← hc];exact hr⟩;exact hp.some_of (s := 1) (i := 0) hall (by decide) (by omega)
theorem rep_row {w : World} {p : Option Addr} {us : List Value} {xs : List Nat} {C i R cp : Nat} (hp : Cs w p us) (hf : F32s us xs) (hx : xs.length = R * C) (hi : i < R) (hcp : R * C ≤ cp) (hcm : cp ≤ maxLen) : Rep w (.sl .flt) [.slice (subp p 1 (i * C) cp) C (cp - i * C)] (rowT xs C i) := by
 have hl := rowT_len hx hi;have h1 := row_le (c := C) hi;have h2 : (i + 1) * C = i * C + C := by rw [Nat.add_mul];omega
 refine jco.2 ⟨_,_,_,by rw [hl],row_cs hp (by omega),hf.part _ _,by rw [hl];omega,by omega⟩
def jao (w : World) (r c : Int) (xs : List Nat) (e : Ending) (w' : World) : Prop :=
 ∃ q cp vs,e = .returned (.agg #[.int .i64 r,.int .i64 c,.slice q xs.length cp]) ∧ w'.ownsRow w.heap.size 33 1 (.slice q xs.length cp) xs.length vs ∧ F32s vs xs ∧ Ext w w'
theorem jao.of {w w' : World} {r c : Int} {xs : List Nat} {v : Value} {vs : List Value} {n : Nat} {e : Ending} (hl : xs.length = n) (h : w'.ownsRow w.heap.size 33 1 v n vs) (hf : F32s vs xs) (he : e = .returned (.agg #[.int .i64 r,.int .i64 c,v])) (hx : Ext w w') : jao w r c xs e w' := by
 obtain ⟨q,cp,us,h1,h2,h3,h4⟩ := retFl_of hl h hf (e := .returned v) rfl hx;simp only [Ending.returned.injEq] at h1;subst h1;exact ⟨q,cp,us,he,h2,h3,h4⟩
theorem app_row {A : List Nat} {n m : Nat} (h : A.length = n * m) : (n + 1) * m = n * m + m := by rw [Nat.add_mul];omega
theorem runModel_any (p q0 : Option Addr) (n c cp R C : Nat) (css : List (List Value)) (l : List jac.T) (us : List Value) (xs : List Nat) (w : World) (L : Lays w p n css l) (hM : ModOk l) (hx : (C : Int) = inL l 0)
 (hR1 : R ≤ 16) (hC : C ≤ 16) (hxs : xs.length = R * C) (hcp : R * C ≤ cp) (hcm : cp ≤ maxLen) (hp : Cs w q0 us) (hf : F32s us xs) :
 Calls Try.prog 71 #[.agg #[.slice p n c],.agg #[.int .i64 R,.int .i64 C,.slice q0 (R * C) cp]] w (jao w R (outL l) (rowsM l xs C R)) := by
 obtain ⟨m,hm,hm1,hm8⟩ := outL_nat hM;have hlen := rowsM_len hM hx hm hxs;have hn : n ≤ 6 := by have := hM.few;rw [L.len] at this;exact this
 have hn1 : 1 ≤ n := by have := hM.pos;rw [L.len] at this;exact this
 have A := hid (fun W (h : Ext w W) => out_any p n c css l W (L.ext h) hn1);rw [← hm] at A ⊢;have B := hid (fun i (hi : i < R) W (h : Ext w W) => row_any R C i (R * C) cp q0 W hi hR1 hC rfl hcp);have D := hid (fun i (hi : i < R) W (h : Ext w W) => stages_any p (subp q0 1 (i * C) cp) n c C (cp - i * C) css l (rowT xs C i) W (L.ext h) hM (rep_row (hp.ext h) hf hxs hi hcp hcm) (by rw [rowT_len hxs hi];exact hx));have HL := hid L.len;have Hlen := hid hlen;have Hs := hid (fun r => rowsM_succ l xs C r);have hRC : R * C ≤ 256 := Nat.mul_le_mul hR1 hC
 have Hcur := hid (fun i (hi : i < R) => show (curF l (rowT xs C i) n).length = m by
  have h1 := cur_out hM (x := rowT xs C i) (by rw [rowT_len hxs hi];exact hx);rw [L.len] at h1;omega)
 clear L hM hx hlen hm hp hf hxs;generalize R * C = kk at *;obtain ⟨W0,hW0⟩ : ∃ W0,W0 = ((w.alloc (.cells #[.slice p n c] 38)).alloc (.cells #[.int .i64 R,.int .i64 C,.slice q0 kk cp] 27)).alloc (.cells #[.int .i64 0,.int .i64 0,.slice none 0 0] 27) := ⟨_,rfl⟩;obtain ⟨E0,s0,b0,b1,b2⟩ := box3 hW0;have a0 : W0.cell? ⟨w.heap.size,0,none⟩ = some (.slice p n c) := jat b0 rfl;have t0 : W0.cell? ⟨w.heap.size + 1,0,none⟩ = some (.int .i64 R) := jat b1 rfl;have t1 : W0.cell? ⟨w.heap.size + 1,1,none⟩ = some (.int .i64 C) := jat b1 rfl;have t2 : W0.cell? ⟨w.heap.size + 1,2,none⟩ = some (.slice q0 kk cp) := jat b1 rfl;have z0 : W0.cell? ⟨w.heap.size + 2,0,none⟩ = some (.int .i64 0) := jat b2 rfl;have z1 : W0.cell? ⟨w.heap.size + 2,1,none⟩ = some (.int .i64 0) := jat b2 rfl;have z2 : W0.cell? ⟨w.heap.size + 2,2,none⟩ = some (.slice none 0 0) := jat b2 rfl;have y0 := fun j => frozen_of_heap b2 (j := j)
 clear b0 b1 b2;go_enter Try.func71,Try.ntmps71;go_wp2;rw [← hW0];clear hW0;have e1 := Ext.drew W0;have a1 := e1.cell a0;have u0 := e1.cell t0;obtain ⟨F,hF⟩ : ∃ F : Option Tmp → World → Value → Prop,F = fun _ _ u => u = .int .i64 m := ⟨_,rfl⟩
 have HF := hid hF;clear hF;refine jcj 6 (F := F) (by kernel_rfl) (by kernel_rfl) (by kernel_rfl) (by kernel_rfl) (by kernel_rfl) ?_;intro wf hwf;simp only [pw1,pw2,pw3,pw4]
 repeat (first
  | ((first | (refine ja8 rfl ?_) | (refine x_mv rfl rfl rfl ?_) | (refine x_as rfl rfl rfl ?_) | ((with_reducible show gx12);refine jap (f := 98) (args := #[.agg #[.slice p n c]]) rfl rfl Try.func98 rfl (by kernel_rfl) ?_ ?_ ?_;(focus (simp [Act.eval];done));(focus (intro w1 hw1;exact (by rw [HF.out];exact (A.out w1 (E0.trans (e1.trans hw1))).mono fun e w3 h => ⟨_,h.1,h.2,rfl⟩)));rintro u w3 e3 e4 hu;simp only [HF.out] at hu;subst hu) | ((with_reducible show gx15);refine x_alloc (t := 27) (Z := #[.int .i64 0,.int .i64 0,.slice none 0 0]) rfl (fun w1 => by go_simp) ?_;intro b hb1 hb2 hb3));simp only [Act.put,jab,pu1,pu2,pu3,pu4,pu5])
  | (refine jbw rfl fun K hK w1 hw1 => ?_;have k0 := hw1.cell (a1);have k1 := hw1.cell (u0);go_simp;refine hK _ ?_;clear hK K k0 k1 hw1 w1))
 refine jbu ?_;have E1 := e1.trans hwf;have o0 : wf.cell? ⟨b,0,none⟩ = some (.int .i64 0) := jat hb3 rfl;have o1 : wf.cell? ⟨b,1,none⟩ = some (.int .i64 0) := jat hb3 rfl;have o2 : wf.cell? ⟨b,2,none⟩ = some (.slice none 0 0) := jat hb3 rfl;have o3 := fun j => frozen_of_heap hb3 (j := j)
 have x0 := E1.cell t0;have hb1' : w.heap.size + 3 ≤ b := by have := e1.size;omega
 clear hb3 a1 u0;go_wp2;go_loopw [15] (fun iv wr => ∃ (r : Nat) (v : Value) (vs : List Value),r ≤ R ∧ iv = .int .i64 r ∧ wr.cell? ⟨b,0,none⟩ = some (.int .i64 R) ∧ wr.cell? ⟨b,1,none⟩ = some (.int .i64 m) ∧ wr.cell? ⟨b,2,none⟩ = some v ∧ wr.frozen? ⟨b,2,none⟩ = false ∧ wr.ownsRow (b + 1) 33 1 v (r * m) vs ∧ Hid (F32s vs (rowsM l xs C r)) ∧ Ext W0 wr ∧ b < wr.heap.size) (fun iv _ => R - (intOf iv).toNat)
 case atStart => exact ⟨0,.slice none 0 0,[],by omega,rfl,by go_simp,by go_simp,by go_simp,by go_simp,⟨by simp,.inl ⟨rfl,by simp⟩⟩,F32s.nil,by (repeat (first | (with_reducible first | exact Ext.refl _ | assumption) | ((with_reducible refine Ext.setCell ?_ ?_ _);rotate_left;focus (first | (simp;done) | (simp;omega))) | (with_reducible first | refine px1 ?_ _ | refine px2 ?_ | refine Ext.trans ?_ (by assumption)))),by simpa using hb2⟩
 case round =>
  clear o0 o1 o2 o3 x0 E1 hwf hb2;obtain ⟨r,v,vs,hr,rfl,k0,k1,k2,k3,hown,HV,he,hz⟩ := hrel;obtain ⟨q6,c6,rfl⟩ := own_slice hown
  by_cases hlt : r < R
  · have hRm : r * m ≤ 128 := Nat.mul_le_mul (show r ≤ 16 by omega) hm8
    have Am := hid (app_row (Hlen.out r hr));have eD := he.trans (Ext.drew wr);have g0 := eD.cell a0;have g1 := eD.cell t0;have g2 := eD.cell t1;have g3 := eD.cell t2;have C1 := hid (fun W (h : Ext wr.drew W) => B.out r hlt W (E0.trans (eD.trans h)));have C2 := hid (fun W (h : Ext wr.drew W) => D.out r hlt W (E0.trans (eD.trans h)));have Hc := hid (Hcur.out r hlt);have Hsr := hid (Hs.out r);have HL2 := HL;clear A B D Hcur;generalize hrc : r * C = rC at *;clear hrc;obtain ⟨F,hF⟩ : ∃ F : Option Tmp → World → Value → Prop,F = fun d w' u => match d with | some 21 => u = .slice (subp q0 1 rC cp) C (cp - rC) | some 22 => IsSt (b + 1) (stF l (rowT xs C r) n) w' u | _ => False := ⟨_,rfl⟩
    have HF := hid hF;clear hF;go_wp2;refine jae (F := F) (by kernel_rfl) (by kernel_rfl) (by kernel_rfl) ?_;intro wf hwf
    repeat (first
     | ((first | (refine ja8 rfl ?_) | (refine x_mv rfl rfl rfl ?_) | (refine x_as rfl rfl rfl ?_) | ((with_reducible show gx12);first | (refine jap (f := 114) (args := #[.agg #[.int .i64 R,.int .i64 C,.slice q0 kk cp],.int .i64 r]) rfl rfl Try.func114 rfl (by kernel_rfl) ?_ ?_ ?_;(focus (simp [Act.eval];done));(focus (intro w1 hw1;exact (by rw [HF.out];exact (C1.out w1 hw1).mono fun e w3 h => ⟨_,h.1,h.2,rfl⟩)));rintro u w3 e3 e4 hu;simp only [HF.out] at hu;subst hu) | (refine jap (f := 79) (args := #[.agg #[.slice p n c],.slice (subp q0 1 rC cp) C (cp - rC)]) rfl rfl Try.func79 rfl (by kernel_rfl) ?_ ?_ ?_;(focus (simp [Act.eval];done));(focus (intro w1 hw1;exact (by rw [HF.out];exact (C2.out w1 hw1).mono fun e w3 ⟨v,css,bss,h1,h2,h3⟩ => ⟨v,h1,h3,show IsSt (b + 1) (stF l (rowT xs C r) n) w3 v from ⟨css,bss,growBase h2 (Nat.le_trans hz hw1.size)⟩⟩)));rintro u w3 e3 e4 hu;simp only [HF.out] at hu;have HU := hid (IsSt.ext hu e4);clear hu)));simp only [Act.put,jab,pu1,pu2,pu3,pu4,pu5])
     | (refine jbw rfl fun K hK w1 hw1 => ?_;have k0 := hw1.cell (g0);have k1 := hw1.cell (g1);have k2 := hw1.cell (g2);have k3 := hw1.cell (g3);go_simp;refine hK _ ?_;clear hK K k0 k1 k2 k3 hw1 w1))
    refine jbu ?_;obtain ⟨p5,k5,q5,m5,c5,css5,rfl,hp5,hall5,hcnt5,hs5,hget5,hrep5⟩ := IsSt.last (HU.out) hn1;clear HU;obtain ⟨us5,hx5,hc5,hf5,hmc5⟩ := rep_flt1 hrep5;have eF := eD.trans hwf;have hwf' := hwf;have o0 := hwf.cell ((Ext.drew wr).cell k2);have hownF := jah hown ((Ext.drew wr).trans hwf);have hzF : b < wf.heap.size := Nat.lt_of_lt_of_le hz hwf.size;have fz := ((Ext.drew wr).trans hwf).frozen (p := ⟨b,2,none⟩) hz k3;have hm5 : m5 = m := by rw [← hx5];exact Hc.out
    have hm5c : m5 ≤ c5 := by rw [← hx5];exact hmc5
    subst hm5;have q1 : IntKind.i64.wrap ((n : Int) - 1) = ((n - 1 : Nat) : Int) := by rw [show (n : Int) - 1 = ((n - 1 : Nat) : Int) by omega];exact ja2 _ (by omega) (by omega)
    have hmm := hid (hf5.one);have eG := Ext.drew wf;have o1 := eG.cell o0;have hpG := hp5.ext eG;go_wp2;refine jcj 8 (F := fun _ _ _ => True) (by kernel_rfl) (by kernel_rfl) (by kernel_rfl) (by kernel_rfl) (by kernel_rfl) ?_;intro wf hwf;simp only [pw1,pw2,pw3,pw4]
    repeat (first
     | ((first | (refine ja8 rfl ?_) | (refine x_mv rfl rfl rfl ?_) | (refine x_as rfl rfl rfl ?_) | ((with_reducible show gx0);refine x_idxloadE (s := (.sl .flt)) (j := n - 1) rfl rfl (fun _ => rfl) rfl (fun _ => rfl) rfl rfl (by first | rfl | exact q1 | omega) hpG hall5 hcnt5 (by omega) hs5 hget5 ?_;simp only [ofCs,Sh.agg,List.headD_cons,Bool.false_eq_true,if_false]));simp only [Act.put,jab,pu1,pu2,pu3,pu4,pu5])
     | (refine jbw rfl fun K hK w1 hw1 => ?_;have k0 := hw1.cell (o1);go_simp;refine hK _ ?_;clear hK K k0 hw1 w1))
    refine jbu ?_;have eH := eG.trans hwf;have l0 := eH.cell o0;have l2 := eH.frozen (p := ⟨b,2,none⟩) hzF fz;have hownH := jah hownF eH;have hzH : b < wf.heap.size := Nat.lt_of_lt_of_le hzF eH.size;have hcH := hc5.ext eH;have l1 := (eF.trans eH);have l3 := (((Ext.drew wr).trans hwf').trans eH);go_wp2_with ((with_reducible show gx5);refine wl_appz rfl rfl rfl rfl hownH hcH (by rw [Nat.mul_one,hf5.1,hx5]) hm5c hmm.out (by unfold maxLen;omega) (by omega) (by have := eH.size;omega) ?_;intro v9 w9 own9 g9;obtain ⟨q9,c9,rfl⟩ := own_slice own9;have l4 := (g9.block b (by omega) (fun hh => by have := jas hownH b hh.symm;omega));have l5 := (World.cell?_of_block (a := ⟨b,2,none⟩) l4).trans l0;have l6 := (World.frozen?_of_block (a := ⟨b,2,none⟩) l4).trans l2;clear l4);go_roundw
    case rel =>
     have blk := g9.block b hzH (fun hh => by have := jas hownH b hh.symm;omega);have j0 := (World.cell?_of_block (a := ⟨b,0,none⟩) blk).trans (l3.cell k0);have j1 := (World.cell?_of_block (a := ⟨b,1,none⟩) blk).trans (l3.cell k1);have am := Am.out;have e9 : Ext W0 w9 := l1.grown g9 (fun k hk => by have := jas hownH k hk;omega);have hz9 := g9.size;have hchg : Chg (fun k => k = b) w9 (w9.setCell ⟨b,2,none⟩ (.slice q9 (r * m5 + m5) c9)) := by (repeat (first | (with_reducible first | exact Chg.refl _ _ | exact Chg.of_ext (by assumption) | assumption) | ((with_reducible refine Chg.setCell ?_ ?_ _);rotate_left;focus (first | (simp;done) | (simp;omega))) | (with_reducible first | refine Chg.alloc ?_ _ | refine Chg.drew ?_ | refine px3 ?_ (by assumption))))
     have hF9 := HV.out.app hf5;rw [← HL.out,← Hsr.out] at hF9;refine ⟨r + 1,.slice q9 (r * m5 + m5) c9,vs ++ us5,by omega,by go_num,by go_simp,by go_simp,by go_simp,by go_simp,?_,hF9,?_,by simp;omega⟩
     · rw [am];exact jag own9 hchg (fun k hk => by omega)
     · exact e9.chg hchg (fun k hk => by omega)
    case measure => simp [intOf];omega
  · obtain rfl : r = R := by omega
    have n0 := he.cell z0;have n1 := he.cell z1;have n2 := he.cell z2;have n3 := he.frozen (p := ⟨w.heap.size + 2,0,none⟩) (by simp;omega) (y0 0);have n4 := he.frozen (p := ⟨w.heap.size + 2,1,none⟩) (by simp;omega) (y0 1);have n5 := he.frozen (p := ⟨w.heap.size + 2,2,none⟩) (by simp;omega) (y0 2);clear z0 z1 z2 y0;go_wp2;refine bodyPost_ret (v := .agg #[.int .i64 r,.int .i64 m,.slice q6 (r * m) c6]) (by simp [results,Try.results71,go_sem,n0,n1,n2,n3,n4,n5]) rfl ?_;exact jao.of (Hlen.out r (Nat.le_refl _)) (jak (jag (S := fun k => k = w.heap.size + 2) hown (by (repeat (first | (with_reducible first | exact Chg.refl _ _ | exact Chg.of_ext (by assumption) | assumption) | ((with_reducible refine Chg.setCell ?_ ?_ _);rotate_left;focus (first | (simp;done) | (simp;omega))) | (with_reducible first | refine Chg.alloc ?_ _ | refine Chg.drew ?_ | refine px3 ?_ (by assumption))))) (fun k hk => by omega)) (by omega)) HV.out rfl (by have := E0.trans he;(repeat (first | (with_reducible first | exact Ext.refl _ | assumption) | ((with_reducible refine Ext.setCell ?_ ?_ _);rotate_left;focus (first | (simp;done) | (simp;omega))) | (with_reducible first | refine px1 ?_ _ | refine px2 ?_ | refine Ext.trans ?_ (by assumption)))))
theorem own_tag {w : World} {B te t s n b : Nat} {v : Value} {vs : List Value} {Z : Array Value} (h : w.ownsRow B te s v n vs) (hb : w.heap[b]? = some (.cells Z t)) (hne : te ≠ t) : ∀ k,v.ownBlock = some k → k ≠ b := by
 intro k hk he;subst he;rcases h.2 with ⟨h1,_⟩ | ⟨g,cap,cur,h1,_,h2,_⟩
 · subst h1;simp [Value.ownBlock] at hk
 · subst h1
   simp [Value.ownBlock] at hk;subst hk;rw [hb] at h2;simp only [Option.some.injEq,Obj.cells.injEq] at h2;exact hne h2.2.1.symm
theorem IsFl.rep {B : Nat} {xs : List Nat} {w : World} {q : Option Addr} {n c : Nat} (h : IsFl B xs w (.slice q n c)) : Rep w (.sl .flt) [.slice q n c] xs := by
 obtain ⟨q',c',vs,h1,h2,h3⟩ := h
 cases h1
 exact jco.2 ⟨q,c,vs,rfl,jbt h2,h3,(jbb h2).1,(jbb h2).2⟩
section
variable {P : Program} {w : World} {ops : Array Oper} {rest : List Oper} {o : Oper} {a : Act} {Q : Exit → Act → World → Prop}
theorem wl_valueW {v : Value} {w' : World} (hw : Region.wanted o (yielded ops a.tmps) = true) (hr : (execOp a.eval o).run P w = .ok (.value v) w') (h : wpList P ops Q rest (a.put o.dst v) w') : wpList P ops Q (o :: rest) a w := by
 unfold wpList;rw [if_pos hw];refine .inl ?_;unfold Oper.wp;rw [hr];exact h
end
def OutT (w : World) (t : TypeId) (s : Sh) (r : s.T × Bool) (e : Ending) (w' : World) : Prop :=
 ∃ cs bs,e = .returned (.tuple #[ofCs s cs,.bool r.2]) ∧ Own w' s cs r.1 bs ∧ bs.Nodup ∧ (∀ b ∈ bs,w.heap.size ≤ b) ∧ (∀ b ∈ bs,∀ Z,w'.heap[b]? ≠ some (.cells Z t)) ∧ Ext w w'
end Go.Proofs.Ytmbckkcgiafagaa
namespace Go.Proofs.Ytmbckkcgiafagaa.lRunModel
open Go.RowKit
theorem own_heap {w : World} {B te s n c : Nat} {q : Option Addr} {vs : List Value} (h : w.ownsRow B te s (.slice q n c) n vs) {t : TypeId} (hne : te ≠ t) : ∀ b ∈ jaj q,∀ Z,w.heap[b]? ≠ some (.cells Z t) := by
 intro b hb Z he
 cases q with
 | none => simp [jaj] at hb
 | some a => simp [jaj] at hb;subst hb;exact own_tag h he hne _ rfl rfl
theorem outT_ten {w w' : World} {r c : Int} {xs : List Nat} {q : Option Addr} {cp n : Nat} {vs : List Value} {en : Ending} {t : TypeId} (hl : xs.length = n) (h : w'.ownsRow w.heap.size 33 1 (.slice q n cp) n vs) (hf : F32s vs xs) (hne : 33 ≠ t)
 (he : en = .returned (.tuple #[.agg #[.int .i64 r,.int .i64 c,.slice q n cp],.bool true])) (hx : Ext w w') : OutT w t jaa ((r,c,xs,()),true) en w' := by
 subst hl;refine ⟨[.int .i64 r,.int .i64 c,.slice q xs.length cp],jaj q,he,own_ten rfl (own_flts.2 ⟨q,cp,vs,rfl,ownRow_of h,hf,(jbb h).1,(jbb h).2,rfl⟩),?_,?_,own_heap h hne,hx⟩
 · cases q <;> simp [jaj]
 · intro b hb
   cases q with
   | none => simp [jaj] at hb
   | some a => simp [jaj] at hb;subst hb;exact jas h _ rfl
theorem outT_no_ten {w : World} {en : Ending} {w' : World} {t : TypeId} (h : en = .returned (.tuple #[.agg #[.int .i64 0,.int .i64 0,.slice none 0 0],.bool false])) (hx : Ext w w') : OutT w t jaa ((0,0,[],()),false) en w' :=
 ⟨[.int .i64 0,.int .i64 0,.slice none 0 0],[],h,own_ten rfl own_nil,by simp,by simp,by simp,hx⟩
def res (d : shModel.T) (x : jaa.T) : jaa.T × Bool := if modB d.1 = true ∧ tenB x.1 x.2.1 (x.2.2.1 : List Nat).length = true ∧ x.2.1 = inL d.1 0 then ((x.1,outL d.1,rowsM d.1 x.2.2.1 x.2.1.toNat x.1.toNat,()),true) else ((0,0,[],()),false)
theorem impl_ok (cs0 : List Value) (D0 : shModel.T) (cs1 : List Value) (D1 : jaa.T) (w : World) (h0 : Rep w shModel cs0 D0) (h1 : Rep w jaa cs1 D1) (f0 : Fit shModel D0) (_ : Fit jaa D1) : Calls Try.prog 28 #[ofCs shModel cs0,ofCs jaa cs1] w (OutT w 27 jaa (res D0 D1)) := by
 obtain ⟨L0,u0⟩ := D0;obtain ⟨c0,c1,rfl,k0,rfl⟩ := h0;obtain ⟨p,c,rfl,_⟩ := rep_val k0;obtain ⟨p',c',css,he0,L⟩ := lays_of k0 f0.1
 cases he0
 obtain ⟨q,cq,us,rfl,hp,hf,hcq,hcm⟩ := jay h1;obtain ⟨r,k,xs,_⟩ := D1;dsimp only at hp hf hcq hcm ⊢;simp only [ofCs,Sh.agg,if_true,List.append_nil];have hxm : xs.length ≤ maxLen := Nat.le_trans hcq hcm;unfold res;dsimp only;obtain ⟨W0,hW0⟩ : ∃ W0,W0 = ((w.alloc (.cells #[.slice p L0.length c] 38)).alloc (.cells #[.int .i64 r,.int .i64 k,.slice q xs.length cq] 27)).alloc (.cells #[.int .i64 0,.int .i64 0,.slice none 0 0] 27) := ⟨_,rfl⟩;obtain ⟨E0,s0,b0,b1,b2⟩ := box3 hW0;have a0 : W0.cell? ⟨w.heap.size,0,none⟩ = some (.slice p L0.length c) := jat b0 rfl;have t0 : W0.cell? ⟨w.heap.size + 1,0,none⟩ = some (.int .i64 r) := jat b1 rfl;have t1 : W0.cell? ⟨w.heap.size + 1,1,none⟩ = some (.int .i64 k) := jat b1 rfl;have t2 : W0.cell? ⟨w.heap.size + 1,2,none⟩ = some (.slice q xs.length cq) := jat b1 rfl;have z0 : W0.cell? ⟨w.heap.size + 2,0,none⟩ = some (.int .i64 0) := jat b2 rfl;have z1 : W0.cell? ⟨w.heap.size + 2,1,none⟩ = some (.int .i64 0) := jat b2 rfl;have z2 : W0.cell? ⟨w.heap.size + 2,2,none⟩ = some (.slice none 0 0) := jat b2 rfl;have y0 := fun j => frozen_of_heap b2 (j := j)
 clear b0 b1 b2;have A := hid (fun W (h : Ext W0 W) => ValidModel_any p L0.length c L0 css W L.len L.le (L.cs.ext (E0.trans h)) (L.all.imp fun _ _ => Rep.ext (E0.trans h)) L.size L.cnt);have B := hid (fun W (h : Ext W0 W) => jbo r k q xs.length cq W hxm);have D := hid (fun W (h : Ext W0 W) h1 => in_any p L0.length c css L0 W (L.ext (E0.trans h)) h1);have E := hid (fun W (h : Ext W0 W) hM (R C : Nat) (h1 : (C : Int) = inL L0 0) h2 h3 (h4 : xs.length = R * C) => runModel_any p q L0.length c cq R C css L0 us xs W (L.ext (E0.trans h)) hM h1 h2 h3 h4 (by rw [← h4];exact hcq) hcm (hp.ext (E0.trans h)) hf);have hpos : modB L0 = true → 1 ≤ L0.length := fun h => (modOk h).pos
 have HX := hid (rfl : xs.length = xs.length);clear L k0 hp hf hcq hcm h1;generalize hb1 : modB L0 = b1 at *;generalize hb2 : tenB r k xs.length = b2 at *;generalize hn : L0.length = n at *;generalize hm : xs.length = m at *;generalize hi : inL L0 0 = I at *;have HN := hid hn;have HM := hid hm;have HI := hid hi;have HB1 := hid hb1;have HB2 := hid hb2;clear hn hm hi hb1 hb2 hxm HX
 cases b1
 · rw [if_neg (by simp)]
   clear D E;obtain ⟨F,hF⟩ : ∃ F : Option Tmp → World → Value → Prop,F = fun d _ u => match d with | some 7 => u = .bool false | some 11 => u = .bool b2 | _ => u = .int .i64 I := ⟨_,rfl⟩
   have HF := hid hF;clear hF;go_enter Try.func28,Try.ntmps28;go_wp2;rw [← hW0];clear hW0;have eD := Ext.drew W0;have d0 := eD.cell a0;have d1 := eD.cell t0;have d2 := eD.cell t1;have d3 := eD.cell t2;refine jae (F := F) (by kernel_rfl) (by kernel_rfl) (by kernel_rfl) ?_;intro wf hwf
   repeat (first
    | ((first | (refine ja8 rfl ?_) | (refine x_mv rfl rfl rfl ?_) | (refine x_as rfl rfl rfl ?_) | ((with_reducible show gx12);first | (refine jap (f := 35) (args := #[.agg #[.slice p n c]]) rfl rfl Try.func35 rfl (by kernel_rfl) ?_ ?_ ?_;(focus (simp [Act.eval];done));(focus (intro w1 hw1;exact (by rw [HF.out];exact (A.out w1 (eD.trans hw1)).mono fun e w3 h => ⟨_,h.1,h.2,rfl⟩)));rintro u w3 e3 e4 hu;simp only [HF.out] at hu;subst hu) | (refine jap (f := 69) (args := #[.agg #[.int .i64 r,.int .i64 k,.slice q m cq]]) rfl rfl Try.func69 rfl (by kernel_rfl) ?_ ?_ ?_;(focus (simp [Act.eval];done));(focus (intro w1 hw1;exact (by rw [HF.out];exact (B.out w1 (eD.trans hw1)).mono fun e w3 h => ⟨_,h.1,h.2,rfl⟩)));rintro u w3 e3 e4 hu;simp only [HF.out] at hu;subst hu)));simp only [Act.put,jab,pu1,pu2,pu3,pu4,pu5])
    | (refine jbw rfl fun K hK w1 hw1 => ?_;have k0 := hw1.cell (d0);have k1 := hw1.cell (d1);have k2 := hw1.cell (d2);have k3 := hw1.cell (d3);go_simp;refine hK _ ?_;clear hK K k0 k1 k2 k3 hw1 w1))
   refine jbu ?_;have eF := eD.trans hwf;have n0 := eF.cell z0;have n1 := eF.cell z1;have n2 := eF.cell z2;have n3 := eF.frozen (p := ⟨w.heap.size + 2,0,none⟩) (by simp;omega) (y0 0);have n4 := eF.frozen (p := ⟨w.heap.size + 2,1,none⟩) (by simp;omega) (y0 1);have n5 := eF.frozen (p := ⟨w.heap.size + 2,2,none⟩) (by simp;omega) (y0 2);have m0 := eF.cell a0;have m1 := eF.cell t0;have m2 := eF.cell t1;have m3 := eF.cell t2;clear z0 z1 z2 y0 a0 t0 t1 t2 d0 d1 d2 d3;go_wp2;refine bodyPost_ret (v := .tuple #[.agg #[.int .i64 0,.int .i64 0,.slice none 0 0],.bool false]) (by simp [results,Try.results28,go_sem,n0,n1,n2,n3,n4,n5]) rfl ?_;exact outT_no_ten rfl (by have := E0.trans eF;(repeat (first | (with_reducible first | exact Ext.refl _ | assumption) | ((with_reducible refine Ext.setCell ?_ ?_ _);rotate_left;focus (first | (simp;done) | (simp;omega))) | (with_reducible first | refine px1 ?_ _ | refine px2 ?_ | refine Ext.trans ?_ (by assumption)))))
 · cases b2
   · rw [if_neg (by simp)]
     clear D E;obtain ⟨F,hF⟩ : ∃ F : Option Tmp → World → Value → Prop,F = fun d _ u => match d with | some 7 => u = .bool true | some 11 => u = .bool false | _ => u = .int .i64 I := ⟨_,rfl⟩
     have HF := hid hF;clear hF;go_enter Try.func28,Try.ntmps28;go_wp2;rw [← hW0];clear hW0;have eD := Ext.drew W0;have d0 := eD.cell a0;have d1 := eD.cell t0;have d2 := eD.cell t1;have d3 := eD.cell t2;refine jae (F := F) (by kernel_rfl) (by kernel_rfl) (by kernel_rfl) ?_;intro wf hwf
     repeat (first
      | ((first | (refine ja8 rfl ?_) | (refine x_mv rfl rfl rfl ?_) | (refine x_as rfl rfl rfl ?_) | ((with_reducible show gx12);first | (refine jap (f := 35) (args := #[.agg #[.slice p n c]]) rfl rfl Try.func35 rfl (by kernel_rfl) ?_ ?_ ?_;(focus (simp [Act.eval];done));(focus (intro w1 hw1;exact (by rw [HF.out];exact (A.out w1 (eD.trans hw1)).mono fun e w3 h => ⟨_,h.1,h.2,rfl⟩)));rintro u w3 e3 e4 hu;simp only [HF.out] at hu;subst hu) | (refine jap (f := 69) (args := #[.agg #[.int .i64 r,.int .i64 k,.slice q m cq]]) rfl rfl Try.func69 rfl (by kernel_rfl) ?_ ?_ ?_;(focus (simp [Act.eval];done));(focus (intro w1 hw1;exact (by rw [HF.out];exact (B.out w1 (eD.trans hw1)).mono fun e w3 h => ⟨_,h.1,h.2,rfl⟩)));rintro u w3 e3 e4 hu;simp only [HF.out] at hu;subst hu)));simp only [Act.put,jab,pu1,pu2,pu3,pu4,pu5])
      | (refine jbw rfl fun K hK w1 hw1 => ?_;have k0 := hw1.cell (d0);have k1 := hw1.cell (d1);have k2 := hw1.cell (d2);have k3 := hw1.cell (d3);go_simp;refine hK _ ?_;clear hK K k0 k1 k2 k3 hw1 w1))
     refine jbu ?_;have eF := eD.trans hwf;have n0 := eF.cell z0;have n1 := eF.cell z1;have n2 := eF.cell z2;have n3 := eF.frozen (p := ⟨w.heap.size + 2,0,none⟩) (by simp;omega) (y0 0);have n4 := eF.frozen (p := ⟨w.heap.size + 2,1,none⟩) (by simp;omega) (y0 1);have n5 := eF.frozen (p := ⟨w.heap.size + 2,2,none⟩) (by simp;omega) (y0 2);have m0 := eF.cell a0;have m1 := eF.cell t0;have m2 := eF.cell t1;have m3 := eF.cell t2;clear z0 z1 z2 y0 a0 t0 t1 t2 d0 d1 d2 d3;go_wp2;refine bodyPost_ret (v := .tuple #[.agg #[.int .i64 0,.int .i64 0,.slice none 0 0],.bool false]) (by simp [results,Try.results28,go_sem,n0,n1,n2,n3,n4,n5]) rfl ?_;exact outT_no_ten rfl (by have := E0.trans eF;(repeat (first | (with_reducible first | exact Ext.refl _ | assumption) | ((with_reducible refine Ext.setCell ?_ ?_ _);rotate_left;focus (first | (simp;done) | (simp;omega))) | (with_reducible first | refine px1 ?_ _ | refine px2 ?_ | refine Ext.trans ?_ (by assumption)))))
   · have h1n := hpos rfl
     have hM := modOk HB1.out;have D2 := hid (fun W h => D.out W h h1n);obtain ⟨R,C,e1,e2,hR,hR1,hC,hC1,hmn⟩ := tenB_of HB2.out;subst e1 e2
     by_cases hx : (C : Int) = I
     · rw [if_pos ⟨rfl,rfl,hx⟩]
       subst hx;simp only [Int.toNat_natCast];have G := hid (fun W h => E.out W h hM R C rfl hR1 hC1 hmn);rw [← hmn] at G;have Hmn := hid hmn;have hK : (m : Int) ≤ 256 := by have := Nat.mul_le_mul hR1 hC1;omega
       clear D E hM h1n hmn;generalize hI : (C : Int) = kk at *;have HI2 := hid hI;clear hI;obtain ⟨F,hF⟩ : ∃ F : Option Tmp → World → Value → Prop,F = fun d _ u => match d with | some 7 => u = .bool true | some 11 => u = .bool true | _ => u = .int .i64 kk := ⟨_,rfl⟩
       have HF := hid hF;clear hF;go_enter Try.func28,Try.ntmps28;go_wp2;rw [← hW0];clear hW0;have eD := Ext.drew W0;have d0 := eD.cell a0;have d1 := eD.cell t0;have d2 := eD.cell t1;have d3 := eD.cell t2;refine jae (F := F) (by kernel_rfl) (by kernel_rfl) (by kernel_rfl) ?_;intro wf hwf
       repeat (first
        | ((first | (refine ja8 rfl ?_) | (refine x_mv rfl rfl rfl ?_) | (refine x_as rfl rfl rfl ?_) | ((with_reducible show gx12);first | (refine jap (f := 35) (args := #[.agg #[.slice p n c]]) rfl rfl Try.func35 rfl (by kernel_rfl) ?_ ?_ ?_;(focus (simp [Act.eval];done));(focus (intro w1 hw1;exact (by rw [HF.out];exact (A.out w1 (eD.trans hw1)).mono fun e w3 h => ⟨_,h.1,h.2,rfl⟩)));rintro u w3 e3 e4 hu;simp only [HF.out] at hu;subst hu) | (refine jap (f := 69) (args := #[.agg #[.int .i64 R,.int .i64 kk,.slice q m cq]]) rfl rfl Try.func69 rfl (by kernel_rfl) ?_ ?_ ?_;(focus (simp [Act.eval];done));(focus (intro w1 hw1;exact (by rw [HF.out];exact (B.out w1 (eD.trans hw1)).mono fun e w3 h => ⟨_,h.1,h.2,rfl⟩)));rintro u w3 e3 e4 hu;simp only [HF.out] at hu;subst hu) | (refine jap (f := 70) (args := #[.agg #[.slice p n c]]) rfl rfl Try.func70 rfl (by kernel_rfl) ?_ ?_ ?_;(focus (simp [Act.eval];done));(focus (intro w1 hw1;exact (by rw [HF.out];exact (D2.out w1 (eD.trans hw1)).mono fun e w3 h => ⟨_,h.1,h.2,rfl⟩)));rintro u w3 e3 e4 hu;simp only [HF.out] at hu;subst hu)));simp only [Act.put,jab,pu1,pu2,pu3,pu4,pu5])
        | (refine jbw rfl fun K hK w1 hw1 => ?_;have k0 := hw1.cell (d0);have k1 := hw1.cell (d1);have k2 := hw1.cell (d2);have k3 := hw1.cell (d3);go_simp;refine hK _ ?_;clear hK K k0 k1 k2 k3 hw1 w1))
       refine jbu ?_;have eF := eD.trans hwf;have n0 := eF.cell z0;have n1 := eF.cell z1;have n2 := eF.cell z2;have n3 := eF.frozen (p := ⟨w.heap.size + 2,0,none⟩) (by simp;omega) (y0 0);have n4 := eF.frozen (p := ⟨w.heap.size + 2,1,none⟩) (by simp;omega) (y0 1);have n5 := eF.frozen (p := ⟨w.heap.size + 2,2,none⟩) (by simp;omega) (y0 2);have m0 := eF.cell a0;have m1 := eF.cell t0;have m2 := eF.cell t1;have m3 := eF.cell t2;clear a0 t0 t1 t2 d0 d1 d2 d3 A B D2;go_wp2_with fail;refine (G.out _ eF).mono ?_;rintro e w4 ⟨q4,cp4,vs4,rfl,own4,hf4,e4'⟩
       generalize rowsM L0 xs C R = z at *;generalize hz : z.length = zl at *;have HZ := hid hz;clear hz;have hz2 : w.heap.size + 2 < wf.heap.size := lt_of_cell n0;have l0 := e4'.cell n0;have l1 := e4'.cell n1;have l2 := e4'.cell n2;have l3 := e4'.frozen (p := ⟨w.heap.size + 2,0,none⟩) hz2 n3;have l4 := e4'.frozen (p := ⟨w.heap.size + 2,1,none⟩) hz2 n4;have l5 := e4'.frozen (p := ⟨w.heap.size + 2,2,none⟩) hz2 n5;have e5 := E0.trans (eF.trans e4');have s5 := eF.size;clear n0 n1 n2 n3 n4 n5 z0 z1 z2 y0;generalize outL L0 = oL at *;go_wp2;refine bodyPost_ret (v := .tuple #[.agg #[.int .i64 R,.int .i64 oL,.slice q4 zl cp4],.bool true]) (by simp [results,Try.results28,go_sem,l0,l1,l2,l3,l4,l5]) rfl ?_;exact outT_ten HZ.out (jak (jag (S := fun k => k = w.heap.size + 2) own4 (by (repeat (first | (with_reducible first | exact Chg.refl _ _ | exact Chg.of_ext (by assumption) | assumption) | ((with_reducible refine Chg.setCell ?_ ?_ _);rotate_left;focus (first | (simp;done) | (simp;omega))) | (with_reducible first | refine Chg.alloc ?_ _ | refine Chg.drew ?_ | refine px3 ?_ (by assumption))))) (fun k hk => by omega)) (by have := E0.size;omega)) hf4 (by decide) rfl (by (repeat (first | (with_reducible first | exact Ext.refl _ | assumption) | ((with_reducible refine Ext.setCell ?_ ?_ _);rotate_left;focus (first | (simp;done) | (simp;omega))) | (with_reducible first | refine px1 ?_ _ | refine px2 ?_ | refine Ext.trans ?_ (by assumption)))))
     · rw [if_neg (fun h => hx h.2.2)]
       have hx2 : ((C : Int) != I) = true := bne_t hx;clear E hM h1n hmn D hx;generalize hI : (C : Int) = kk at *;have HI2 := hid hI;clear hI;obtain ⟨F,hF⟩ : ∃ F : Option Tmp → World → Value → Prop,F = fun d _ u => match d with | some 7 => u = .bool true | some 11 => u = .bool true | _ => u = .int .i64 I := ⟨_,rfl⟩
       have HF := hid hF;clear hF;go_enter Try.func28,Try.ntmps28;go_wp2;rw [← hW0];clear hW0;have eD := Ext.drew W0;have d0 := eD.cell a0;have d1 := eD.cell t0;have d2 := eD.cell t1;have d3 := eD.cell t2;refine jae (F := F) (by kernel_rfl) (by kernel_rfl) (by kernel_rfl) ?_;intro wf hwf
       repeat (first
        | ((first | (refine ja8 rfl ?_) | (refine x_mv rfl rfl rfl ?_) | (refine x_as rfl rfl rfl ?_) | ((with_reducible show gx12);first | (refine jap (f := 35) (args := #[.agg #[.slice p n c]]) rfl rfl Try.func35 rfl (by kernel_rfl) ?_ ?_ ?_;(focus (simp [Act.eval];done));(focus (intro w1 hw1;exact (by rw [HF.out];exact (A.out w1 (eD.trans hw1)).mono fun e w3 h => ⟨_,h.1,h.2,rfl⟩)));rintro u w3 e3 e4 hu;simp only [HF.out] at hu;subst hu) | (refine jap (f := 69) (args := #[.agg #[.int .i64 R,.int .i64 kk,.slice q m cq]]) rfl rfl Try.func69 rfl (by kernel_rfl) ?_ ?_ ?_;(focus (simp [Act.eval];done));(focus (intro w1 hw1;exact (by rw [HF.out];exact (B.out w1 (eD.trans hw1)).mono fun e w3 h => ⟨_,h.1,h.2,rfl⟩)));rintro u w3 e3 e4 hu;simp only [HF.out] at hu;subst hu) | (refine jap (f := 70) (args := #[.agg #[.slice p n c]]) rfl rfl Try.func70 rfl (by kernel_rfl) ?_ ?_ ?_;(focus (simp [Act.eval];done));(focus (intro w1 hw1;exact (by rw [HF.out];exact (D2.out w1 (eD.trans hw1)).mono fun e w3 h => ⟨_,h.1,h.2,rfl⟩)));rintro u w3 e3 e4 hu;simp only [HF.out] at hu;subst hu)));simp only [Act.put,jab,pu1,pu2,pu3,pu4,pu5])
        | (refine jbw rfl fun K hK w1 hw1 => ?_;have k0 := hw1.cell (d0);have k1 := hw1.cell (d1);have k2 := hw1.cell (d2);have k3 := hw1.cell (d3);go_simp;refine hK _ ?_;clear hK K k0 k1 k2 k3 hw1 w1))
       refine jbu ?_;have eF := eD.trans hwf;have n0 := eF.cell z0;have n1 := eF.cell z1;have n2 := eF.cell z2;have n3 := eF.frozen (p := ⟨w.heap.size + 2,0,none⟩) (by simp;omega) (y0 0);have n4 := eF.frozen (p := ⟨w.heap.size + 2,1,none⟩) (by simp;omega) (y0 1);have n5 := eF.frozen (p := ⟨w.heap.size + 2,2,none⟩) (by simp;omega) (y0 2);have m0 := eF.cell a0;have m1 := eF.cell t0;have m2 := eF.cell t1;have m3 := eF.cell t2;clear z0 z1 z2 y0 a0 t0 t1 t2 d0 d1 d2 d3;go_wp2;refine bodyPost_ret (v := .tuple #[.agg #[.int .i64 0,.int .i64 0,.slice none 0 0],.bool false]) (by simp [results,Try.results28,go_sem,n0,n1,n2,n3,n4,n5]) rfl ?_;exact outT_no_ten rfl (by have := E0.trans eF;(repeat (first | (with_reducible first | exact Ext.refl _ | assumption) | ((with_reducible refine Ext.setCell ?_ ?_ _);rotate_left;focus (first | (simp;done) | (simp;omega))) | (with_reducible first | refine px1 ?_ _ | refine px2 ?_ | refine Ext.trans ?_ (by assumption)))))
end Go.Proofs.Ytmbckkcgiafagaa.lRunModel
namespace Go.Proofs.Ytmbckkcgiafagaa
open Go.RowKit
def lblB (O : Int) (l : List Int) : Bool := l.all fun n => inB n 0 (O - 1)
abbrev shExamples : Sh := .pr jaa (.pr jaa (.un))
def exaB (r1 c1 : Int) (n1 : Nat) (r2 c2 : Int) (n2 : Nat) : Bool := tenB r1 c1 n1 && (tenB r2 c2 n2 && decide (r1 = r2))
end Go.Proofs.Ytmbckkcgiafagaa
namespace Go.Proofs.Ytmbckkcgiafagaa.lCountCorrect
open Go.RowKit
def okD (d : shModel.T) (x : shExamples.T) : Prop := exaB x.1.1 x.1.2.1 (x.1.2.2.1 : List Nat).length x.2.1.1 x.2.1.2.1 (x.2.1.2.2.1 : List Nat).length = true ∧ modB d.1 = true ∧ x.1.2.1 = inL d.1 0 ∧ x.2.1.2.1 = outL d.1
instance (d : shModel.T) (x : shExamples.T) : Decidable (okD d x) := by unfold okD;infer_instance
end Go.Proofs.Ytmbckkcgiafagaa.lCountCorrect
