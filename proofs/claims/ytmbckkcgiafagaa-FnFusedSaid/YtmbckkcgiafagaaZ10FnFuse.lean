/- A part of the proofs: InOut, RowT, Clo, Row, RowM, RowS, Tab. -/
import Derived.Test.YtmbckkcgiafagaaZ09FnFuse
import Derived.Test.YtmbckkcgiafagaaZ06FnFuse
import Derived.Test.YtmbckkcgiafagaaZ07FnFuse
set_option linter.unusedSimpArgs false
set_option linter.unusedVariables false
set_option maxRecDepth 100000
set_option maxHeartbeats 16000000
namespace Go.Proofs.Ytmbckkcgiafagaa
open Go.RowKit
theorem Lays.at {w : World} {p : Option Addr} {n : Nat} {css : List (List Value)} {l : List jaa.T} (h : Lays w p n css l) {i : Nat} (hi : i < n) : ∃ ci,css[i]? = some ci ∧ ci[1]? = some (.int .i64 (inL l i)) ∧ ci[2]? = some (.int .i64 ((l[i]?.map fun d => d.2.2.1).getD 0)) ∧ p.isSome = true := by
 have hl := h.len;obtain ⟨ci,hci,ri⟩ := h.all.get i (l[i]'(by omega)) (by simp);have hs := h.cs.some_of h.size (by decide) (show i < css.length by rw [h.cnt];exact hi);obtain ⟨pw,cw,pb,cb,rfl,_,_⟩ := lay_vals ri;exact ⟨_,hci,by unfold inL;simp [show i < l.length by omega],by simp [show i < l.length by omega],hs⟩
theorem in_any (p : Option Addr) (n c : Nat) (css : List (List Value)) (l : List jaa.T) (w : World) (L : Lays w p n css l) (h1 : 1 ≤ n) : Calls Try.prog 70 #[.agg #[.slice p n c]] w fun e w' => e = .returned (.int .i64 (inL l 0)) ∧ Ext w w' := by
 obtain ⟨ci,k1,k2,_,k4⟩ := L.at (i := 0) (by omega);have l1 := L.cs.ext (Ext.alloc w (.cells #[.slice p n c] 38));have l3 := L.size;have l5 := hid L.cnt;generalize inL l 0 = v at *;clear L;have K1 := hid k1;have K2 := hid k2;clear k1 k2;go_enter Try.func70,Try.ntmps70;go_wp2_with ((with_reducible show gx14);refine wl_ldField (f := 1) (off := 1) (j := 0) rfl rfl rfl rfl rfl rfl (fun _ => rfl) (fun _ _ => rfl) jbn rfl rfl rfl l1 l3 l5.out (by omega) k4 K1.out K2.out ?_);go_ret;exact ⟨rfl,Ext.alloc _ _⟩
theorem outL_eq {l : List jaa.T} {n : Nat} (h : l.length = n) : ((l[n - 1]?.map fun d => d.2.2.1).getD 0) = outL l := by subst h;rfl
theorem out_any (p : Option Addr) (n c : Nat) (css : List (List Value)) (l : List jaa.T) (w : World) (L : Lays w p n css l) (h1 : 1 ≤ n) : Calls Try.prog 98 #[.agg #[.slice p n c]] w fun e w' => e = .returned (.int .i64 (outL l)) ∧ Ext w w' := by
 obtain ⟨ci,k1,_,k2,k4⟩ := L.at (i := n - 1) (by omega);rw [outL_eq L.len] at k2;have hn := L.le;unfold maxLen at hn;have l1 := L.cs.ext (Ext.alloc w (.cells #[.slice p n c] 38));have l3 := L.size;have l5 := hid L.cnt;generalize outL l = v at *;clear L;have K1 := hid k1;have K2 := hid k2;clear k1 k2;go_enter Try.func98,Try.ntmps98;go_wp2_with ((with_reducible show gx14);refine wl_ldField (f := 2) (off := 2) (j := n - 1) rfl rfl rfl rfl rfl rfl (fun _ => rfl) (fun _ _ => rfl) jbe rfl rfl (by omega) l1 l3 l5.out (by omega) k4 K1.out K2.out ?_);go_ret;exact ⟨rfl,Ext.alloc _ _⟩
theorem l03Out_any {sp : Option Nat} (bl o' : Nat) (p : Option Addr) (n c : Nat) (css : List (List Value)) (l : List jaa.T) (w : World) (L : Lays w p n css l) (h1 : 1 ≤ n) (f0 : w.cell? ⟨bl,o',sp⟩ = some (.slice p n c)) : Calls Try.prog 117 #[.pointer (some ⟨bl,o',sp⟩)] w fun e w' => e = .returned (.int .i64 (outL l)) ∧ Ext w w' := by
 obtain ⟨ci,k1,_,k2,k4⟩ := L.at (i := n - 1) (by omega);rw [outL_eq L.len] at k2;have hn := L.le;unfold maxLen at hn;have l1 := L.cs.ext (Ext.drew w);have l3 := L.size;have l5 := hid L.cnt;have g0 := (Ext.drew w).cell f0;generalize outL l = v at *;clear L;have K1 := hid k1;have K2 := hid k2;have hw : IntKind.i64.wrap ((n : Int) - 1) = (n : Int) - 1 := jao _ (by omega) (by omega);clear k1 k2;go_enter Try.func117,Try.ntmps117;go_wp2;refine jab (F := fun _ _ _ => False) (by kernel_rfl) (by kernel_rfl) (by kernel_rfl) ?_;intro wf hwf
 repeat (first
  | ((first | (refine jar rfl ?_) | (refine x_mv rfl rfl rfl ?_) | (refine x_as rfl rfl rfl ?_) | ((with_reducible show gx7);refine x_ldField (f := 2) (off := 2) (j := n - 1) rfl rfl (fun _ => rfl) rfl (fun _ _ => rfl) rfl (fun _ => rfl) (fun _ _ => rfl) jbe rfl rfl (by omega) l1 l3 l5.out (by omega) k4 K1.out K2.out ?_));simp only [Act.put,jad,pu1,pu2,pu3,pu4,pu5])
  | (refine ja7 rfl fun K hK w1 hw1 => ?_;have k0 := hw1.cell (g0);go_simp;refine hK _ ?_;clear hK K k0 hw1 w1))
 refine ja6 ?_;go_wp2;go_ret;exact ⟨rfl,(Ext.drew _).trans hwf⟩
def rowT (xs : List Nat) (c i : Nat) : List Nat := (xs.take ((i + 1) * c)).drop (i * c)
theorem row_le {r c i : Nat} (hi : i < r) : (i + 1) * c ≤ r * c := Nat.mul_le_mul_right c hi
theorem rowT_len {xs : List Nat} {c i r : Nat} (h : xs.length = r * c) (hi : i < r) : (rowT xs c i).length = c := by
 unfold rowT;rw [List.length_drop,List.length_take,h,Nat.min_eq_left (row_le hi),Nat.add_mul];omega
def rowsM (l : List jaa.T) (xs : List Nat) (c r : Nat) : List Nat := ((List.range r).map fun i => curF l (rowT xs c i) l.length).flatten
theorem rowsM_zero (l : List jaa.T) (xs : List Nat) (c : Nat) : rowsM l xs c 0 = [] := rfl
theorem rowsM_succ (l : List jaa.T) (xs : List Nat) (c r : Nat) : rowsM l xs c (r + 1) = rowsM l xs c r ++ curF l (rowT xs c r) l.length := by
 simp [rowsM,List.range_succ]
theorem rowsM_len {l : List jaa.T} {xs : List Nat} {c R m : Nat} (hM : ModOk l) (hc : (c : Int) = inL l 0) (hm : (m : Int) = outL l) (hx : xs.length = R * c) : ∀ r,r ≤ R → (rowsM l xs c r).length = r * m
 | 0,_ => by simp [rowsM_zero]
 | r + 1,h => by
   have h1 := cur_out hM (x := rowT xs c r) (by rw [rowT_len hx (by omega)];exact hc);rw [rowsM_succ,List.length_append,rowsM_len hM hc hm hx r (by omega),Nat.add_mul];omega
theorem outL_nat {l : List jaa.T} (hM : ModOk l) : ∃ m : Nat,(m : Int) = outL l ∧ 1 ≤ m ∧ m ≤ 8 := by
 have hp := hM.pos;obtain ⟨n,hn⟩ : ∃ n,l.length = n + 1 := ⟨l.length - 1,by omega⟩;have h1 := layD_int (hM.lay n (by omega))
 have h2 : outL l = (l[n]'(by omega)).2.2.1 := by
  unfold outL;simp [hn,show n < l.length by omega]
 exact ⟨(outL l).toNat,by omega,by omega,by omega⟩
theorem tenB_of {r c : Int} {n : Nat} (h : tenB r c n = true) : ∃ R C : Nat,r = R ∧ c = C ∧ 1 ≤ R ∧ R ≤ 16 ∧ 1 ≤ C ∧ C ≤ 16 ∧ n = R * C := by
 unfold tenB at h;simp only [Bool.and_eq_true,jas,decide_eq_true_eq] at h;obtain ⟨⟨h1,h2⟩,h3⟩ := h;obtain ⟨R,rfl⟩ := Int.eq_ofNat_of_zero_le (show 0 ≤ r by omega);obtain ⟨C,rfl⟩ := Int.eq_ofNat_of_zero_le (show 0 ≤ c by omega);exact ⟨R,C,rfl,rfl,by omega,by omega,by omega,by omega,by exact_mod_cast h3⟩
theorem cell_le {R C i : Nat} (hi : i < R) (hR : R ≤ 16) (hC : C ≤ 16) : (i + 1) * C ≤ R * C ∧ R * C ≤ 256 ∧ i * C ≤ (i + 1) * C ∧ (i + 1) * C - i * C = C := by
 have h1 := row_le (c := C) hi;have h2 := Nat.mul_le_mul hR hC;rw [Nat.add_mul] at *;omega
theorem own_ten {w : World} {r c : Int} {q : Option Addr} {n cp : Nat} {xs : List Nat} {bs : List Nat} (e : xs.length = n) (h : Own w (.sl .flt) [.slice q n cp] xs bs) : Own w jae [.int .i64 r,.int .i64 c,.slice q n cp] (r,c,xs,()) bs := by
 subst e;exact ⟨[.int .i64 r],[.int .i64 c,.slice q xs.length cp],[],bs,rfl,⟨rfl,rfl⟩,⟨[.int .i64 c],[.slice q xs.length cp],[],bs,rfl,⟨rfl,rfl⟩,⟨[.slice q xs.length cp],[],bs,[],rfl,h,⟨rfl,rfl⟩,by simp⟩,rfl⟩,rfl⟩
theorem ten_vals {w : World} {cs : List Value} {d : jae.T} (h : Rep w jae cs d) : ∃ p c us,cs = [.int .i64 d.1,.int .i64 d.2.1,.slice p d.2.2.1.length c] ∧ Cs w p us ∧ F32s us d.2.2.1 ∧ (d.2.2.1 : List Nat).length ≤ c ∧ c ≤ maxLen := by
 obtain ⟨d1,d2,d3,_⟩ := d;obtain ⟨_,_,rfl,rfl,_,_,rfl,rfl,_,_,rfl,h3,rfl⟩ := h;obtain ⟨p,c,us,rfl,hp,hf,hc,hn⟩ := ja5.1 h3;exact ⟨p,c,us,rfl,hp,hf,hc,hn⟩
theorem retFl_nil {w w' : World} {e : Ending} (he : e = .returned (.slice none 0 0)) (hx : Ext w w') : RetFl w [] e w' :=
 ⟨none,0,[],he,⟨rfl,.inl ⟨rfl,rfl⟩⟩,F32s.nil,hx⟩
theorem cloneF_any (p : Option Addr) (n c : Nat) (us : List Value) (xs : List Nat) (w : World) (hx : xs.length = n) (hn : n ≤ 1073741824) (hc : n ≤ c) (hp : Cs w p us) (hf : F32s us xs) : Calls Try.prog 93 #[.slice p n c] w (RetFl w xs) := by
 have o1 := hid hf.one;have u1 := hf.1
 cases p with
 | none =>
   have h0 : us = [] := Classical.byContradiction fun h => by have := hp.isS h;simp at this
   subst h0;obtain rfl : xs = [] := List.eq_nil_of_length_eq_zero (by simpa using u1.symm);obtain rfl : n = 0 := by simpa using hx.symm
   clear hp hf o1 u1;go_enter Try.func93,Try.ntmps93;go_wp2;go_ret;exact retFl_nil rfl (Ext.refl _)
 | some ad =>
   have hstart : (w.alloc (.cells #[] 33)).ownsRow w.heap.size 33 1 (.slice (some ⟨w.heap.size,0,none⟩) 0 0) 0 [] := World.ownsRow_made w #[] 0 (Nat.le_refl _) (by decide) rfl;have e0 := Ext.alloc w (.cells #[] 33);have HX := hid hx;have U1 := hid u1;clear hx u1;go_enter Try.func93,Try.ntmps93;go_wp2_with ((with_reducible show gx8);refine wl_appz rfl rfl rfl rfl hstart (hp.ext e0) (by rw [U1.out,HX.out,Nat.mul_one]) hc o1.out (by unfold maxLen;omega) (by omega) (by simp) ?_;intro v1 w1 own1 g1);go_ret;rw [Nat.zero_add,List.nil_append] at own1;exact retFl_of HX.out own1 hf rfl (e0.grown g1 (fun k hk => jah hstart k hk))
theorem row_any (R C i n cp : Nat) (p : Option Addr) (w : World) (hi : i < R) (hR : R ≤ 16) (hC : C ≤ 16) (hn : n = R * C) (hcp : n ≤ cp) :
 Calls Try.prog 114 #[.agg #[.int .i64 R,.int .i64 C,.slice p n cp],.int .i64 i] w fun e w' => e = .returned (.slice (subp p 1 (i * C) cp) C (cp - i * C)) ∧ Ext w w' := by
 obtain ⟨h1,h2,h3,h4⟩ := cell_le (C := C) hi hR hC;have q1 : IntKind.i64.wrap ((i : Int) * C) = ((i * C : Nat) : Int) := by rw [← Int.natCast_mul];exact jao _ (by omega) (by omega)
 have q2 : IntKind.i64.wrap ((i : Int) + 1) = ((i + 1 : Nat) : Int) := by rw [show (i : Int) + 1 = ((i + 1 : Nat) : Int) by omega];exact jao _ (by omega) (by omega)
 have q3 : IntKind.i64.wrap (((i : Int) + 1) * C) = (((i + 1) * C : Nat) : Int) := by rw [show ((i : Int) + 1) * C = (((i + 1) * C : Nat) : Int) by push_cast;rfl];exact jao _ (by omega) (by omega)
 generalize hA : i * C = A at *;generalize hB : (i + 1) * C = B at *;have h5 : A ≤ B := h3;have h6 : B ≤ cp := by omega
 have H4 := hid h4;clear hA hB;go_enter Try.func114,Try.ntmps114;go_wp2_with (refine wl_slice (l := A) (u := B) rfl rfl rfl rfl rfl (by first | rfl | exact q1) (by first | rfl | exact q3) h5 h6 ?_);go_ret;exact ⟨rfl,Ext.alloc _ _⟩
def IsFl (B : Nat) (xs : List Nat) (w : World) (u : Value) : Prop := ∃ q c vs,u = .slice q xs.length c ∧ w.ownsRow B 33 1 (.slice q xs.length c) xs.length vs ∧ F32s vs xs
theorem IsFl.ext {B : Nat} {xs : List Nat} {w w' : World} {u : Value} (h : IsFl B xs w u) (e : Ext w w') : IsFl B xs w' u := by
 obtain ⟨q,c,vs,h1,h2,h3⟩ := h;exact ⟨q,c,vs,h1,jak h2 e,h3⟩
theorem IsFl.base {B B' : Nat} {xs : List Nat} {w : World} {u : Value} (h : IsFl B xs w u) (hB : B' ≤ B) : IsFl B' xs w u := by
 obtain ⟨q,c,vs,h1,h2,h3⟩ := h;exact ⟨q,c,vs,h1,ja0 h2 hB,h3⟩
theorem row_cs {w : World} {p : Option Addr} {us : List Value} {C i cp : Nat} (hp : Cs w p us) (h : (i + 1) * C ≤ cp) : Cs w (subp p 1 (i * C) cp) ((us.take ((i + 1) * C)).drop (i * C)) := by
 have := hp.sub (s := 1) (l := i * C) (hi := (i + 1) * C) (c := cp) (by rw [Nat.add_mul];omega) h
 simpa only [Nat.mul_one] using this
theorem jai {w : World} {b : Nat} {Z : Array Value} {t : TypeId} {j : Nat} {v : Value} (h : w.heap[b]? = some (.cells Z t)) (hv : Z[j]? = some v) : w.cell? ⟨b,j,none⟩ = some v := by simp [World.cell?,h,hv]
theorem frozen_of_heap {w : World} {b : Nat} {Z : Array Value} {t : TypeId} {j : Nat} (h : w.heap[b]? = some (.cells Z t)) : w.frozen? ⟨b,j,none⟩ = false := by simp [World.frozen?,h]
theorem box2 {w W0 : World} {A B : Array Value} {ta tb : TypeId} (h : W0 = (w.alloc (.cells A ta)).alloc (.cells B tb)) : Ext w W0 ∧ W0.heap.size = w.heap.size + 2 ∧ W0.heap[w.heap.size]? = some (.cells A ta) ∧ W0.heap[w.heap.size + 1]? = some (.cells B tb) := by
 subst h;have e1 := Ext.alloc w (.cells A ta);have e2 := Ext.alloc (w.alloc (.cells A ta)) (.cells B tb);refine ⟨e1.trans e2,by simp,?_,?_⟩
 · rw [e2.block _ (by simp)];exact heap_alloc_new w _
 · have := heap_alloc_new (w.alloc (.cells A ta)) (.cells B tb)
   simpa using this
theorem box3 {w W0 : World} {A B C : Array Value} {ta tb tc : TypeId} (h : W0 = ((w.alloc (.cells A ta)).alloc (.cells B tb)).alloc (.cells C tc)) : Ext w W0 ∧ W0.heap.size = w.heap.size + 3 ∧ W0.heap[w.heap.size]? = some (.cells A ta) ∧ W0.heap[w.heap.size + 1]? = some (.cells B tb) ∧ W0.heap[w.heap.size + 2]? = some (.cells C tc) := by
 subst h;obtain ⟨h1,h2,h3,h4⟩ := box2 (w := w) (A := A) (B := B) (ta := ta) (tb := tb) rfl;have e3 := Ext.alloc ((w.alloc (.cells A ta)).alloc (.cells B tb)) (.cells C tc);refine ⟨h1.trans e3,by simp,?_,?_,?_⟩
 · rw [e3.block _ (by simp;omega)];exact h3
 · rw [e3.block _ (by simp)];exact h4
 · have := heap_alloc_new ((w.alloc (.cells A ta)).alloc (.cells B tb)) (.cells C tc)
   simpa using this
section
variable {P : Program} {w wf : World} {ops : Array Oper} {rest : List Oper} {o : Oper} {a : Act} {Q : Act → Prop} {F : Option Tmp → World → World → Value → Prop}
theorem x_alloc {t : TypeId} {Z : Array Value} (hw : Region.wanted o (yielded ops a.tmps) = true) (hr : ∀ w1,(execOp a.eval o).run P w1 = .ok (.value (.pointer (some ⟨w1.heap.size,0,none⟩))) (w1.alloc (.cells Z t)))
 (h : ∀ b,w.heap.size ≤ b → b < wf.heap.size → wf.heap[b]? = some (.cells Z t) → wpX P ops F w wf Q rest (a.put o.dst (.pointer (some ⟨b,0,none⟩)))) : wpX P ops F w wf Q (o :: rest) a :=
 x_made (V := fun wf u => ∃ b,u = .pointer (some ⟨b,0,none⟩) ∧ w.heap.size ≤ b ∧ b < wf.heap.size ∧ wf.heap[b]? = some (.cells Z t)) hw
  (fun w1 e1 => ⟨_,_,hr w1,Ext.alloc _ _,fun wf hf => ⟨w1.heap.size,rfl,e1.size,Nat.lt_of_lt_of_le (by simp) hf.size,by rw [hf.block _ (by simp)];exact heap_alloc_new w1 _⟩⟩)
  (fun u ⟨b,h1,h2,h3,h4⟩ => by subst h1;exact h b h2 h3 h4)
end
theorem growBase {w : World} {B B' : Nat} {te : TypeId} {E : Sh} {v : Value} {l : List E.T} {css : List (List Value)} {bss : List (List Nat)} (h : GrowOwn w B te E v l css bss) (hB : B' ≤ B) : GrowOwn w B' te E v l css bss :=
 ⟨ja0 h.row hB,h.els,h.nodup,fun b hb => ⟨Nat.le_trans hB (h.lo b hb).1,(h.lo b hb).2⟩⟩
theorem ja3 {S : Nat → Prop} {w w' : World} {B e s n : Nat} {v : Value} {vs : List Value} (h : w.ownsRow B e s v n vs) (k : Chg S w w') (hS : ∀ b,S b → b < B) : w'.ownsRow B e s v n vs := by
 obtain ⟨h1,h2⟩ := h;refine ⟨h1,?_⟩;rcases h2 with h2 | ⟨g,cap,cur,hv,hg,hh,r⟩
 · exact .inl h2
 · have hlt : g < w.heap.size := by
    rcases Nat.lt_or_ge g w.heap.size with h' | h'
    · exact h'
    · simp [Array.getElem?_eq_none h'] at hh
   exact .inr ⟨g,cap,cur,hv,hg,by rw [k.block g hlt (fun hs => by have := hS g hs;omega)];exact hh,r⟩
theorem own_slice {w : World} {B e s n : Nat} {v : Value} {vs : List Value} (h : w.ownsRow B e s v n vs) : ∃ q c,v = .slice q n c := by
 rcases h.2 with ⟨h1,h2⟩ | ⟨g,cap,cur,h1,_⟩
 · exact ⟨none,0,by rw [h1,h2]⟩
 · exact ⟨_,_,h1⟩
def IsSt (B : Nat) (l : List (List Nat)) (w : World) (u : Value) : Prop := ∃ css bss,GrowOwn w B 25 (.sl .flt) u l css bss
theorem IsSt.ext {B : Nat} {l : List (List Nat)} {w w' : World} {u : Value} (h : IsSt B l w u) (e : Ext w w') : IsSt B l w' u := by
 obtain ⟨css,bss,hg⟩ := h;exact ⟨css,bss,hg.ext e⟩
theorem IsSt.last {B : Nat} {l : List jaa.T} {x : List Nat} {n : Nat} {w : World} {u : Value} (h : IsSt B (stF l x n) w u) (hn : 1 ≤ n) : ∃ (p : Option Addr) (k : Nat) (q : Option Addr) (m cq : Nat) (css : List (List Value)),u = .slice p n k ∧ Cs w p css.flatten ∧ (∀ c ∈ css,c.length = 1) ∧ css.length = n ∧ p.isSome = true ∧ css[n - 1]? = some [.slice q m cq] ∧ Rep w (.sl .flt) [.slice q m cq] (curF l x n) := by
 obtain ⟨css,bss,hg⟩ := h;have hrow := hg.row;rw [stF_len] at hrow;have hall := hg.els.all;have k1 := hg.els.1;have k2 := hg.els.2.1;rw [stF_len] at k1 k2
 have hr := (hg.els.2.2 (n - 1) (css[n - 1]'(by omega)) (bss[n - 1]'(by omega)) (curF l x n) (by simp) (by simp) (by
  unfold stF;rw [List.getElem?_map,List.getElem?_range (by omega)];simp [show n - 1 + 1 = n by omega])).rep
 obtain ⟨q,cq,us,hc,hrest⟩ := ja5.1 hr
 obtain ⟨p,k,rfl⟩ : ∃ p k,u = .slice p n k := by
  rcases hrow.2 with ⟨h1,h2⟩ | ⟨g,cap,cur,h1,_⟩
  · exact ⟨none,0,by rw [h1,h2]⟩
  · exact ⟨_,_,h1⟩
 have hp := jbc hrow;refine ⟨p,k,q,_,cq,css,rfl,hp,hall,k1,?_,by rw [← hc];simp,by rw [← hc];exact hr⟩;exact hp.some_of (s := 1) (i := 0) hall (by decide) (by omega)
theorem rep_row {w : World} {p : Option Addr} {us : List Value} {xs : List Nat} {C i R cp : Nat} (hp : Cs w p us) (hf : F32s us xs) (hx : xs.length = R * C) (hi : i < R) (hcp : R * C ≤ cp) (hcm : cp ≤ maxLen) : Rep w (.sl .flt) [.slice (subp p 1 (i * C) cp) C (cp - i * C)] (rowT xs C i) := by
 have hl := rowT_len hx hi;have h1 := row_le (c := C) hi;have h2 : (i + 1) * C = i * C + C := by rw [Nat.add_mul];omega
 refine ja5.2 ⟨_,_,_,by rw [hl],row_cs hp (by omega),hf.part _ _,by rw [hl];omega,by omega⟩
def RetTen (w : World) (r c : Int) (xs : List Nat) (e : Ending) (w' : World) : Prop :=
 ∃ q cp vs,e = .returned (.agg #[.int .i64 r,.int .i64 c,.slice q xs.length cp]) ∧ w'.ownsRow w.heap.size 33 1 (.slice q xs.length cp) xs.length vs ∧ F32s vs xs ∧ Ext w w'
theorem RetTen.of {w w' : World} {r c : Int} {xs : List Nat} {v : Value} {vs : List Value} {n : Nat} {e : Ending} (hl : xs.length = n) (h : w'.ownsRow w.heap.size 33 1 v n vs) (hf : F32s vs xs) (he : e = .returned (.agg #[.int .i64 r,.int .i64 c,v])) (hx : Ext w w') : RetTen w r c xs e w' := by
 obtain ⟨q,cp,us,h1,h2,h3,h4⟩ := retFl_of hl h hf (e := .returned v) rfl hx;simp only [Ending.returned.injEq] at h1;subst h1;exact ⟨q,cp,us,he,h2,h3,h4⟩
theorem app_row {A : List Nat} {n m : Nat} (h : A.length = n * m) : (n + 1) * m = n * m + m := by rw [Nat.add_mul];omega
theorem runModel_any (p q0 : Option Addr) (n c cp R C : Nat) (css : List (List Value)) (l : List jaa.T) (us : List Value) (xs : List Nat) (w : World) (L : Lays w p n css l) (hM : ModOk l) (hx : (C : Int) = inL l 0)
 (hR1 : R ≤ 16) (hC : C ≤ 16) (hxs : xs.length = R * C) (hcp : R * C ≤ cp) (hcm : cp ≤ maxLen) (hp : Cs w q0 us) (hf : F32s us xs) :
 Calls Try.prog 71 #[.agg #[.slice p n c],.agg #[.int .i64 R,.int .i64 C,.slice q0 (R * C) cp]] w (RetTen w R (outL l) (rowsM l xs C R)) := by
 obtain ⟨m,hm,hm1,hm8⟩ := outL_nat hM;have hlen := rowsM_len hM hx hm hxs;have hn : n ≤ 6 := by have := hM.few;rw [L.len] at this;exact this
 have hn1 : 1 ≤ n := by have := hM.pos;rw [L.len] at this;exact this
 have A := hid (fun W (h : Ext w W) => out_any p n c css l W (L.ext h) hn1);rw [← hm] at A ⊢;have B := hid (fun i (hi : i < R) W (h : Ext w W) => row_any R C i (R * C) cp q0 W hi hR1 hC rfl hcp);have D := hid (fun i (hi : i < R) W (h : Ext w W) => stages_any p (subp q0 1 (i * C) cp) n c C (cp - i * C) css l (rowT xs C i) W (L.ext h) hM (rep_row (hp.ext h) hf hxs hi hcp hcm) (by rw [rowT_len hxs hi];exact hx));have HL := hid L.len;have Hlen := hid hlen;have Hs := hid (fun r => rowsM_succ l xs C r);have hRC : R * C ≤ 256 := Nat.mul_le_mul hR1 hC
 have Hcur := hid (fun i (hi : i < R) => show (curF l (rowT xs C i) n).length = m by
  have h1 := cur_out hM (x := rowT xs C i) (by rw [rowT_len hxs hi];exact hx);rw [L.len] at h1;omega)
 clear L hM hx hlen hm hp hf hxs;generalize R * C = kk at *;obtain ⟨W0,hW0⟩ : ∃ W0,W0 = ((w.alloc (.cells #[.slice p n c] 38)).alloc (.cells #[.int .i64 R,.int .i64 C,.slice q0 kk cp] 27)).alloc (.cells #[.int .i64 0,.int .i64 0,.slice none 0 0] 27) := ⟨_,rfl⟩;obtain ⟨E0,s0,b0,b1,b2⟩ := box3 hW0;have a0 : W0.cell? ⟨w.heap.size,0,none⟩ = some (.slice p n c) := jai b0 rfl;have t0 : W0.cell? ⟨w.heap.size + 1,0,none⟩ = some (.int .i64 R) := jai b1 rfl;have t1 : W0.cell? ⟨w.heap.size + 1,1,none⟩ = some (.int .i64 C) := jai b1 rfl;have t2 : W0.cell? ⟨w.heap.size + 1,2,none⟩ = some (.slice q0 kk cp) := jai b1 rfl;have z0 : W0.cell? ⟨w.heap.size + 2,0,none⟩ = some (.int .i64 0) := jai b2 rfl;have z1 : W0.cell? ⟨w.heap.size + 2,1,none⟩ = some (.int .i64 0) := jai b2 rfl;have z2 : W0.cell? ⟨w.heap.size + 2,2,none⟩ = some (.slice none 0 0) := jai b2 rfl;have y0 := fun j => frozen_of_heap b2 (j := j)
 clear b0 b1 b2;go_enter Try.func71,Try.ntmps71;go_wp2;rw [← hW0];clear hW0;have e1 := Ext.drew W0;have a1 := e1.cell a0;have u0 := e1.cell t0;obtain ⟨F,hF⟩ : ∃ F : Option Tmp → World → Value → Prop,F = fun _ _ u => u = .int .i64 m := ⟨_,rfl⟩
 have HF := hid hF;clear hF;refine wp_region_xt 6 (F := F) (by kernel_rfl) (by kernel_rfl) (by kernel_rfl) (by kernel_rfl) (by kernel_rfl) ?_;intro wf hwf;simp only [pw1,pw2,pw3,pw4]
 repeat (first
  | ((first | (refine jar rfl ?_) | (refine x_mv rfl rfl rfl ?_) | (refine x_as rfl rfl rfl ?_) | ((with_reducible show gx6);refine jay (f := 98) (args := #[.agg #[.slice p n c]]) rfl rfl Try.func98 rfl (by kernel_rfl) ?_ ?_ ?_;(focus (simp [Act.eval];done));(focus (intro w1 hw1;exact (by rw [HF.out];exact (A.out w1 (E0.trans (e1.trans hw1))).mono fun e w3 h => ⟨_,h.1,h.2,rfl⟩)));rintro u w3 e3 e4 hu;simp only [HF.out] at hu;subst hu) | ((with_reducible show gx15);refine x_alloc (t := 27) (Z := #[.int .i64 0,.int .i64 0,.slice none 0 0]) rfl (fun w1 => by go_simp) ?_;intro b hb1 hb2 hb3));simp only [Act.put,jad,pu1,pu2,pu3,pu4,pu5])
  | (refine ja7 rfl fun K hK w1 hw1 => ?_;have k0 := hw1.cell (a1);have k1 := hw1.cell (u0);go_simp;refine hK _ ?_;clear hK K k0 k1 hw1 w1))
 refine ja6 ?_;have E1 := e1.trans hwf;have o0 : wf.cell? ⟨b,0,none⟩ = some (.int .i64 0) := jai hb3 rfl;have o1 : wf.cell? ⟨b,1,none⟩ = some (.int .i64 0) := jai hb3 rfl;have o2 : wf.cell? ⟨b,2,none⟩ = some (.slice none 0 0) := jai hb3 rfl;have o3 := fun j => frozen_of_heap hb3 (j := j)
 have x0 := E1.cell t0;have hb1' : w.heap.size + 3 ≤ b := by have := e1.size;omega
 clear hb3 a1 u0;go_wp2;go_loopw [15] (fun iv wr => ∃ (r : Nat) (v : Value) (vs : List Value),r ≤ R ∧ iv = .int .i64 r ∧ wr.cell? ⟨b,0,none⟩ = some (.int .i64 R) ∧ wr.cell? ⟨b,1,none⟩ = some (.int .i64 m) ∧ wr.cell? ⟨b,2,none⟩ = some v ∧ wr.frozen? ⟨b,2,none⟩ = false ∧ wr.ownsRow (b + 1) 33 1 v (r * m) vs ∧ Hid (F32s vs (rowsM l xs C r)) ∧ Ext W0 wr ∧ b < wr.heap.size) (fun iv _ => R - (intOf iv).toNat)
 case atStart => exact ⟨0,.slice none 0 0,[],by omega,rfl,by go_simp,by go_simp,by go_simp,by go_simp,⟨by simp,.inl ⟨rfl,by simp⟩⟩,F32s.nil,by (repeat (first | (with_reducible first | exact Ext.refl _ | assumption) | ((with_reducible refine Ext.setCell ?_ ?_ _);rotate_left;focus (first | (simp;done) | (simp;omega))) | (with_reducible first | refine px1 ?_ _ | refine px2 ?_ | refine Ext.trans ?_ (by assumption)))),by simpa using hb2⟩
 case round =>
  clear o0 o1 o2 o3 x0 E1 hwf hb2;obtain ⟨r,v,vs,hr,rfl,k0,k1,k2,k3,hown,HV,he,hz⟩ := hrel;obtain ⟨q6,c6,rfl⟩ := own_slice hown
  by_cases hlt : r < R
  · have hRm : r * m ≤ 128 := Nat.mul_le_mul (show r ≤ 16 by omega) hm8
    have Am := hid (app_row (Hlen.out r hr));have eD := he.trans (Ext.drew wr);have g0 := eD.cell a0;have g1 := eD.cell t0;have g2 := eD.cell t1;have g3 := eD.cell t2;have C1 := hid (fun W (h : Ext wr.drew W) => B.out r hlt W (E0.trans (eD.trans h)));have C2 := hid (fun W (h : Ext wr.drew W) => D.out r hlt W (E0.trans (eD.trans h)));have Hc := hid (Hcur.out r hlt);have Hsr := hid (Hs.out r);have HL2 := HL;clear A B D Hcur;generalize hrc : r * C = rC at *;clear hrc;obtain ⟨F,hF⟩ : ∃ F : Option Tmp → World → Value → Prop,F = fun d w' u => match d with | some 21 => u = .slice (subp q0 1 rC cp) C (cp - rC) | some 22 => IsSt (b + 1) (stF l (rowT xs C r) n) w' u | _ => False := ⟨_,rfl⟩
    have HF := hid hF;clear hF;go_wp2;refine jab (F := F) (by kernel_rfl) (by kernel_rfl) (by kernel_rfl) ?_;intro wf hwf
    repeat (first
     | ((first | (refine jar rfl ?_) | (refine x_mv rfl rfl rfl ?_) | (refine x_as rfl rfl rfl ?_) | ((with_reducible show gx6);first | (refine jay (f := 114) (args := #[.agg #[.int .i64 R,.int .i64 C,.slice q0 kk cp],.int .i64 r]) rfl rfl Try.func114 rfl (by kernel_rfl) ?_ ?_ ?_;(focus (simp [Act.eval];done));(focus (intro w1 hw1;exact (by rw [HF.out];exact (C1.out w1 hw1).mono fun e w3 h => ⟨_,h.1,h.2,rfl⟩)));rintro u w3 e3 e4 hu;simp only [HF.out] at hu;subst hu) | (refine jay (f := 79) (args := #[.agg #[.slice p n c],.slice (subp q0 1 rC cp) C (cp - rC)]) rfl rfl Try.func79 rfl (by kernel_rfl) ?_ ?_ ?_;(focus (simp [Act.eval];done));(focus (intro w1 hw1;exact (by rw [HF.out];exact (C2.out w1 hw1).mono fun e w3 ⟨v,css,bss,h1,h2,h3⟩ => ⟨v,h1,h3,show IsSt (b + 1) (stF l (rowT xs C r) n) w3 v from ⟨css,bss,growBase h2 (Nat.le_trans hz hw1.size)⟩⟩)));rintro u w3 e3 e4 hu;simp only [HF.out] at hu;have HU := hid (IsSt.ext hu e4);clear hu)));simp only [Act.put,jad,pu1,pu2,pu3,pu4,pu5])
     | (refine ja7 rfl fun K hK w1 hw1 => ?_;have k0 := hw1.cell (g0);have k1 := hw1.cell (g1);have k2 := hw1.cell (g2);have k3 := hw1.cell (g3);go_simp;refine hK _ ?_;clear hK K k0 k1 k2 k3 hw1 w1))
    refine ja6 ?_;obtain ⟨p5,k5,q5,m5,c5,css5,rfl,hp5,hall5,hcnt5,hs5,hget5,hrep5⟩ := IsSt.last (HU.out) hn1;clear HU;obtain ⟨us5,hx5,hc5,hf5,hmc5⟩ := rep_flt1 hrep5;have eF := eD.trans hwf;have hwf' := hwf;have o0 := hwf.cell ((Ext.drew wr).cell k2);have hownF := jak hown ((Ext.drew wr).trans hwf);have hzF : b < wf.heap.size := Nat.lt_of_lt_of_le hz hwf.size;have fz := ((Ext.drew wr).trans hwf).frozen (p := ⟨b,2,none⟩) hz k3;have hm5 : m5 = m := by rw [← hx5];exact Hc.out
    have hm5c : m5 ≤ c5 := by rw [← hx5];exact hmc5
    subst hm5;have q1 : IntKind.i64.wrap ((n : Int) - 1) = ((n - 1 : Nat) : Int) := by rw [show (n : Int) - 1 = ((n - 1 : Nat) : Int) by omega];exact jao _ (by omega) (by omega)
    have hmm := hid (hf5.one);have eG := Ext.drew wf;have o1 := eG.cell o0;have hpG := hp5.ext eG;go_wp2;refine wp_region_xt 8 (F := fun _ _ _ => True) (by kernel_rfl) (by kernel_rfl) (by kernel_rfl) (by kernel_rfl) (by kernel_rfl) ?_;intro wf hwf;simp only [pw1,pw2,pw3,pw4]
    repeat (first
     | ((first | (refine jar rfl ?_) | (refine x_mv rfl rfl rfl ?_) | (refine x_as rfl rfl rfl ?_) | ((with_reducible show gx0);refine x_idxloadE (s := (.sl .flt)) (j := n - 1) rfl rfl (fun _ => rfl) rfl (fun _ => rfl) rfl rfl (by first | rfl | exact q1 | omega) hpG hall5 hcnt5 (by omega) hs5 hget5 ?_;simp only [ofCs,Sh.agg,List.headD_cons,Bool.false_eq_true,if_false]));simp only [Act.put,jad,pu1,pu2,pu3,pu4,pu5])
     | (refine ja7 rfl fun K hK w1 hw1 => ?_;have k0 := hw1.cell (o1);go_simp;refine hK _ ?_;clear hK K k0 hw1 w1))
    refine ja6 ?_;have eH := eG.trans hwf;have l0 := eH.cell o0;have l2 := eH.frozen (p := ⟨b,2,none⟩) hzF fz;have hownH := jak hownF eH;have hzH : b < wf.heap.size := Nat.lt_of_lt_of_le hzF eH.size;have hcH := hc5.ext eH;have l1 := (eF.trans eH);have l3 := (((Ext.drew wr).trans hwf').trans eH);go_wp2_with ((with_reducible show gx8);refine wl_appz rfl rfl rfl rfl hownH hcH (by rw [Nat.mul_one,hf5.1,hx5]) hm5c hmm.out (by unfold maxLen;omega) (by omega) (by have := eH.size;omega) ?_;intro v9 w9 own9 g9;obtain ⟨q9,c9,rfl⟩ := own_slice own9;have l4 := (g9.block b (by omega) (fun hh => by have := jah hownH b hh.symm;omega));have l5 := (World.cell?_of_block (a := ⟨b,2,none⟩) l4).trans l0;have l6 := (World.frozen?_of_block (a := ⟨b,2,none⟩) l4).trans l2;clear l4);go_roundw
    case rel =>
     have blk := g9.block b hzH (fun hh => by have := jah hownH b hh.symm;omega);have j0 := (World.cell?_of_block (a := ⟨b,0,none⟩) blk).trans (l3.cell k0);have j1 := (World.cell?_of_block (a := ⟨b,1,none⟩) blk).trans (l3.cell k1);have am := Am.out;have e9 : Ext W0 w9 := l1.grown g9 (fun k hk => by have := jah hownH k hk;omega);have hz9 := g9.size;have hchg : Chg (fun k => k = b) w9 (w9.setCell ⟨b,2,none⟩ (.slice q9 (r * m5 + m5) c9)) := by (repeat (first | (with_reducible first | exact Chg.refl _ _ | exact Chg.of_ext (by assumption) | assumption) | ((with_reducible refine Chg.setCell ?_ ?_ _);rotate_left;focus (first | (simp;done) | (simp;omega))) | (with_reducible first | refine Chg.alloc ?_ _ | refine Chg.drew ?_ | refine px3 ?_ (by assumption))))
     have hF9 := HV.out.app hf5;rw [← HL.out,← Hsr.out] at hF9;refine ⟨r + 1,.slice q9 (r * m5 + m5) c9,vs ++ us5,by omega,by go_num,by go_simp,by go_simp,by go_simp,by go_simp,?_,hF9,?_,by simp;omega⟩
     · rw [am];exact ja3 own9 hchg (fun k hk => by omega)
     · exact e9.chg hchg (fun k hk => by omega)
    case measure => simp [intOf];omega
  · obtain rfl : r = R := by omega
    have n0 := he.cell z0;have n1 := he.cell z1;have n2 := he.cell z2;have n3 := he.frozen (p := ⟨w.heap.size + 2,0,none⟩) (by simp;omega) (y0 0);have n4 := he.frozen (p := ⟨w.heap.size + 2,1,none⟩) (by simp;omega) (y0 1);have n5 := he.frozen (p := ⟨w.heap.size + 2,2,none⟩) (by simp;omega) (y0 2);clear z0 z1 z2 y0;go_wp2;refine bodyPost_ret (v := .agg #[.int .i64 r,.int .i64 m,.slice q6 (r * m) c6]) (by simp [results,Try.results71,go_sem,n0,n1,n2,n3,n4,n5]) rfl ?_;exact RetTen.of (Hlen.out r (Nat.le_refl _)) (ja0 (ja3 (S := fun k => k = w.heap.size + 2) hown (by (repeat (first | (with_reducible first | exact Chg.refl _ _ | exact Chg.of_ext (by assumption) | assumption) | ((with_reducible refine Chg.setCell ?_ ?_ _);rotate_left;focus (first | (simp;done) | (simp;omega))) | (with_reducible first | refine Chg.alloc ?_ _ | refine Chg.drew ?_ | refine px3 ?_ (by assumption))))) (fun k hk => by omega)) (by omega)) HV.out rfl (by have := E0.trans he;(repeat (first | (with_reducible first | exact Ext.refl _ | assumption) | ((with_reducible refine Ext.setCell ?_ ?_ _);rotate_left;focus (first | (simp;done) | (simp;omega))) | (with_reducible first | refine px1 ?_ _ | refine px2 ?_ | refine Ext.trans ?_ (by assumption)))))
theorem own_tag {w : World} {B te t s n b : Nat} {v : Value} {vs : List Value} {Z : Array Value} (h : w.ownsRow B te s v n vs) (hb : w.heap[b]? = some (.cells Z t)) (hne : te ≠ t) : ∀ k,v.ownBlock = some k → k ≠ b := by
 intro k hk he;subst he;rcases h.2 with ⟨h1,_⟩ | ⟨g,cap,cur,h1,_,h2,_⟩
 · subst h1;simp [Value.ownBlock] at hk
 · subst h1
   simp [Value.ownBlock] at hk;subst hk;rw [hb] at h2;simp only [Option.some.injEq,Obj.cells.injEq] at h2;exact hne h2.2.1.symm
theorem jbo {S : Nat → Prop} {w w' : World} {B e s n : Nat} {v : Value} {vs : List Value} (h : w.ownsRow B e s v n vs) (k : Chg S w w') (hS : ∀ b,v.ownBlock = some b → ¬ S b) : w'.ownsRow B e s v n vs := by
 have hlt0 := own_lt h;obtain ⟨h1,h2⟩ := h;refine ⟨h1,?_⟩;rcases h2 with h2 | ⟨g,cap,cur,hv,hg,hh,r⟩
 · exact .inl h2
 · have hgb : v.ownBlock = some g := by rw [hv];rfl
   exact .inr ⟨g,cap,cur,hv,hg,by rw [k.block g (hlt0 g hgb) (hS g hgb)];exact hh,r⟩
theorem IsFl.rep {B : Nat} {xs : List Nat} {w : World} {q : Option Addr} {n c : Nat} (h : IsFl B xs w (.slice q n c)) : Rep w (.sl .flt) [.slice q n c] xs := by
 obtain ⟨q',c',vs,h1,h2,h3⟩ := h
 cases h1
 exact ja5.2 ⟨q,c,vs,rfl,jbc h2,h3,(jat h2).1,(jat h2).2⟩
def IsOwn (B : Nat) (s : Sh) (w : World) (cs : List Value) (d : s.T) : Prop := ∃ bs,Own w s cs d bs ∧ bs.Nodup ∧ ∀ b ∈ bs,B ≤ b
theorem IsOwn.ext {B : Nat} {s : Sh} {w w' : World} {cs : List Value} {d : s.T} (h : IsOwn B s w cs d) (e : Ext w w') : IsOwn B s w' cs d := by
 obtain ⟨bs,h1,h2,h3⟩ := h;exact ⟨bs,h1.ext e,h2,h3⟩
theorem IsOwn.base {B B' : Nat} {s : Sh} {w : World} {cs : List Value} {d : s.T} (h : IsOwn B s w cs d) (hB : B' ≤ B) : IsOwn B' s w cs d := by
 obtain ⟨bs,h1,h2,h3⟩ := h;exact ⟨bs,h1,h2,fun b hb => Nat.le_trans hB (h3 b hb)⟩
theorem IsOwn.rep {B : Nat} {s : Sh} {w : World} {cs : List Value} {d : s.T} (h : IsOwn B s w cs d) : Rep w s cs d := by
 obtain ⟨bs,h1,_⟩ := h;exact h1.rep
theorem IsOwn.chg {B : Nat} {s : Sh} {w w' : World} {cs : List Value} {d : s.T} (h : IsOwn B s w cs d) {S : Nat → Prop} (k : Chg S w w') (hS : ∀ b,S b → b < B) : IsOwn B s w' cs d := by
 obtain ⟨bs,h1,h2,h3⟩ := h;exact ⟨bs,h1.chg k (fun b hb hs => by have := h3 b hb;have := hS b hs;omega),h2,h3⟩
structure Tb (B : Nat) (E : Sh) (w : World) (p : Option Addr) (n c : Nat) (l : List E.T) (css : List (List Value)) (bss : List (List Nat)) : Prop where
 row : jbb w p n c css.flatten
 els : OwnEs w E css bss l
 nodup : (jac p ++ bss.flatten).Nodup
 lo : ∀ b ∈ jac p ++ bss.flatten,B ≤ b
 len : l.length = n
 cap : n ≤ c ∧ c ≤ maxLen
theorem Tb.own {B : Nat} {E : Sh} {w : World} {p : Option Addr} {n c : Nat} {l : List E.T} {css : List (List Value)} {bss : List (List Nat)} (h : Tb B E w p n c l css bss) : IsOwn B (.sl E) w [.slice p n c] l := by
 obtain ⟨h1,h2,h3,h4,h5,h6,h7⟩ := h;subst h5;exact ⟨jac p ++ bss.flatten,own_sl.2 ⟨p,c,css,bss,rfl,h1,h6,h7,h2,rfl⟩,h3,h4⟩
theorem Tb.cnt {B : Nat} {E : Sh} {w : World} {p : Option Addr} {n c : Nat} {l : List E.T} {css : List (List Value)} {bss : List (List Nat)} (h : Tb B E w p n c l css bss) : css.length = n := by rw [h.els.1,h.len]
theorem Tb.all {B : Nat} {E : Sh} {w : World} {p : Option Addr} {n c : Nat} {l : List E.T} {css : List (List Value)} {bss : List (List Nat)} (h : Tb B E w p n c l css bss) : ∀ x ∈ css,x.length = E.sz := h.els.all
theorem Tb.ext {B : Nat} {E : Sh} {w w' : World} {p : Option Addr} {n c : Nat} {l : List E.T} {css : List (List Value)} {bss : List (List Nat)} (h : Tb B E w p n c l css bss) (e : Ext w w') : Tb B E w' p n c l css bss :=
 ⟨h.row.chg (.of_ext e (S := fun _ => False)) (fun _ _ h => h),h.els.chg (.of_ext e) (S := fun _ => False) (fun _ _ h => h),h.nodup,h.lo,h.len,h.cap⟩
theorem Tb.lt {B : Nat} {E : Sh} {w : World} {p : Option Addr} {n c : Nat} {l : List E.T} {css : List (List Value)} {bss : List (List Nat)} (h : Tb B E w p n c l css bss) : ∀ b ∈ jac p ++ bss.flatten,b < w.heap.size := by
 intro b hb;rcases List.mem_append.1 hb with hb | hb
 · exact h.row.lt b hb
 · exact h.els.lt b hb
theorem Tb.at {B : Nat} {E : Sh} {w : World} {p : Option Addr} {n c : Nat} {l : List E.T} {css : List (List Value)} {bss : List (List Nat)} (h : Tb B E w p n c l css bss) {i : Nat} (hi : i < n) : ∃ cs bs d,css[i]? = some cs ∧ bss[i]? = some bs ∧ l[i]? = some d ∧ Own w E cs d bs := by
 have h1 := h.els.1;have h2 := h.els.2.1;have h3 := h.len;exact ⟨css[i],bss[i],l[i],by simp,by simp,by simp,h.els.2.2 i _ _ _ (by simp) (by simp) (by simp)⟩
theorem set_flat_sub : ∀ {bss : List (List Nat)} {i : Nat} {bs : List Nat},∀ b ∈ (bss.set i bs).flatten,b ∈ bss.flatten ∨ b ∈ bs
 | [],_,_,b,hb => by simp at hb
 | x :: bss,0,bs,b,hb => by
   simp only [List.set_cons_zero,List.flatten_cons,List.mem_append] at hb ⊢;rcases hb with h | h
   · exact .inr h
   · exact .inl (.inr h)
 | x :: bss,i + 1,bs,b,hb => by
   simp only [List.set_cons_succ,List.flatten_cons,List.mem_append] at hb ⊢;rcases hb with h | h
   · exact .inl (.inl h)
   · rcases set_flat_sub b h with h | h
     · exact .inl (.inr h)
     · exact .inr h
theorem set_flat_nodup : ∀ {bss : List (List Nat)} {i : Nat} {bs : List Nat},bss.flatten.Nodup → bs.Nodup → (∀ b ∈ bs,b ∉ bss.flatten) → (bss.set i bs).flatten.Nodup
 | [],_,_,_,_,_ => by simp
 | x :: bss,0,bs,h,hb,hd => by
   rw [List.flatten_cons,List.nodup_append] at h;rw [List.set_cons_zero,List.flatten_cons,List.nodup_append];refine ⟨hb,h.2.1,fun a ha b hb' he => ?_⟩;subst he;exact hd a ha (by rw [List.flatten_cons];exact List.mem_append_right _ hb')
 | x :: bss,i + 1,bs,h,hb,hd => by
   rw [List.flatten_cons,List.nodup_append] at h;rw [List.set_cons_succ,List.flatten_cons,List.nodup_append];refine ⟨h.1,set_flat_nodup h.2.1 hb (fun b hb' hm => hd b hb' (by rw [List.flatten_cons];exact List.mem_append_right _ hm)),fun a ha b hb' he => ?_⟩;subst he;rcases set_flat_sub a hb' with h' | h'
   · exact h.2.2 a ha a h' rfl
   · exact hd a h' (by rw [List.flatten_cons];exact List.mem_append_left _ ha)
theorem Tb.put {B : Nat} {E : Sh} {w0 w w' : World} {p : Option Addr} {n c : Nat} {l : List E.T} {css : List (List Value)} {bss : List (List Nat)} (h : Tb B E w0 p n c l css bss) (e : Ext w0 w) {i : Nat} (hi : i < n) {cs : List Value} {d : E.T} {bs : List Nat}
 (ho : Own w E cs d bs) (hn : bs.Nodup) (hf : ∀ b ∈ bs,w0.heap.size ≤ b) (hB : B ≤ w0.heap.size) (hr : jbb w' p n c (css.set i cs).flatten) (k : Chg (fun b => b ∈ jac p) w w') : Tb B E w' p n c (l.set i d) (css.set i cs) (bss.set i bs) := by
 have lt0 := h.lt;have h1 := h.els.1;have h2 := h.els.2.1;have h3 := h.len;obtain ⟨n1,n2,n3,n4⟩ := nodup_split h.nodup;have hels := (h.ext e).els;refine ⟨hr,⟨by simp [h1],by simp [h2],fun j cs' bs' d' g1 g2 g3 => ?_⟩,?_,?_,by rw [List.length_set];exact h3,h.cap⟩
 · by_cases hj : i = j
   · subst hj
     rw [List.getElem?_set_self (by omega)] at g1 g2 g3
     cases g1;cases g2;cases g3
     exact ho.chg k fun b hb hs => by have := hf b hb;have := lt0 b (List.mem_append_left _ hs);omega
   · rw [List.getElem?_set_ne hj] at g1 g2 g3
     exact (hels.2.2 j cs' bs' d' g1 g2 g3).chg k fun b hb hs => n3 b hs (List.mem_flatten.2 ⟨bs',List.mem_of_getElem? g2,hb⟩)
 · rw [List.nodup_append]
   refine ⟨n1,set_flat_nodup n2 hn (fun b hb hm => by have := hf b hb;have := lt0 b (List.mem_append_right _ hm);omega),fun a ha b hb he => ?_⟩;subst he;rcases set_flat_sub a hb with h' | h'
   · exact n3 a ha h'
   · have := hf a h';have := lt0 a (List.mem_append_left _ ha);omega
 · intro b hb
   rcases List.mem_append.1 hb with hb | hb
   · exact h.lo b (List.mem_append_left _ hb)
   · rcases set_flat_sub b hb with h' | h'
     · exact h.lo b (List.mem_append_right _ h')
     · have := hf b h';omega
section
variable {P : Program} {w : World} {ops : Array Oper} {rest : List Oper} {o : Oper} {a : Act} {Q : Exit → Act → World → Prop}
theorem wl_store1 {t : TypeId} [Cell1 P t] {x y : Operand} (hg : o.guard = none) (ho : o.op = .store t x y) {q : Addr} {u v : Value} (hx : a.eval x = .pointer (some q)) (hy : a.eval y = u) (hu : u.oneCell' = true) (hc : w.cell? q = some v) (hf : w.frozen? q = false)
 (h : wpList P ops Q rest (a.put o.dst undef) (w.setCell q u)) : wpList P ops Q (o :: rest) a w :=
 wl_skip hg (w' := w.setCell q u) (by simp [execOp,ho,hx,hy,run_store1 hc hf hu]) h
end
end Go.Proofs.Ytmbckkcgiafagaa
