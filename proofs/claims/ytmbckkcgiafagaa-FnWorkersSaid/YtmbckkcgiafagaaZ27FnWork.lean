/- A part of the proofs: Spl, TnTb, Dr8. -/
import Derived.Test.YtmbckkcgiafagaaZ26FnWork
import Derived.Test.YtmbckkcgiafagaaZ10FnWork
import Derived.Test.YtmbckkcgiafagaaZ23FnWork
import Derived.Test.YtmbckkcgiafagaaZ13FnWork
set_option linter.unusedSimpArgs false
set_option linter.unusedVariables false
set_option maxRecDepth 100000
set_option maxHeartbeats 16000000
namespace Go.Proofs.Ytmbckkcgiafagaa
open Go.RowKit
theorem small_of {L : List jab.T} (h : ModOk L) : Small L := by
 refine ⟨by have := h.few;omega,fun d hd => ?_⟩;obtain ⟨i,hi,rfl⟩ := List.mem_iff_getElem.1 hd;have hl := h.lay i hi;unfold layD layB at hl;simp only [Bool.and_eq_true,decide_eq_true_eq,jaz,Bool.or_eq_true] at hl;obtain ⟨h1,h2,h3,h4,h5,h6⟩ := hl;have hm := mul_bd h2 h3;unfold wCnt at h5;unfold bCnt at h6;refine ⟨?_,?_⟩
 · split at h5
   · omega
   · split at h5
     · omega
     · split at h5 <;> omega
 · split at h6
   · omega
   · split at h6
     · omega
     · split at h6 <;> omega
theorem small_take {L : List jab.T} (h : Small L) (k : Nat) : Small (L.take k) := ⟨by rw [List.length_take];have := h.1;omega,fun d hd => h.2 d (List.mem_of_mem_take hd)⟩
theorem small_drop {L : List jab.T} (h : Small L) (k : Nat) : Small (L.drop k) := ⟨by rw [List.length_drop];have := h.1;omega,fun d hd => h.2 d (List.mem_of_mem_drop hd)⟩
theorem lays_sub {w : World} {p : Option Addr} {n c a b : Nat} {css : List (List Value)} {L : List jab.T} (h : Lays w p n css L) (hc : n ≤ c) (h1 : a ≤ b) (h2 : b ≤ n) : Lays w (subp p jab.sz a c) (b - a) ((css.take b).drop a) ((L.take b).drop a) := by
 refine ⟨?_,?_,fun x hx => h.size x (List.mem_of_mem_take (List.mem_of_mem_drop hx)),fun x hx => h.one x (List.mem_of_mem_take (List.mem_of_mem_drop hx)),?_,?_,fun x hx => h.fit x (List.mem_of_mem_take (List.mem_of_mem_drop hx)),by have := h.le;omega⟩
 · have h3 := h.cs.sub (s := 5) (l := a) (hi := b) (c := c) h1 (by omega)
   have hs : ∀ x ∈ css,x.length = 5 := h.size
   have e1 : css.flatten.take (b * 5) = (css.take b).flatten := by
    have h4 : (css.take b).flatten.length = b * 5 := by
     rw [flat_len' (fun x hx => hs x (List.mem_of_mem_take hx)),List.length_take,h.cnt,Nat.min_eq_left h2]
    conv => lhs;rw [← List.take_append_drop b css,List.flatten_append]
    rw [← h4,List.take_left]
   have e2 : (css.take b).flatten.drop (a * 5) = ((css.take b).drop a).flatten := by
    have h4 : ((css.take b).take a).flatten.length = a * 5 := by
     rw [flat_len' (fun x hx => hs x (List.mem_of_mem_take (List.mem_of_mem_take hx))),List.length_take,List.length_take,h.cnt]
     congr 1;omega
    conv => lhs;rw [← List.take_append_drop a (css.take b),List.flatten_append]
    rw [← h4,List.drop_left]
   rw [e1,e2] at h3;exact h3
 · have : ∀ {us : List (List Value)} {bs : List jab.T},All2 (Rep w jab) us bs → All2 (Rep w jab) ((us.take b).drop a) ((bs.take b).drop a) := by
    intro us bs hu;refine All2.of_get (by rw [List.length_drop,List.length_drop,List.length_take,List.length_take,hu.length]) fun i x y hx hy => ?_
    rw [List.getElem?_drop,List.getElem?_take] at hx hy
    split at hx
    · rename_i hi
      rw [if_pos hi] at hy;exact hu.toGet _ _ _ hx hy
    · cases hx
   exact this h.all
 · rw [List.length_drop,List.length_take,h.len,Nat.min_eq_left h2]
 · rw [List.length_drop,List.length_take,h.cnt,Nat.min_eq_left h2]
end Go.Proofs.Ytmbckkcgiafagaa
namespace Go.Proofs.Ytmbckkcgiafagaa.lSplitModel
open Go.RowKit
def okS (d : jaq.T) (a : Int) : Prop := modB d.1 = true ∧ inB a 1 ((d.1.length : Int) - 1) = true
instance (d : jaq.T) (a : Int) : Decidable (okS d a) := by unfold okS;infer_instance
def res (d : jaq.T) (a : Int) : jaq.T × jaq.T × Bool := if okS d a then ((d.1.take a.toNat,()),(d.1.drop a.toNat,()),true) else (([],()),([],()),false)
theorem res_no {d : jaq.T} {a : Int} (h : ¬ okS d a) : res d a = (([],()),([],()),false) := by unfold res;rw [if_neg h]
theorem own_mod {w : World} {q : Option Addr} {n k : Nat} {L : List jab.T} {bs : List Nat} (h : Own w (.sl jab) [.slice q n k] L bs) : Own w jaq [.slice q n k] (L,()) bs := ⟨[.slice q n k],[],bs,[],rfl,h,⟨rfl,rfl⟩,by simp⟩
theorem out2_no {w w' : World} {e : Ending} (h : e = .returned (.tuple #[.agg #[.slice none 0 0],.agg #[.slice none 0 0],.bool false])) (hx : Ext w w') : Out2 w jaq jaq (([],()),([],()),false) e w' :=
 ⟨[.slice none 0 0],[],[.slice none 0 0],[],h,own_mod own_nil,own_mod own_nil,by simp,by simp,hx⟩
theorem impl_ok (cs0 : List Value) (D0 : jaq.T) (a : Int) (w : World) (h0 : Rep w jaq cs0 D0) (f0 : Fit jaq D0) (_ : Fit .int a) : Calls Try.prog 43 #[ofCs jaq cs0,.int .i64 a] w (Out2 w jaq jaq (res D0 a)) := by
 obtain ⟨L0,u0⟩ := D0;obtain ⟨c0,c1,rfl,k0,rfl⟩ := h0;obtain ⟨p,c,rfl,_⟩ := rep_val k0;obtain ⟨p',c',css,he0,L⟩ := lays_of k0 f0.1
 cases he0
 have hnc : L0.length ≤ c := by
  obtain ⟨_,_,_,h1,_,h3,_⟩ := k0
  cases h1;exact h3
 simp only [ofCs,Sh.agg,if_true,List.append_nil];obtain ⟨W0,hW0⟩ : ∃ W0,W0 = ((w.alloc (.cells #[.slice p L0.length c] 38)).alloc (.cells #[.slice none 0 0] 38)).alloc (.cells #[.slice none 0 0] 38) := ⟨_,rfl⟩;obtain ⟨E0,s0,b0,b1,b2⟩ := box3 hW0;have a0 : W0.cell? ⟨w.heap.size,0,none⟩ = some (.slice p L0.length c) := jav b0 rfl;have b1 : HB W0 (w.heap.size + 1) #[.slice none 0 0] 38 := b1;have b2 : HB W0 (w.heap.size + 1 + 1) #[.slice none 0 0] 38 := b2;have A := hid (fun W (h : Ext W0 W) => jb3 p L0.length c L0 css W L.len L.le (L.cs.ext (E0.trans h)) (L.all.imp fun _ _ => Rep.ext (E0.trans h)) L.size L.cnt);have B := hid (fun W => ja4 a 1 ((L0.length : Int) - 1) W);have hlm : L0.length ≤ maxLen := L.le;unfold maxLen at hlm;have q1 : IntKind.i64.wrap ((L0.length : Int) - 1) = (L0.length : Int) - 1 := jbd _ (by omega) (by omega)
 cases hb0 : modB L0
 · rw [res_no (fun h => by have := h.1;dsimp only at this;rw [hb0] at this;cases this)]
   rw [hb0] at A;clear k0 L f0 B b0;generalize L0.length = n0 at *;go_enter Try.func43,Try.ntmps43;go_wp2_with fail;rw [← hW0];clear hW0;refine (A.out _ (Ext.refl _)).mono ?_;rintro e w1 ⟨rfl,e1⟩
   have g1 : w1.cell? ⟨w.heap.size + 1,0,none⟩ = some (.slice none 0 0) := (b1.ext e1).cell 0 rfl;have g2 : w1.cell? ⟨w.heap.size + 1 + 1,0,none⟩ = some (.slice none 0 0) := (b2.ext e1).cell 0 rfl;have g3 := (b1.ext e1).froz 0;have g4 := (b2.ext e1).froz 0;go_wp2;refine bodyPost_ret (v := .tuple #[.agg #[.slice none 0 0],.agg #[.slice none 0 0],.bool false]) (by simp [results,Try.results43,go_sem,g1,g2,g3,g4]) rfl ?_;exact out2_no rfl (by have := E0.trans e1;(repeat (first | (with_reducible first | exact Ext.refl _ | assumption) | ((with_reducible refine Ext.setCell ?_ ?_ _);rotate_left;focus (first | (simp;done) | (simp;omega))) | (with_reducible first | refine px1 ?_ _ | refine px2 ?_ | refine Ext.trans ?_ (by assumption)))))
 rw [hb0] at A;have hM := modOk hb0;have hS := small_of hM
 cases hb1 : inB a 1 ((L0.length : Int) - 1)
 · rw [res_no (fun h => by have := h.2;dsimp only at this;rw [hb1] at this;cases this)]
   rw [hb1] at B;have x0 := a0;clear k0 L f0 b0 hM hS;generalize L0.length = n0 at *;go_enter Try.func43,Try.ntmps43;go_wp2_with fail;rw [← hW0];clear hW0;refine (A.out _ (Ext.refl _)).mono ?_;rintro e w1 ⟨rfl,e1⟩
   have x0 := e1.cell a0;have g1 : w1.cell? ⟨w.heap.size + 1,0,none⟩ = some (.slice none 0 0) := (b1.ext e1).cell 0 rfl;have g2 : w1.cell? ⟨w.heap.size + 1 + 1,0,none⟩ = some (.slice none 0 0) := (b2.ext e1).cell 0 rfl;have g3 := (b1.ext e1).froz 0;have g4 := (b2.ext e1).froz 0;go_wp2_with (go_at_call 57;refine (B.out _).mono ?_;rintro e w2 ⟨rfl,rfl⟩);refine bodyPost_ret (v := .tuple #[.agg #[.slice none 0 0],.agg #[.slice none 0 0],.bool false]) (by simp [results,Try.results43,go_sem,g1,g2,g3,g4]) rfl ?_;exact out2_no rfl (by have := E0.trans e1;(repeat (first | (with_reducible first | exact Ext.refl _ | assumption) | ((with_reducible refine Ext.setCell ?_ ?_ _);rotate_left;focus (first | (simp;done) | (simp;omega))) | (with_reducible first | refine px1 ?_ _ | refine px2 ?_ | refine Ext.trans ?_ (by assumption)))))
 rw [hb1] at B;have hok : okS (L0,u0) a := ⟨hb0,hb1⟩;rw [jaz] at hb1;obtain ⟨A1,rfl⟩ := Int.eq_ofNat_of_zero_le (show 0 ≤ a by omega);have hres : res (L0,u0) (A1 : Int) = ((L0.take A1,()),(L0.drop A1,()),true) := by unfold res;rw [if_pos hok];rfl
 rw [hres];have hA1 : A1 ≤ L0.length := by omega
 have G1 := hid (fun W (h : Ext W0 W) => copyModel_any (subp p jab.sz 0 c) (A1 - 0) (c - 0) _ _ W (lays_sub (L.ext (E0.trans h)) hnc (Nat.zero_le A1) hA1) (small_drop (small_take hS A1) 0));have G2 := hid (fun W (h : Ext W0 W) => copyModel_any (subp p jab.sz A1 c) (L0.length - A1) (c - A1) _ _ W (lays_sub (L.ext (E0.trans h)) hnc hA1 (Nat.le_refl _)) (small_drop (small_take hS L0.length) A1));rw [List.drop_zero,Nat.sub_zero,Nat.sub_zero] at G1;rw [List.take_of_length_le (Nat.le_refl L0.length)] at G2;clear k0 L f0 b0 hM hS hok hres hb0;generalize L0.take A1 = P1 at *;generalize L0.drop A1 = P2 at *;generalize L0.length = n0 at *;have ⟨m2,hm2⟩ : ∃ m,m = n0 - A1 := ⟨_,rfl⟩;rw [← hm2] at G2;have Hm2 := hid hm2;clear hm2;obtain ⟨F,hF⟩ : ∃ F : Option Tmp → World → World → Value → Prop,F = fun d w0 W u => match d with | some 26 => ∃ q k,u = .agg #[.slice q A1 k] ∧ jca [41,33] w0.heap.size (.sl jab) W [.slice q A1 k] P1 | _ => ∃ q k,u = .agg #[.slice q m2 k] ∧ jca [41,33] w0.heap.size (.sl jab) W [.slice q m2 k] P2 := ⟨_,rfl⟩
 have HF := hid hF;clear hF;go_enter Try.func43,Try.ntmps43;go_wp2_with fail;rw [← hW0];clear hW0;refine (A.out _ (Ext.refl _)).mono ?_;rintro e w1 ⟨rfl,e1⟩
 have x0 := e1.cell a0;go_wp2_with (go_at_call 57;refine (B.out _).mono ?_;rintro e w2 ⟨rfl,rfl⟩);have hD := Ext.drew w1;have y0 := hD.cell x0;have hWD := e1.trans hD;refine wp_region_yt 12 (F := F) (by kernel_rfl) (by kernel_rfl) (by kernel_rfl) (by kernel_rfl) (by kernel_rfl) ?_;intro wf hwf;simp only [pw1,pw2,pw3,pw4]
 repeat (first
  | ((first | (refine ja2 rfl ?_) | (refine x_mv rfl rfl rfl ?_) | (refine x_as rfl rfl rfl ?_) | ((with_reducible show wpX _ _ _ _ _ _ (Oper.mk _ (Op.slice _ _ _ _ _) _ _ _ _ :: _) _);refine x_sliceTo (u := A1) rfl rfl rfl rfl rfl (by omega) ?_;rw [Nat.sub_zero,Nat.sub_zero]) | ((with_reducible show wpX _ _ _ _ _ _ (Oper.mk _ (Op.slice _ _ _ _ _) _ _ _ _ :: _) _);refine x_sliceFrom (l := A1) rfl rfl rfl rfl rfl (by omega) (by omega) ?_;rw [← Hm2.out]) | ((with_reducible show gx12);first | (refine y_callK (f := 87) (args := #[.agg #[.slice (subp p jab.sz 0 c) A1 c]]) rfl rfl Try.func87 rfl (by kernel_rfl) ?_ ?_ ?_;(focus (simp [Act.eval];done));(focus (intro w1 hw1 hK;exact (by rw [HF.out];exact (G1.out w1 (hWD.trans hw1)).mono fun e w3 ⟨q,k,g1,g2,g3⟩ => ⟨_,g1,g3,q,k,rfl,g2⟩)));rintro u wa wb e0 hK e3 e4 hu;simp only [HF.out] at hu;obtain ⟨qa,ka,rfl,_⟩ := hu) | (refine y_callK (f := 87) (args := #[.agg #[.slice (subp p jab.sz A1 c) m2 (c - A1)]]) rfl rfl Try.func87 rfl (by kernel_rfl) ?_ ?_ ?_;(focus (simp [Act.eval];done));(focus (intro w1 hw1 hK;exact (by rw [HF.out];exact (G2.out w1 (hWD.trans hw1)).mono fun e w3 ⟨q,k,g1,g2,g3⟩ => ⟨_,g1,g3,q,k,rfl,g2⟩)));rintro u wa wb e0 hK e3 e4 hu;simp only [HF.out] at hu;obtain ⟨qb,kb,rfl,o2⟩ := hu;obtain ⟨v0,v3,f0,f1,f2,f3⟩ := knownC_call hK (j := 5) (d := 26) (by kernel_rfl) rfl rfl rfl rfl Try.func87 rfl (by kernel_rfl) (by simp);rw [HF.out] at f3;obtain ⟨qc,kc,hqc,o1⟩ := f3;have hqd : Value.agg #[.slice qa A1 ka] = .agg #[.slice qc A1 kc] := hqc;simp only [Value.agg.injEq,Array.mk.injEq,List.cons.injEq,Value.slice.injEq,and_true,true_and] at hqd;obtain ⟨rfl,rfl⟩ := hqd)));simp only [Act.put,jac,pu1,pu2,pu3,pu4,pu5])
  | (refine jbm rfl fun K hK w1 hw1 => ?_;have k0 := hw1.cell (y0);go_simp;refine hK _ ?_;clear hK K k0 hw1 w1))
 refine jbn ?_;obtain ⟨bs1,p1,p2,p3,_⟩ := o1;obtain ⟨bs2,p4,p5,p6,_⟩ := o2;have p7 := p1.lt;have r1 := p1.ext ((f2.trans e3).trans e4);have r2 := p4.ext e4;have s1 := f2.size;have eW := (e1.trans hD).trans hwf;have b3 := b1.ext eW;have b4 := b2.ext eW;have z1 : wf.cell? ⟨w.heap.size + 1,0,none⟩ = some (.slice none 0 0) := b3.cell 0 rfl;have z2 : wf.cell? ⟨w.heap.size + 1 + 1,0,none⟩ = some (.slice none 0 0) := b4.cell 0 rfl;have z3 := b3.froz 0;have z4 := b4.froz 0;go_wp2;refine bodyPost_ret (v := .tuple #[.agg #[.slice qa A1 ka],.agg #[.slice qb m2 kb],.bool true]) (by simp [results,Try.results43,go_sem,z1,z2,z3,z4]) rfl ?_;have ch := (ja3 wf (w.heap.size + 1) 0 (.slice qa A1 ka)).mono (S' := fun k => k = w.heap.size + 1 ∨ k = w.heap.size + 1 + 1) (fun k h => .inl h);have ch2 := ch.trans ((ja3 (wf.setCell ⟨w.heap.size + 1,0,none⟩ (.slice qa A1 ka)) (w.heap.size + 1 + 1) 0 (.slice qb m2 kb)).mono (fun k h => .inr h));have q1 := f0.size;have q2 := e0.size;have q3 := e1.size;have q4 := hD.size;have lo1 : ∀ b ∈ bs1,W0.heap.size ≤ b := fun b hb => by have := p3 b hb;omega
 have lo2 : ∀ b ∈ bs2,W0.heap.size ≤ b := fun b hb => by have := p6 b hb;omega
 exact ⟨_,bs1,_,bs2,rfl,own_mod (r1.chg ch2 (fun b hb h => by have := lo1 b hb;omega)),own_mod (r2.chg ch2 (fun b hb h => by have := lo2 b hb;omega)),nodup_app p2 p5 (B := wa.heap.size) (fun x hx => by have := p7 x hx;omega) (fun x hx => p6 x hx),fun b hb => by
  rcases List.mem_append.1 hb with h | h
  · have := lo1 b h;omega
  · have := lo2 b h;omega,(E0.trans eW).chg ch2 (fun b hb => by omega)⟩
end Go.Proofs.Ytmbckkcgiafagaa.lSplitModel
namespace Go.Proofs.Ytmbckkcgiafagaa
open Go.RowKit
section
variable {P : Program} {w : World} {ops : Array Oper} {rest : List Oper} {o : Oper} {a : Act} {Q : Exit → Act → World → Prop}
theorem wl_appW {t e s b : Nat} {z : Value} [T : SlTy P t e s z b] {x1 x2 : Operand} {v : Value} {B n m c : Nat} {vs us : List Value} {ad : Addr}
 (hg : o.guard = none) (ho : o.op = .call { callee := .builtin .append,args := #[x1,x2],argTypes := #[t,t] })
 (hx1 : a.eval x1 = v) (hx2 : a.eval x2 = .slice (some ad) m c) (how : w.ownsRow B e s v n vs) (hc : Cs w (some ad) us) (hm : us.length = m * s) (h1 : ∀ u ∈ us,u.oneCell' = true)
 (hn : n + m ≤ maxLen) (hb : (n + m) * b ≤ 140737488355328) (hB : B ≤ w.heap.size)
 (h : ∀ v' w',w'.ownsRow B e s v' (n + m) (vs ++ us) → w.grownBy w' v.ownBlock → (∀ x,v'.ownBlock = some x → v.ownBlock = some x ∨ w.heap.size ≤ x) → wpList P ops Q rest (a.put o.dst v') w') : wpList P ops Q (o :: rest) a w := by
 obtain ⟨ti,hi,hzz⟩ := Option.map_eq_some_iff.1 T.inf;simp only [Prod.mk.injEq] at hzz;refine wpList_append_own_at _ hg x1 x2 t ho B e ti z s b T.und hi hzz.1 hzz.2.1 hzz.2.2 T.zs T.pos v n vs hx1 how ad m c us hx2 hm (fun j u hj => hc.cell j u hj) h1 hn hb hB (fun v' w' h1 h2 _ h4 => h v' w' h1 h2 fun x hx => ?_);rcases h4 with h4 | h4
 · left;rw [← h4];exact hx
 · rw [hx] at h4;right;cases h4;exact Nat.le_refl _
end
def tapeB (L : List jab.T) : Bool := L.all fun l => decide (l.1 = 0 ∨ l.1 = 1 ∨ l.1 = 2)
theorem tapeB_no {L : List jab.T} {i : Nat} {d : jab.T} (h : L[i]? = some d) (k : ¬ (d.1 = 0 ∨ d.1 = 1 ∨ d.1 = 2)) : tapeB L = false := by
 cases hb : tapeB L with
 | false => rfl
 | true => exact absurd (by simpa using List.all_eq_true.1 hb d (List.mem_of_getElem? h)) k
theorem tapeB_step {L : List jab.T} {i : Nat} {d : jab.T} (h : L[i]? = some d) (k : d.1 = 0 ∨ d.1 = 1 ∨ d.1 = 2) (ht : tapeB (L.take i) = true) : tapeB (L.take (i + 1)) = true := by
 unfold tapeB at ht ⊢;rw [List.take_add_one,h,List.all_append,ht]
 simpa using k
def MtOut (w : World) (L : List jab.T) (x y : jaa.T) (z : Nat) (e : Ending) (w' : World) : Prop :=
 (tapeB L = false ∧ e = .returned (.tuple #[.slice none 0 0,.slice none 0 0,.bool false])) ∨ (tapeB L = true ∧ ∃ v wv css bss,e = .returned (.tuple #[v,wv,.bool true]) ∧ jaj w' w.heap.size 98 shOp v (mtape L x y z) css bss ∧ w'.ownsRow w.heap.size 2 1 wv (jco L x y).length ((jco L x y).map (Value.int .i64)))
theorem mt_start {wf V4 : World} (B fa : Nat) (hB : B ≤ wf.heap.size) (hV : V4 = (((wf.alloc (.cells #[] 98)).alloc (.cells #[.slice (some ⟨wf.heap.size,0,none⟩) 0 0] 56)).alloc (.cells #[] 2)).alloc (.cells #[.nilFunc] 134)) :
 Ext wf V4 ∧ HB V4 (wf.heap.size + 1 + 1 + 1) #[.nilFunc] 134 ∧ ∀ w5,HB w5 (wf.heap.size + 1 + 1 + 1) #[.func (.func fa) #[] #[.pointer (some ⟨wf.heap.size + 1,0,none⟩)]] 134 → Chg (fun k => k = wf.heap.size + 1 + 1 + 1) V4 w5 →
  MtF w5 B (wf.heap.size + 1) (wf.heap.size + 1 + 1 + 1) fa (.slice (some ⟨wf.heap.size,0,none⟩) 0 0) (.slice (some ⟨wf.heap.size + 1 + 1,0,none⟩) 0 0) ([],[]) [] [] := by
 obtain ⟨V1,h1⟩ : ∃ V1,V1 = wf.alloc (.cells #[] 98) := ⟨_,rfl⟩;obtain ⟨V2,h2⟩ : ∃ V2,V2 = V1.alloc (.cells #[.slice (some ⟨wf.heap.size,0,none⟩) 0 0] 56) := ⟨_,rfl⟩;obtain ⟨V3,h3⟩ : ∃ V3,V3 = V2.alloc (.cells #[] 2) := ⟨_,rfl⟩;rw [← h1,← h2,← h3] at hV;have s1 : V1.heap.size = wf.heap.size + 1 := by rw [h1];simp
 have s2 : V2.heap.size = wf.heap.size + 1 + 1 := by rw [h2,← s1];simp
 have s3 : V3.heap.size = wf.heap.size + 1 + 1 + 1 := by rw [h3,← s2];simp
 have e1 : Ext wf V1 := by rw [h1];exact Ext.alloc _ _
 have e2 : Ext V1 V2 := by rw [h2];exact Ext.alloc _ _
 have e3 : Ext V2 V3 := by rw [h3];exact Ext.alloc _ _
 have e4 : Ext V3 V4 := by rw [hV];exact Ext.alloc _ _
 have r1 : V1.ownsRow B 98 shOp.sz (.slice (some ⟨wf.heap.size,0,none⟩) 0 0) 0 [] := by rw [h1];exact jak (World.ownsRow_made wf #[] 0 (Nat.le_refl _) (by decide) rfl) hB
 have b2 : HB V2 (wf.heap.size + 1) #[.slice (some ⟨wf.heap.size,0,none⟩) 0 0] 56 := by rw [h2,← s1];exact HB.new _ _ _
 have r3 : V3.ownsRow B 2 1 (.slice (some ⟨wf.heap.size + 1 + 1,0,none⟩) 0 0) 0 [] := by rw [h3,← s2];exact jak (World.ownsRow_made V2 #[] 0 (Nat.le_refl _) (by decide) rfl) (by omega)
 have b4 : HB V4 (wf.heap.size + 1 + 1 + 1) #[.nilFunc] 134 := by rw [hV,← s3];exact HB.new _ _ _
 refine ⟨((e1.trans e2).trans e3).trans e4,b4,fun w5 b5 ch => ⟨⟨?_,b5,?_,by simp,by omega⟩,?_,by simp⟩⟩
 · exact ((b2.ext e3).ext e4).chg ch (by omega)
 · exact jaj.empty (jay (jai r1 ((e2.trans e3).trans e4)) ch (fun x hx h => by simp [Value.ownBlock] at hx;omega))
 · exact jay (jai r3 e4) ch (fun x hx h => by simp [Value.ownBlock] at hx;omega)
theorem MtF.extOf {w0 w : World} {B b9 b11 fa : Nat} {v wv : Value} {s : List shOp.T × List Int} {css : List (List Value)} {bss : List (List Nat)} (M : MtF w B b9 b11 fa v wv s css bss) (he : Ext w0 w) (hB : w0.heap.size ≤ B) (h9 : w0.heap.size ≤ b9) {w' : World} (ch : Chg (fun x => x = b9 ∨ some x = v.ownBlock) w w') : Ext w0 w' :=
 he.chg ch fun b hb => by
  rcases hb with h | h
  · omega
  · have := jap M.st.row.row b h.symm;omega
theorem MtF.hbOf {w w' : World} {B b9 b11 fa : Nat} {v wv : Value} {s : List shOp.T × List Int} {css : List (List Value)} {bss : List (List Nat)} (M : MtF w B b9 b11 fa v wv s css bss) (ch : Chg (fun x => x = b9 ∨ some x = v.ownBlock) w w') {b t : Nat} {Z : Array Value} (hb : HB w b Z t) (hne : b ≠ b9) (ht : 98 ≠ t) : HB w' b Z t :=
 hb.chg ch fun h => by
  rcases h with h | h
  · exact hne h
  · exact ja9 M.st.row.row hb ht _ h.symm rfl
theorem own_csQ {w : World} {B e s n c : Nat} {q : Option Addr} {vs : List Value} (h : w.ownsRow B e s (.slice q n c) n vs) : Cs w q vs ∧ n ≤ c := by
 rcases h.2 with ⟨h1,h2⟩ | ⟨g,cap,cur,h1,_⟩
 · cases h1
   have := h.1;rw [h2,Nat.zero_mul] at this;rw [List.eq_nil_of_length_eq_zero this];exact ⟨Cs.nil _ _,by omega⟩
 · cases h1
   exact ⟨own_cs h,(ja1 h).1⟩
theorem lay_b0 {d2 d3 : Int} {W Bs : List Nat} {u : Unit} (h : layD (0,d2,d3,W,Bs,u) = true) : ((Bs.length : Nat) : Int) = d3 := by
 unfold layD layB at h;simp only [Bool.and_eq_true,decide_eq_true_eq] at h;obtain ⟨_,_,_,_,_,h6⟩ := h
 simpa [bCnt] using h6
theorem lay_w2 {d2 d3 : Int} {W Bs : List Nat} {u : Unit} (h : layD (2,d2,d3,W,Bs,u) = true) : ((W.length : Nat) : Int) = d2 := by
 unfold layD layB at h;simp only [Bool.and_eq_true,decide_eq_true_eq] at h;obtain ⟨_,_,_,_,h5,_⟩ := h
 simpa [wCnt] using h5
theorem mt_dense {d2 d3 : Int} {W Bs : List Nat} {u : Unit} {ops : List shOp.T} {ws : List Int} {j m m7 m9 m11 m12 lb : Nat} (hm : ops.length = m) (h7 : m7 = m + 1) (h9 : m9 = m7 + 1) (h11 : m11 = m9 + 1) (h12 : m12 = m11 + 1) (hb : (lb : Int) = d3) :
 jbl (0,d2,d3,W,Bs,u) (ops,ws,j) = (((((ops ++ [(0,0,0,0,(d3,d2,W,()),())]) ++ [(0,0,0,0,(1,(lb : Int),Bs,()),())]) ++ [(7,(m : Int),0,0,t0,())]) ++ [(6,(j : Int),(m9 : Int),0,t0,())]) ++ [(2,(m11 : Int),(m7 : Int),0,t0,())],ws ++ [(m : Int),(m7 : Int)],m12) := by
 subst h12;subst h11;subst h9;subst h7;subst hb;subst hm;simp [jbl,mkOp];exact ⟨rfl,rfl⟩
theorem mt_relu {d2 d3 : Int} {W Bs : List Nat} {u : Unit} {ops : List shOp.T} {ws : List Int} {j m : Nat} (hm : ops.length = m) :
 jbl (1,d2,d3,W,Bs,u) (ops,ws,j) = (ops ++ [(8,(j : Int),0,0,t0,())],ws,m) := by
 subst hm;simp [jbl,mkOp]
theorem mt_scale {d2 d3 : Int} {W Bs : List Nat} {u : Unit} {ops : List shOp.T} {ws : List Int} {j m m9 lw : Nat} (hm : ops.length = m) (h9 : m9 = m + 1) (hb : (lw : Int) = d2) :
 jbl (2,d2,d3,W,Bs,u) (ops,ws,j) = ((ops ++ [(0,0,0,0,(1,(lw : Int),W,()),())]) ++ [(4,(j : Int),(m : Int),0,t0,())],ws ++ [(m : Int)],m9) := by
 subst h9;subst hb;subst hm;simp [jbl,mkOp]
theorem mt_end {ops : List shOp.T} {ws : List Int} {j m m6 m8 m9 m10 z : Nat} (hm : ops.length = m) (h8 : m8 = m + 1) (h9 : m9 = m8 + 1) (h10 : m10 = m9 + 1) (h6 : m6 = 1) :
 mtEnd (ops,ws,j) z = ((((ops ++ [(5,(m6 : Int),0,negOne,t0,())]) ++ [(1,(j : Int),(m : Int),0,t0,())]) ++ [(9,(m8 : Int),0,0,t0,())]) ++ [(10,(m9 : Int),0,0,t0,())]) ++ [(5,(m10 : Int),0,z,t0,())] := by
 subst h10;subst h9;subst h8;subst h6;subst hm;simp [mtEnd,mkOp]
 first | exact ⟨rfl,rfl⟩ | exact ⟨rfl,rfl,rfl⟩ | rfl
theorem cn_neg1 : cn .f32 3212836864 = negOne := by decide +kernel
theorem cn_one1 : cn .f32 1065353216 = oneB32 := by decide +kernel
theorem mtTo_wlen (L : List jab.T) (x y : jaa.T) : ∀ i,(mtTo L x y i).2.1.length ≤ 2 * i
 | 0 => by simp [mtTo]
 | i + 1 => by
   have h := mtTo_wlen L x y i;simp only [mtTo,jbl]
   split
   · simp;omega
   · split
     · simp;omega
     · simp;omega
def AddedN (B b9 b11 fa : Nat) (v wv : Value) (ops : List shOp.T) (ws : List Int) (m : Nat) (d : shOp.T) (w : World) (e : Ending) (w' : World) : Prop :=
 e = .returned (.int .i64 (m : Nat)) ∧ ∃ v' css' bss' ops' m',Hid (ops' = ops ++ [d]) ∧ Hid (ops'.length = m') ∧ Hid (m' = m + 1) ∧ MtF w' B b9 b11 fa v' wv (ops',ws) css' bss' ∧ Chg (fun x => x = b9 ∨ some x = v.ownBlock) w w'
theorem Added.named {B b9 b11 fa : Nat} {v wv : Value} {ops : List shOp.T} {ws : List Int} {m : Nat} {d : shOp.T} {w w' : World} {e : Ending} (hm : ops.length = m) (h : Added B b9 b11 fa v wv (ops,ws) d w e w') : AddedN B b9 b11 fa v wv ops ws m d w e w' := by
 obtain ⟨h1,v',css',bss',M,ch⟩ := h;subst hm;exact ⟨h1,v',css',bss',_,_,rfl,rfl,by simp [Hid],M,ch⟩
theorem addF_n (B b9 b11 : Nat) (v wv : Value) (ops : List shOp.T) (ws : List Int) (m : Nat) (css : List (List Value)) (bss : List (List Nat)) (k a b : Int) (zb z : Nat) (w : World) (M : MtF w B b9 b11 99 v wv (ops,ws) css bss) (hz : cn .f32 zb = z) (hB : B ≤ w.heap.size) (hm : ops.length = m) (hl : m ≤ 60) :
 Calls Try.prog 99 #[.agg #[.int .i64 k,.int .i64 a,.int .i64 b,.float .f32 zb,.int .i64 0,.int .i64 0,.slice none 0 0],.pointer (some ⟨b9,0,none⟩)] w (AddedN B b9 b11 99 v wv ops ws m (k,a,b,z,t0,()) w) :=
 (addF_any B b9 b11 v wv (ops,ws) css bss k a b zb z w M hz hB (show ops.length ≤ 60 by omega)).mono fun _ _ h => h.named hm
theorem inputF_n (B b9 b11 : Nat) (v wv : Value) (ops : List shOp.T) (ws : List Int) (m : Nat) (css : List (List Value)) (bss : List (List Nat)) (r c : Int) (q : Option Addr) (N k : Nat) (us : List Value) (xs : List Nat) (w : World) (M : MtF w B b9 b11 99 v wv (ops,ws) css bss) (hB : B ≤ w.heap.size) (hm : ops.length = m) (hl : m ≤ 60) (hx : xs.length = N) (hN : N ≤ 1048576) (hk : N ≤ k) (hq : Cs w q us) (hf : F32s us xs) :
 Calls Try.prog 100 #[.agg #[.int .i64 r,.int .i64 c,.slice q N k],.pointer (some ⟨b11,0,none⟩)] w (AddedN B b9 b11 99 v wv ops ws m (0,0,0,0,(r,c,xs,()),()) w) :=
 (inputF_any B b9 b11 v wv (ops,ws) css bss r c q N k us xs w M hB (show ops.length ≤ 60 by omega) hx hN hk hq hf).mono fun _ _ h => h.named hm
def GoodK (kinds i0 : Int) (L : List jab.T) : Prop := GoodL i0 L ∧ ∀ d ∈ L,0 ≤ (d.1 : Int) ∧ (d.1 : Int) < kinds
theorem kd_ok {kinds inn O : Int} {ws bs : List Nat} (k : Int) (h0 : 0 ≤ k) (h1 : k < kinds) : 0 ≤ (((k,inn,O,ws,bs,()) : jab.T).1 : Int) ∧ (((k,inn,O,ws,bs,()) : jab.T).1 : Int) < kinds := ⟨h0,h1⟩
theorem kd_3 (k : Int) (h0 : 0 ≤ k) (h1 : k < 3) : k = 0 ∨ k = 1 ∨ k = 2 := by omega
def GotModK (kinds : Int) (sb K n1 : Nat) (w : World) (e : Ending) (w' : World) : Prop :=
 ∃ (i0 : Int) (L : List jab.T) (q : Option Addr) (c : Nat),e = .returned (.agg #[.slice q L.length c]) ∧ GoodK kinds i0 L ∧ 1 ≤ L.length ∧ L.length ≤ n1 ∧ (∃ (B : Nat) (cs : List (List Value)) (bss : List (List Nat)),w.heap.size ≤ B ∧ B ≤ w'.heap.size ∧ jaj w' B 41 jab (.slice q L.length c) L cs bss ∧ Tys w' [33] bss.flatten) ∧ DrAt w' sb K ∧ Chg (fun b => b = sb) w w'
theorem l03DrawSomeK_any (sb K : Nat) (i0 kinds : Int) (w : World) (h : DrAt w sb K) (hK : K ≤ 100000) (hi : 1 ≤ i0 ∧ i0 ≤ 8) (hkd : 1 ≤ kinds ∧ kinds ≤ 6) :
 Calls Try.prog 55 #[.pointer (some ⟨sb,0,none⟩),.int .i64 i0,.int .i64 kinds] w (GotModK kinds sb (K + 20000) 3 w) := by
 have hlt0 := h.lt;obtain ⟨W0,hW0⟩ : ∃ W0,W0 = (w.alloc (.cells #[.slice none 0 0] 38)).alloc (.cells #[.slice none 0 0] 38) := ⟨_,rfl⟩;obtain ⟨E0,s0,b0,b1⟩ := box2 hW0;have b0 : HB W0 w.heap.size #[.slice none 0 0] 38 := b0;have b1 : HB W0 (w.heap.size + 1) #[.slice none 0 0] 38 := b1;have H0 := h.ext E0;clear h;go_enter Try.func55,Try.ntmps55;go_wp2_with fail;rw [← hW0];clear hW0;refine (jbq sb K 3 W0 H0 (by omega) (by omega)).mono ?_;rintro e w1 ⟨x,rfl,hx,_,H1,c1⟩
 have hx := hx (by omega);obtain ⟨M,hM⟩ : ∃ M : Nat,(1 : Int) + (x : Int) = (M : Int) := ⟨1 + x,by omega⟩;have hM1 : 1 ≤ M ∧ M ≤ 3 := by omega
 have B0 := b0.chg c1 (fun hh => by omega);have B1 := b1.chg c1 (fun hh => by omega);have C1 := (Chg.of_ext (S := fun b => b = sb) E0).trans c1;have z1 := c1.size;have hst : w1.ownsRow w1.heap.size 41 jab.sz (.slice none 0 0) 0 [] := ⟨rfl,.inl ⟨rfl,rfl⟩⟩;have hG0 : GoodK kinds i0 [] := ⟨⟨rfl,hi.1,hi.2,fun x hx => by simp at hx⟩,fun d hd => by simp at hd⟩;clear b0 b1 H0 c1 E0 hx;go_wp2;go_loopw [1,8] (fun inv kv wr => ∃ (i c : Nat) (L : List jab.T) (q : Option Addr) (cs : List (List Value)) (bss : List (List Nat)),i ≤ M ∧ inv = .int .i64 (lastO i0 L) ∧ kv = .int .i64 ((M : Int) - (i : Int)) ∧ Hid (L.length = i) ∧ HB wr (w.heap.size + 1) #[.slice q i c] 38 ∧ HB wr w.heap.size #[.slice none 0 0] 38 ∧ Hid (jaj wr w1.heap.size 41 jab (.slice q i c) L cs bss) ∧ Hid (Tys wr [33] bss.flatten) ∧ Hid (GoodK kinds i0 L) ∧ DrAt wr sb (K + 2 + i * 5000) ∧ Chg (fun b => b = sb) w wr ∧ w1.heap.size ≤ wr.heap.size) (fun _ kv _ => (intOf kv).toNat)
 case atStart => exact ⟨0,0,[],none,[],[],by omega,rfl,by simp,rfl,B1,B0,jaj.empty hst,fun b hb => by simp at hb,hG0,H1,C1,Nat.le_refl _⟩
 case round =>
  clear B1 B0 hst hG0 H1 C1;obtain ⟨i,c,L,q,cs,bss,hi2,rfl,rfl,HL,B1,B0,HG,HT,HQ,S,C,hz⟩ := hrel
  by_cases hlt : i < M
  · have hgt : decide (0 < (M : Int) - (i : Int)) = true := by simp;omega
    have hq1 := HQ.out.1.2.1;have hq2 := HQ.out.1.2.2.1;have HIN := hid (rfl : lastO i0 L = lastO i0 L);obtain ⟨inn,hinn⟩ : ∃ z,z = lastO i0 L := ⟨_,rfl⟩;rw [← hinn] at hq1 hq2 ⊢;have HI := hid hinn;clear hinn HIN;go_wp2_with fail;refine (jbq sb (K + 2 + i * 5000) kinds wr S (by omega) (by omega)).mono ?_;rintro e w2 ⟨kd,rfl,hk1,_,S2,c2⟩
    have hk1 := hk1 (by omega);go_wp2_with fail;refine (drOne_any sb (K + 2 + i * 5000 + 2) 2 w2 S2 (by omega) (by omega)).mono ?_;rintro e w3 ⟨bb,rfl,S3,c3⟩
    clear S2 S
    cases bb
    · go_wp2_with fail
      refine (jbq sb (K + 2 + i * 5000 + 4) 4 w3 S3 (by omega) (by omega)).mono ?_;rintro e w4 ⟨y,rfl,hy,_,S4,c4⟩
      have hy := hy (by omega);clear S3;have HC := l03DrawLayer_any sb (K + 2 + i * 5000 + 6) (kd : Int) inn (1 + (y : Int)) w4 S4 (by omega) (by omega) (by omega) (by omega);generalize (if ((kd : Int) : Int) = 0 then (1 + (y : Int)) else inn) = O at HC;go_wp2_with fail;refine HC.mono ?_;rintro e w5 ⟨ws,bs,pw,pb,cw,cb,rfl,hlb,hws,hbs,⟨bl,ol,ndl,lol,tyl⟩,S5,c5,_⟩
      have CC := ((c2.trans c3).trans c4).trans c5;have C5 := C.trans CC;have z2 := (c2.trans (c3.trans c4)).size;have z5 := c5.size;have B5 := B1.chg CC (fun hh => by omega);have Z5 := B0.chg CC (fun hh => by omega);have hrow := HG.out.row;rw [HL.out] at hrow;have row5 := jag hrow CC (fun b hb => by have hb : b = sb := hb;omega);have hlw := hid (rfl : ws.length = ws.length);obtain ⟨lw,hlw⟩ : ∃ lw,lw = ws.length := ⟨_,rfl⟩;obtain ⟨lb,hlb2⟩ : ∃ lb,lb = bs.length := ⟨_,rfl⟩;rw [← hlw,← hlb2] at ol ⊢;rw [← hlw,← hlb2] at hlb;have HLW := hid hlw;have HLB := hid hlb2;clear hlw hlb2 c2 c3 c4 c5 HC S4 C B1 B0;have E6 := Ext.alloc w5 (.cells #[.int .i64 (kd : Int),.int .i64 inn,.int .i64 O,.slice pw lw cw,.slice pb lb cb] 41);have b10 := HB.new w5 #[.int .i64 (kd : Int),.int .i64 inn,.int .i64 O,.slice pw lw cw,.slice pb lb cb] 41;obtain ⟨W6,hW6⟩ : ∃ W6,W6 = w5.alloc (.cells #[.int .i64 (kd : Int),.int .i64 inn,.int .i64 O,.slice pw lw cw,.slice pb lb cb] 41) := ⟨_,rfl⟩;rw [← hW6] at E6 b10;have g7 := E6.cell (B5.cell 0 rfl);have k0 := b10.cell 0 rfl;have k1 := b10.cell 1 rfl;have k2 := b10.cell 2 rfl;have k3 := b10.cell 3 rfl;have k4 := b10.cell 4 rfl;have z6 := E6.size;have l6 := b10.lt;have HW6 := hid hW6;clear hW6;rw [HW6.out] at g7 k0 k1 k2 k3 k4;go_wp2_with (first | ((with_reducible show gx6);rw [← HW6.out];refine jbj (u := .agg #[.int .i64 (kd : Int),.int .i64 inn,.int .i64 O,.slice pw lw cw,.slice pb lb cb]) rfl rfl rfl rfl rfl (by rfl) (by rfl) (fun _ => rfl) (fun _ => rfl) (jai row5 E6) (by unfold maxLen;omega) (by omega) (by omega) ?_;intro g9 c9 w9 own9 gr9 hw9;have hg9 : HB w9 (w.heap.size + 1) #[.slice q i c] 38 := (B5.ext E6).chg (.of_grown gr9) (fun h => by have := jap row5 _ h.symm;omega);have r9 : HB w9 w5.heap.size #[.int .i64 (kd : Int),.int .i64 inn,.int .i64 O,.slice pw lw cw,.slice pb lb cb] 41 := b10.chg (.of_grown gr9) (fun h => by have := jcw row5 _ h.symm;omega)) | ((with_reducible show gx9);refine jcc (j := 0) rfl rfl hg9 rfl rfl rfl rfl ?_;intro w10 b11 ch10;have r10 := r9.chg ch10 (fun h => by omega);have o2 := r10.cell 2 rfl));go_roundw
      case rel =>
       have hw : ws.length = lw := HLW.out.symm;have hb : bs.length = lb := HLB.out.symm
       have G10 : GoodK kinds i0 (L ++ [((kd : Int),inn,O,ws,bs,())]) := by
        rw [HI.out];refine ⟨HQ.out.1.snoc (by rw [hw,hb,← HI.out];exact hlb) hws hbs,fun d hd => ?_⟩;rcases List.mem_append.1 hd with h | h
        · exact HQ.out.2 d h
        · rw [List.mem_singleton] at h
          subst h;exact kd_ok _ (by omega) (by omega)
       have ol6 : Own W6 jab [.int .i64 (kd : Int),.int .i64 inn,.int .i64 O,.slice pw lw cw,.slice pb lb cb] ((kd : Int),inn,O,ws,bs,()) bl := ol.chg (Chg.of_ext (S := fun _ => False) E6) (fun _ _ h => h);have CC6 := CC.trans (.of_ext E6);have H9 := (HG.out.snocC CC6 (fun b hb => by have hb : b = sb := hb;omega) ol6 ndl (fun b hb => by have := lol b hb;omega) hz (n := i) HL.out own9 gr9 (by rcases hw9 with h | h;exact .inl h;right;omega)).chgB ch10 (fun b hb => by have hb : b = _ := hb;omega)
       have T9 : Tys w10 [33] (bss ++ [bl]).flatten := by
        have hh : (bss ++ [bl]).flatten = bss.flatten ++ bl := by simp
        rw [hh];refine ((((HT.out.chg CC6 (fun b hb h => by have h : b = sb := h;have := (HG.out.lo b hb).1;omega)).app (tyl.ext E6)).chg (.of_grown gr9) (fun b hb h => ?_)).chg ch10 (fun b hb h => ?_))
        · rcases List.mem_append.1 hb with hb | hb
          · exact (HG.out.lo b hb).2 h.symm
          · have := jcw hrow b h.symm;have := lol b hb;omega
        · have h : b = _ := h
          rcases List.mem_append.1 hb with hb | hb
          · have := (HG.out.lo b hb).1;omega
          · have := lol b hb;omega
       have S9 := (((S5.ext E6).chg (.of_grown gr9) (fun b hb => by have := jap row5 b hb.symm;omega)).chg ch10 (fun b hb => by have hb : b = _ := hb;omega)).mono (show K + 2 + i * 5000 + 6 + 4000 ≤ K + 2 + (i + 1) * 5000 by omega);have C9 := ((C5.trans (.of_ext E6)).late (.of_grown gr9) (fun b hb => by left;have := jap row5 b hb.symm;omega)).late ch10 (fun b hb => by left;have hb : b = _ := hb;omega);have Z9 : HB w10 w.heap.size #[.slice none 0 0] 38 := ((Z5.ext E6).chg (.of_grown gr9) (fun h => by have := jap row5 _ h.symm;omega)).chg ch10 (fun h => by omega);exact ⟨i + 1,c9,L ++ [((kd : Int),inn,O,ws,bs,())],some ⟨g9,0,none⟩,_,_,by omega,by rw [lastO_snoc];rfl,by go_num,by rw [Hid,List.length_append,HL.out];rfl,b11,Z9,H9,T9,G10,S9,C9,by have := gr9.size;have := ch10.size;omega⟩
      case measure => simp [intOf];omega
    · go_wp2_with fail
      refine (jbq sb (K + 2 + i * 5000 + 4) 4 w3 S3 (by omega) (by omega)).mono ?_;rintro e w4 ⟨y,rfl,hy,_,S4,c4⟩
      have hy := hy (by omega);clear S3;have HC := l03DrawLayer_any sb (K + 2 + i * 5000 + 6) 0 inn (1 + (y : Int)) w4 S4 (by omega) (by omega) (by omega) (by omega);generalize (if (0 : Int) = 0 then (1 + (y : Int)) else inn) = O at HC;go_wp2_with fail;refine HC.mono ?_;rintro e w5 ⟨ws,bs,pw,pb,cw,cb,rfl,hlb,hws,hbs,⟨bl,ol,ndl,lol,tyl⟩,S5,c5,_⟩
      have CC := ((c2.trans c3).trans c4).trans c5;have C5 := C.trans CC;have z2 := (c2.trans (c3.trans c4)).size;have z5 := c5.size;have B5 := B1.chg CC (fun hh => by omega);have Z5 := B0.chg CC (fun hh => by omega);have hrow := HG.out.row;rw [HL.out] at hrow;have row5 := jag hrow CC (fun b hb => by have hb : b = sb := hb;omega);have hlw := hid (rfl : ws.length = ws.length);obtain ⟨lw,hlw⟩ : ∃ lw,lw = ws.length := ⟨_,rfl⟩;obtain ⟨lb,hlb2⟩ : ∃ lb,lb = bs.length := ⟨_,rfl⟩;rw [← hlw,← hlb2] at ol ⊢;rw [← hlw,← hlb2] at hlb;have HLW := hid hlw;have HLB := hid hlb2;clear hlw hlb2 c2 c3 c4 c5 HC S4 C B1 B0;have E6 := Ext.alloc w5 (.cells #[.int .i64 0,.int .i64 inn,.int .i64 O,.slice pw lw cw,.slice pb lb cb] 41);have b10 := HB.new w5 #[.int .i64 0,.int .i64 inn,.int .i64 O,.slice pw lw cw,.slice pb lb cb] 41;obtain ⟨W6,hW6⟩ : ∃ W6,W6 = w5.alloc (.cells #[.int .i64 0,.int .i64 inn,.int .i64 O,.slice pw lw cw,.slice pb lb cb] 41) := ⟨_,rfl⟩;rw [← hW6] at E6 b10;have g7 := E6.cell (B5.cell 0 rfl);have k0 := b10.cell 0 rfl;have k1 := b10.cell 1 rfl;have k2 := b10.cell 2 rfl;have k3 := b10.cell 3 rfl;have k4 := b10.cell 4 rfl;have z6 := E6.size;have l6 := b10.lt;have HW6 := hid hW6;clear hW6;rw [HW6.out] at g7 k0 k1 k2 k3 k4;go_wp2_with (first | ((with_reducible show gx6);rw [← HW6.out];refine jbj (u := .agg #[.int .i64 0,.int .i64 inn,.int .i64 O,.slice pw lw cw,.slice pb lb cb]) rfl rfl rfl rfl rfl (by rfl) (by rfl) (fun _ => rfl) (fun _ => rfl) (jai row5 E6) (by unfold maxLen;omega) (by omega) (by omega) ?_;intro g9 c9 w9 own9 gr9 hw9;have hg9 : HB w9 (w.heap.size + 1) #[.slice q i c] 38 := (B5.ext E6).chg (.of_grown gr9) (fun h => by have := jap row5 _ h.symm;omega);have r9 : HB w9 w5.heap.size #[.int .i64 0,.int .i64 inn,.int .i64 O,.slice pw lw cw,.slice pb lb cb] 41 := b10.chg (.of_grown gr9) (fun h => by have := jcw row5 _ h.symm;omega)) | ((with_reducible show gx9);refine jcc (j := 0) rfl rfl hg9 rfl rfl rfl rfl ?_;intro w10 b11 ch10;have r10 := r9.chg ch10 (fun h => by omega);have o2 := r10.cell 2 rfl));go_roundw
      case rel =>
       have hw : ws.length = lw := HLW.out.symm;have hb : bs.length = lb := HLB.out.symm
       have G10 : GoodK kinds i0 (L ++ [((0 : Int),inn,O,ws,bs,())]) := by
        rw [HI.out];refine ⟨HQ.out.1.snoc (by rw [hw,hb,← HI.out];exact hlb) hws hbs,fun d hd => ?_⟩;rcases List.mem_append.1 hd with h | h
        · exact HQ.out.2 d h
        · rw [List.mem_singleton] at h
          subst h;exact kd_ok _ (by omega) (by omega)
       have ol6 : Own W6 jab [.int .i64 (0 : Int),.int .i64 inn,.int .i64 O,.slice pw lw cw,.slice pb lb cb] ((0 : Int),inn,O,ws,bs,()) bl := ol.chg (Chg.of_ext (S := fun _ => False) E6) (fun _ _ h => h);have CC6 := CC.trans (.of_ext E6);have H9 := (HG.out.snocC CC6 (fun b hb => by have hb : b = sb := hb;omega) ol6 ndl (fun b hb => by have := lol b hb;omega) hz (n := i) HL.out own9 gr9 (by rcases hw9 with h | h;exact .inl h;right;omega)).chgB ch10 (fun b hb => by have hb : b = _ := hb;omega)
       have T9 : Tys w10 [33] (bss ++ [bl]).flatten := by
        have hh : (bss ++ [bl]).flatten = bss.flatten ++ bl := by simp
        rw [hh];refine ((((HT.out.chg CC6 (fun b hb h => by have h : b = sb := h;have := (HG.out.lo b hb).1;omega)).app (tyl.ext E6)).chg (.of_grown gr9) (fun b hb h => ?_)).chg ch10 (fun b hb h => ?_))
        · rcases List.mem_append.1 hb with hb | hb
          · exact (HG.out.lo b hb).2 h.symm
          · have := jcw hrow b h.symm;have := lol b hb;omega
        · have h : b = _ := h
          rcases List.mem_append.1 hb with hb | hb
          · have := (HG.out.lo b hb).1;omega
          · have := lol b hb;omega
       have S9 := (((S5.ext E6).chg (.of_grown gr9) (fun b hb => by have := jap row5 b hb.symm;omega)).chg ch10 (fun b hb => by have hb : b = _ := hb;omega)).mono (show K + 2 + i * 5000 + 6 + 4000 ≤ K + 2 + (i + 1) * 5000 by omega);have C9 := ((C5.trans (.of_ext E6)).late (.of_grown gr9) (fun b hb => by left;have := jap row5 b hb.symm;omega)).late ch10 (fun b hb => by left;have hb : b = _ := hb;omega);have Z9 : HB w10 w.heap.size #[.slice none 0 0] 38 := ((Z5.ext E6).chg (.of_grown gr9) (fun h => by have := jap row5 _ h.symm;omega)).chg ch10 (fun h => by omega);exact ⟨i + 1,c9,L ++ [((0 : Int),inn,O,ws,bs,())],some ⟨g9,0,none⟩,_,_,by omega,by rw [lastO_snoc];rfl,by go_num,by rw [Hid,List.length_append,HL.out];rfl,b11,Z9,H9,T9,G10,S9,C9,by have := gr9.size;have := ch10.size;omega⟩
      case measure => simp [intOf];omega
  · obtain rfl : M = i := by omega
    have hB0 := B0.lt;have g2 := B1.cell 0 rfl;have g1 := B0.cell 0 rfl;have g3 := B0.froz 0;go_wp2;refine bodyPost_ret (v := .agg #[.slice q M c]) (by simp [results,Try.results55,go_sem,g1,g3]) rfl ?_;have ch := ja3 wr w.heap.size 0 (.slice q M c);have HLo := HL.out;subst HLo;exact ⟨i0,L,q,c,rfl,HQ.out,hM1.1,hM1.2,⟨w1.heap.size,cs,bss,by omega,by have := ch.size;omega,HG.out.chgB ch (fun b hb => by have hb : b = _ := hb;omega),HT.out.chg ch (fun b hb h => by have h : b = _ := h;have := (HG.out.lo b hb).1;omega)⟩,(S.chg ch (fun b hb => by have hb : b = _ := hb;omega)).mono (by omega),C.late ch (fun b hb => by left;have hb : b = _ := hb;omega)⟩
def GotMT (w : World) (e : Ending) (w' : World) : Prop :=
 ∃ (L : List jab.T) (q : Option Addr) (c : Nat),e = .returned (.agg #[.slice q L.length c]) ∧ modB L = true ∧ tapeB L = true ∧ Fit (.sl jab) L ∧ jca [41,33] w.heap.size (.sl jab) w' [.slice q L.length c] L ∧ Ext w w'
theorem R8Model_any (p : Option Addr) (n c : Nat) (bs : List Nat) (w : World) (hc : Cs w p (u8s bs)) (hl : bs.length = n) (hn : n ≤ 1048576) (hb : ∀ b ∈ bs,b < 256) : Calls Try.prog 16 #[.slice p n c] w (GotMT w) := by
 obtain ⟨W0,hW0⟩ : ∃ W0,W0 = w.alloc (.cells #[.slice none 0 0] 38) := ⟨_,rfl⟩;have E0 : Ext w W0 := by rw [hW0];exact Ext.alloc _ _
 have b0 : HB W0 w.heap.size #[.slice none 0 0] 38 := by rw [hW0];exact HB.new _ _ _
 have s0 := b0.lt;go_enter Try.func16,Try.ntmps16;go_wp2_with fail;rw [← hW0];clear hW0;refine (l00From_any p n c bs W0 (hc.ext E0) hl hn hb).mono ?_;rintro e w1 ⟨rfl,src,e1⟩
 have hsz := e1.size;have hlt0 := src.lt;go_wp2_with fail;refine (jbq W0.heap.size 0 4 w1 src (by omega) (by omega)).mono ?_;rintro e w2 ⟨x,rfl,hx,_,src2,c2⟩
 have hx := hx (by omega);go_wp2_with fail;refine (l03DrawSomeK_any W0.heap.size (0 + 2) (1 + (x : Int)) 3 w2 src2 (by omega) (by omega) (by omega)).mono ?_;intro e w3 h;have hz2 := c2.size;obtain ⟨i0,L,q,c3,rfl,hG,h1,h2,⟨B,cs,bss,hB,hB2,G,T⟩,_,C⟩ := h;have ce := (chg_new e1 (c2.trans C) (Nat.le_refl _));have hE3 := E0.trans ce;have B2 := b0.ext ce;have r0 := B2.cell 0 rfl;have f0 := B2.froz 0
 have hmod : modB L = true := by
  unfold modB;simp only [Bool.and_eq_true,decide_eq_true_eq];exact ⟨h1,by omega,hG.1.1⟩
 have htp : tapeB L = true := by
  unfold tapeB;rw [List.all_eq_true];intro d hd;have := hG.2 d hd;simp only [decide_eq_true_eq];exact kd_3 _ this.1 this.2
 have ho := hid ((G.ownY (ts := [41,33]) (T.mono (by simp)) (by simp)));have hM := hid hmod;have hT := hid htp;have hF := hid hG.1.2.2.2;clear hmod htp hG G T;go_wp2;refine bodyPost_ret (v := .agg #[.slice q L.length c3]) (by simp [results,Try.results16,go_sem,r0,f0]) rfl ?_;have ch := ja3 w3 w.heap.size 0 (.slice q L.length c3);exact ⟨L,q,c3,rfl,hM.out,hT.out,hF.out,(jca.chg ho.out ch (fun b hb => by have hb : b = _ := hb;omega)).base (by omega),hE3.chg ch (fun b hb => by have hb : b = _ := hb;omega)⟩
end Go.Proofs.Ytmbckkcgiafagaa
