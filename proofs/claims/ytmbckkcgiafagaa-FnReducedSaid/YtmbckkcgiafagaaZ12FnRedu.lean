/- A part of the proofs: Spl, RedOk, RMod, Lbl, HExamples, Exa, CCor, ConfD, HInt64SS, Conf, CLab. -/
import Derived.Test.YtmbckkcgiafagaaZ11FnRedu
import Derived.Test.YtmbckkcgiafagaaZ09FnRedu
import Derived.Test.YtmbckkcgiafagaaZ03FnRedu
import Derived.Test.YtmbckkcgiafagaaZ06FnRedu
import Derived.Test.YtmbckkcgiafagaaZ02FnRedu
import Derived.Test.YtmbckkcgiafagaaZ07FnRedu
import Derived.Test.YtmbckkcgiafagaaZ10FnRedu
set_option linter.unusedSimpArgs false
set_option linter.unusedVariables false
set_option maxRecDepth 100000
set_option maxHeartbeats 16000000
namespace Go.Proofs.Ytmbckkcgiafagaa
open Go.RowKit
theorem small_of {L : List jaa.T} (h : ModOk L) : Small L := by
 refine ⟨by have := h.few;omega,fun d hd => ?_⟩;obtain ⟨i,hi,rfl⟩ := List.mem_iff_getElem.1 hd;have hl := h.lay i hi;unfold layD layB at hl;simp only [Bool.and_eq_true,decide_eq_true_eq,inB_true,Bool.or_eq_true] at hl;obtain ⟨h1,h2,h3,h4,h5,h6⟩ := hl;have hm := mul_bd h2 h3;unfold wCnt at h5;unfold bCnt at h6;refine ⟨?_,?_⟩
 · split at h5
   · omega
   · split at h5
     · omega
     · split at h5 <;> omega
 · split at h6
   · omega
   · split at h6
     · omega
     · split at h6 <;> omega
theorem small_take {L : List jaa.T} (h : Small L) (k : Nat) : Small (L.take k) := ⟨by rw [List.length_take];have := h.1;omega,fun d hd => h.2 d (List.mem_of_mem_take hd)⟩
theorem small_drop {L : List jaa.T} (h : Small L) (k : Nat) : Small (L.drop k) := ⟨by rw [List.length_drop];have := h.1;omega,fun d hd => h.2 d (List.mem_of_mem_drop hd)⟩
theorem lays_sub {w : World} {p : Option Addr} {n c a b : Nat} {css : List (List Value)} {L : List jaa.T} (h : Lays w p n css L) (hc : n ≤ c) (h1 : a ≤ b) (h2 : b ≤ n) : Lays w (subp p jaa.sz a c) (b - a) ((css.take b).drop a) ((L.take b).drop a) := by
 refine ⟨?_,?_,fun x hx => h.size x (List.mem_of_mem_take (List.mem_of_mem_drop hx)),fun x hx => h.one x (List.mem_of_mem_take (List.mem_of_mem_drop hx)),?_,?_,fun x hx => h.fit x (List.mem_of_mem_take (List.mem_of_mem_drop hx)),by have := h.le;omega⟩
 · have h3 := h.cs.sub (s := 5) (l := a) (hi := b) (c := c) h1 (by omega)
   have hs : ∀ x ∈ css,x.length = 5 := h.size
   have e1 : css.flatten.take (b * 5) = (css.take b).flatten := by
    have h4 : (css.take b).flatten.length = b * 5 := by
     rw [flat_len' (fun x hx => hs x (List.mem_of_mem_take hx)),List.length_take,h.cnt,Nat.min_eq_left h2]
    conv => lhs;rw [← List.take_append_drop b css,List.flatten_append]
    rw [← h4,List.take_left]
   have e2 : (css.take b).flatten.drop (a * 5) = ((css.take b).drop a).flatten := by
    have h4 : ((css.take b).take a).flatten.length = a * 5 := by
     rw [flat_len' (fun x hx => hs x (List.mem_of_mem_take (List.mem_of_mem_take hx))),List.length_take,List.length_take,h.cnt]
     congr 1;omega
    conv => lhs;rw [← List.take_append_drop a (css.take b),List.flatten_append]
    rw [← h4,List.drop_left]
   rw [e1,e2] at h3;exact h3
 · have : ∀ {us : List (List Value)} {bs : List jaa.T},All2 (Rep w jaa) us bs → All2 (Rep w jaa) ((us.take b).drop a) ((bs.take b).drop a) := by
    intro us bs hu;refine All2.of_get (by rw [List.length_drop,List.length_drop,List.length_take,List.length_take,hu.length]) fun i x y hx hy => ?_
    rw [List.getElem?_drop,List.getElem?_take] at hx hy
    split at hx
    · rename_i hi
      rw [if_pos hi] at hy;exact hu.toGet _ _ _ hx hy
    · cases hx
   exact this h.all
 · rw [List.length_drop,List.length_take,h.len,Nat.min_eq_left h2]
 · rw [List.length_drop,List.length_take,h.cnt,Nat.min_eq_left h2]
end Go.Proofs.Ytmbckkcgiafagaa
namespace Go.Proofs.Ytmbckkcgiafagaa.lSplitModel
open Go.RowKit
def okS (d : jah.T) (a : Int) : Prop := modB d.1 = true ∧ inB a 1 ((d.1.length : Int) - 1) = true
instance (d : jah.T) (a : Int) : Decidable (okS d a) := by unfold okS;infer_instance
def res (d : jah.T) (a : Int) : jah.T × jah.T × Bool := if okS d a then ((d.1.take a.toNat,()),(d.1.drop a.toNat,()),true) else (([],()),([],()),false)
theorem res_no {d : jah.T} {a : Int} (h : ¬ okS d a) : res d a = (([],()),([],()),false) := by unfold res;rw [if_neg h]
theorem own_mod {w : World} {q : Option Addr} {n k : Nat} {L : List jaa.T} {bs : List Nat} (h : Own w (.sl jaa) [.slice q n k] L bs) : Own w jah [.slice q n k] (L,()) bs := ⟨[.slice q n k],[],bs,[],rfl,h,⟨rfl,rfl⟩,by simp⟩
theorem out2_no {w w' : World} {e : Ending} (h : e = .returned (.tuple #[.agg #[.slice none 0 0],.agg #[.slice none 0 0],.bool false])) (hx : Ext w w') : Out2 w jah jah (([],()),([],()),false) e w' :=
 ⟨[.slice none 0 0],[],[.slice none 0 0],[],h,own_mod own_nil,own_mod own_nil,by simp,by simp,hx⟩
theorem impl_ok (cs0 : List Value) (D0 : jah.T) (a : Int) (w : World) (h0 : Rep w jah cs0 D0) (f0 : Fit jah D0) (_ : Fit .int a) : Calls Try.prog 43 #[ofCs jah cs0,.int .i64 a] w (Out2 w jah jah (res D0 a)) := by
 obtain ⟨L0,u0⟩ := D0;obtain ⟨c0,c1,rfl,k0,rfl⟩ := h0;obtain ⟨p,c,rfl,_⟩ := rep_val k0;obtain ⟨p',c',css,he0,L⟩ := lays_of k0 f0.1
 cases he0
 have hnc : L0.length ≤ c := by
  obtain ⟨_,_,_,h1,_,h3,_⟩ := k0
  cases h1;exact h3
 simp only [ofCs,Sh.agg,if_true,List.append_nil];obtain ⟨W0,hW0⟩ : ∃ W0,W0 = ((w.alloc (.cells #[.slice p L0.length c] 38)).alloc (.cells #[.slice none 0 0] 38)).alloc (.cells #[.slice none 0 0] 38) := ⟨_,rfl⟩;obtain ⟨E0,s0,b0,b1,b2⟩ := box3 hW0;have a0 : W0.cell? ⟨w.heap.size,0,none⟩ = some (.slice p L0.length c) := jad b0 rfl;have b1 : HB W0 (w.heap.size + 1) #[.slice none 0 0] 38 := b1;have b2 : HB W0 (w.heap.size + 1 + 1) #[.slice none 0 0] 38 := b2;have A := hid (fun W (h : Ext W0 W) => ValidModel_any p L0.length c L0 css W L.len L.le (L.cs.ext (E0.trans h)) (L.all.imp fun _ _ => Rep.ext (E0.trans h)) L.size L.cnt);have B := hid (fun W => jal a 1 ((L0.length : Int) - 1) W);have hlm : L0.length ≤ maxLen := L.le;unfold maxLen at hlm;have q1 : IntKind.i64.wrap ((L0.length : Int) - 1) = (L0.length : Int) - 1 := jau _ (by omega) (by omega)
 cases hb0 : modB L0
 · rw [res_no (fun h => by have := h.1;dsimp only at this;rw [hb0] at this;cases this)]
   rw [hb0] at A;clear k0 L f0 B b0;generalize L0.length = n0 at *;go_enter Try.func43,Try.ntmps43;go_wp2_with fail;rw [← hW0];clear hW0;refine (A.out _ (Ext.refl _)).mono ?_;rintro e w1 ⟨rfl,e1⟩
   have g1 : w1.cell? ⟨w.heap.size + 1,0,none⟩ = some (.slice none 0 0) := (b1.ext e1).cell 0 rfl;have g2 : w1.cell? ⟨w.heap.size + 1 + 1,0,none⟩ = some (.slice none 0 0) := (b2.ext e1).cell 0 rfl;have g3 := (b1.ext e1).froz 0;have g4 := (b2.ext e1).froz 0;go_wp2;refine bodyPost_ret (v := .tuple #[.agg #[.slice none 0 0],.agg #[.slice none 0 0],.bool false]) (by simp [results,Try.results43,go_sem,g1,g2,g3,g4]) rfl ?_;exact out2_no rfl (by have := E0.trans e1;(repeat (first | (with_reducible first | exact Ext.refl _ | assumption) | ((with_reducible refine Ext.setCell ?_ ?_ _);rotate_left;focus (first | (simp;done) | (simp;omega))) | (with_reducible first | refine px1 ?_ _ | refine px2 ?_ | refine Ext.trans ?_ (by assumption)))))
 rw [hb0] at A;have hM := modOk hb0;have hS := small_of hM
 cases hb1 : inB a 1 ((L0.length : Int) - 1)
 · rw [res_no (fun h => by have := h.2;dsimp only at this;rw [hb1] at this;cases this)]
   rw [hb1] at B;have x0 := a0;clear k0 L f0 b0 hM hS;generalize L0.length = n0 at *;go_enter Try.func43,Try.ntmps43;go_wp2_with fail;rw [← hW0];clear hW0;refine (A.out _ (Ext.refl _)).mono ?_;rintro e w1 ⟨rfl,e1⟩
   have x0 := e1.cell a0;have g1 : w1.cell? ⟨w.heap.size + 1,0,none⟩ = some (.slice none 0 0) := (b1.ext e1).cell 0 rfl;have g2 : w1.cell? ⟨w.heap.size + 1 + 1,0,none⟩ = some (.slice none 0 0) := (b2.ext e1).cell 0 rfl;have g3 := (b1.ext e1).froz 0;have g4 := (b2.ext e1).froz 0;go_wp2_with (go_at_call 57;refine (B.out _).mono ?_;rintro e w2 ⟨rfl,rfl⟩);refine bodyPost_ret (v := .tuple #[.agg #[.slice none 0 0],.agg #[.slice none 0 0],.bool false]) (by simp [results,Try.results43,go_sem,g1,g2,g3,g4]) rfl ?_;exact out2_no rfl (by have := E0.trans e1;(repeat (first | (with_reducible first | exact Ext.refl _ | assumption) | ((with_reducible refine Ext.setCell ?_ ?_ _);rotate_left;focus (first | (simp;done) | (simp;omega))) | (with_reducible first | refine px1 ?_ _ | refine px2 ?_ | refine Ext.trans ?_ (by assumption)))))
 rw [hb1] at B;have hok : okS (L0,u0) a := ⟨hb0,hb1⟩;rw [inB_true] at hb1;obtain ⟨A1,rfl⟩ := Int.eq_ofNat_of_zero_le (show 0 ≤ a by omega);have hres : res (L0,u0) (A1 : Int) = ((L0.take A1,()),(L0.drop A1,()),true) := by unfold res;rw [if_pos hok];rfl
 rw [hres];have hA1 : A1 ≤ L0.length := by omega
 have G1 := hid (fun W (h : Ext W0 W) => copyModel_any (subp p jaa.sz 0 c) (A1 - 0) (c - 0) _ _ W (lays_sub (L.ext (E0.trans h)) hnc (Nat.zero_le A1) hA1) (small_drop (small_take hS A1) 0));have G2 := hid (fun W (h : Ext W0 W) => copyModel_any (subp p jaa.sz A1 c) (L0.length - A1) (c - A1) _ _ W (lays_sub (L.ext (E0.trans h)) hnc hA1 (Nat.le_refl _)) (small_drop (small_take hS L0.length) A1));rw [List.drop_zero,Nat.sub_zero,Nat.sub_zero] at G1;rw [List.take_of_length_le (Nat.le_refl L0.length)] at G2;clear k0 L f0 b0 hM hS hok hres hb0;generalize L0.take A1 = P1 at *;generalize L0.drop A1 = P2 at *;generalize L0.length = n0 at *;have ⟨m2,hm2⟩ : ∃ m,m = n0 - A1 := ⟨_,rfl⟩;rw [← hm2] at G2;have Hm2 := hid hm2;clear hm2;obtain ⟨F,hF⟩ : ∃ F : Option Tmp → World → World → Value → Prop,F = fun d w0 W u => match d with | some 26 => ∃ q k,u = .agg #[.slice q A1 k] ∧ IsOwnY [41,33] w0.heap.size (.sl jaa) W [.slice q A1 k] P1 | _ => ∃ q k,u = .agg #[.slice q m2 k] ∧ IsOwnY [41,33] w0.heap.size (.sl jaa) W [.slice q m2 k] P2 := ⟨_,rfl⟩
 have HF := hid hF;clear hF;go_enter Try.func43,Try.ntmps43;go_wp2_with fail;rw [← hW0];clear hW0;refine (A.out _ (Ext.refl _)).mono ?_;rintro e w1 ⟨rfl,e1⟩
 have x0 := e1.cell a0;go_wp2_with (go_at_call 57;refine (B.out _).mono ?_;rintro e w2 ⟨rfl,rfl⟩);have hD := Ext.drew w1;have y0 := hD.cell x0;have hWD := e1.trans hD;refine wp_region_yt 12 (F := F) (by kernel_rfl) (by kernel_rfl) (by kernel_rfl) (by kernel_rfl) (by kernel_rfl) ?_;intro wf hwf;simp only [pw1,pw2,pw3,pw4]
 repeat (first
  | ((first | (refine jav rfl ?_) | (refine x_mv rfl rfl rfl ?_) | (refine x_as rfl rfl rfl ?_) | ((with_reducible show wpX _ _ _ _ _ _ (Oper.mk _ (Op.slice _ _ _ _ _) _ _ _ _ :: _) _);refine x_sliceTo (u := A1) rfl rfl rfl rfl rfl (by omega) ?_;rw [Nat.sub_zero,Nat.sub_zero]) | ((with_reducible show wpX _ _ _ _ _ _ (Oper.mk _ (Op.slice _ _ _ _ _) _ _ _ _ :: _) _);refine x_sliceFrom (l := A1) rfl rfl rfl rfl rfl (by omega) (by omega) ?_;rw [← Hm2.out]) | ((with_reducible show gx12);first | (refine y_callK (f := 87) (args := #[.agg #[.slice (subp p jaa.sz 0 c) A1 c]]) rfl rfl Try.func87 rfl (by kernel_rfl) ?_ ?_ ?_;(focus (simp [Act.eval];done));(focus (intro w1 hw1 hK;exact (by rw [HF.out];exact (G1.out w1 (hWD.trans hw1)).mono fun e w3 ⟨q,k,g1,g2,g3⟩ => ⟨_,g1,g3,q,k,rfl,g2⟩)));rintro u wa wb e0 hK e3 e4 hu;simp only [HF.out] at hu;obtain ⟨qa,ka,rfl,_⟩ := hu) | (refine y_callK (f := 87) (args := #[.agg #[.slice (subp p jaa.sz A1 c) m2 (c - A1)]]) rfl rfl Try.func87 rfl (by kernel_rfl) ?_ ?_ ?_;(focus (simp [Act.eval];done));(focus (intro w1 hw1 hK;exact (by rw [HF.out];exact (G2.out w1 (hWD.trans hw1)).mono fun e w3 ⟨q,k,g1,g2,g3⟩ => ⟨_,g1,g3,q,k,rfl,g2⟩)));rintro u wa wb e0 hK e3 e4 hu;simp only [HF.out] at hu;obtain ⟨qb,kb,rfl,o2⟩ := hu;obtain ⟨v0,v3,f0,f1,f2,f3⟩ := knownC_call hK (j := 5) (d := 26) (by kernel_rfl) rfl rfl rfl rfl Try.func87 rfl (by kernel_rfl) (by simp);rw [HF.out] at f3;obtain ⟨qc,kc,hqc,o1⟩ := f3;have hqd : Value.agg #[.slice qa A1 ka] = .agg #[.slice qc A1 kc] := hqc;simp only [Value.agg.injEq,Array.mk.injEq,List.cons.injEq,Value.slice.injEq,and_true,true_and] at hqd;obtain ⟨rfl,rfl⟩ := hqd)));simp only [Act.put,jai,pu1,pu2,pu3,pu4,pu5])
  | (refine x_run rfl fun K hK w1 hw1 => ?_;have k0 := hw1.cell (y0);go_simp;refine hK _ ?_;clear hK K k0 hw1 w1))
 refine x_nil ?_;obtain ⟨bs1,p1,p2,p3,_⟩ := o1;obtain ⟨bs2,p4,p5,p6,_⟩ := o2;have p7 := p1.lt;have r1 := p1.ext ((f2.trans e3).trans e4);have r2 := p4.ext e4;have s1 := f2.size;have eW := (e1.trans hD).trans hwf;have b3 := b1.ext eW;have b4 := b2.ext eW;have z1 : wf.cell? ⟨w.heap.size + 1,0,none⟩ = some (.slice none 0 0) := b3.cell 0 rfl;have z2 : wf.cell? ⟨w.heap.size + 1 + 1,0,none⟩ = some (.slice none 0 0) := b4.cell 0 rfl;have z3 := b3.froz 0;have z4 := b4.froz 0;go_wp2;refine bodyPost_ret (v := .tuple #[.agg #[.slice qa A1 ka],.agg #[.slice qb m2 kb],.bool true]) (by simp [results,Try.results43,go_sem,z1,z2,z3,z4]) rfl ?_;have ch := (jaw wf (w.heap.size + 1) 0 (.slice qa A1 ka)).mono (S' := fun k => k = w.heap.size + 1 ∨ k = w.heap.size + 1 + 1) (fun k h => .inl h);have ch2 := ch.trans ((jaw (wf.setCell ⟨w.heap.size + 1,0,none⟩ (.slice qa A1 ka)) (w.heap.size + 1 + 1) 0 (.slice qb m2 kb)).mono (fun k h => .inr h));have q1 := f0.size;have q2 := e0.size;have q3 := e1.size;have q4 := hD.size;have lo1 : ∀ b ∈ bs1,W0.heap.size ≤ b := fun b hb => by have := p3 b hb;omega
 have lo2 : ∀ b ∈ bs2,W0.heap.size ≤ b := fun b hb => by have := p6 b hb;omega
 exact ⟨_,bs1,_,bs2,rfl,own_mod (r1.chg ch2 (fun b hb h => by have := lo1 b hb;omega)),own_mod (r2.chg ch2 (fun b hb h => by have := lo2 b hb;omega)),nodup_app p2 p5 (B := wa.heap.size) (fun x hx => by have := p7 x hx;omega) (fun x hx => p6 x hx),fun b hb => by
  rcases List.mem_append.1 hb with h | h
  · have := lo1 b h;omega
  · have := lo2 b h;omega,(E0.trans eW).chg ch2 (fun b hb => by omega)⟩
end Go.Proofs.Ytmbckkcgiafagaa.lSplitModel
namespace Go.Proofs.Ytmbckkcgiafagaa
open Go.RowKit
theorem call_ok {k : Int} {D : List (List Nat)} {W W' : World} {e : Ending} (hk : lReduceLists.okR k D) (h : OutOk W (.sl .flt) (lReduceLists.res k D) e W') : ∃ q c vs,e = .returned (.tuple #[.slice q (redF k D).length c,.bool true]) ∧ Cs W' q vs ∧ F32s vs (redF k D) ∧ Ext W W' := by
 rw [show lReduceLists.res k D = (redF k D,true) by unfold lReduceLists.res;rw [if_pos hk]] at h;obtain ⟨cs,bs,rfl,ow,_,_,e1⟩ := h;obtain ⟨q,c,vs,rfl,h1,h2,_⟩ := jbh.1 ow.rep;exact ⟨q,c,vs,rfl,h1,h2,e1⟩
theorem okR_of {k : Int} {D : List (List Nat)} {N : Nat} (hk : inB k 0 2 = true) (h1 : 1 ≤ D.length) (h8 : D.length ≤ 8) (hE : EvenL D N) (hN : N ≤ 512) : lReduceLists.okR k D := by
 have h0 : lReduceLists.len0 D = N := hE 0 (by omega);refine ⟨hk,h1,h8,by omega,?_⟩;unfold lReduceLists.evenB
 cases h : anyTo (fun i => !decide ((D.getD i []).length = lReduceLists.len0 D)) D.length with
 | false => rfl
 | true =>
   obtain ⟨i,hi,h2⟩ := anyTo_true.1 h;rw [h0,hE i hi] at h2;simp at h2
end Go.Proofs.Ytmbckkcgiafagaa
namespace Go.Proofs.Ytmbckkcgiafagaa.lRunModel
open Go.RowKit
theorem own_heap {w : World} {B te s n c : Nat} {q : Option Addr} {vs : List Value} (h : w.ownsRow B te s (.slice q n c) n vs) {t : TypeId} (hne : te ≠ t) : ∀ b ∈ jac q,∀ Z,w.heap[b]? ≠ some (.cells Z t) := by
 intro b hb Z he
 cases q with
 | none => simp [jac] at hb
 | some a => simp [jac] at hb;subst hb;exact own_tag h he hne _ rfl rfl
theorem outT_ten {w w' : World} {r c : Int} {xs : List Nat} {q : Option Addr} {cp n : Nat} {vs : List Value} {en : Ending} {t : TypeId} (hl : xs.length = n) (h : w'.ownsRow w.heap.size 33 1 (.slice q n cp) n vs) (hf : F32s vs xs) (hne : 33 ≠ t)
 (he : en = .returned (.tuple #[.agg #[.int .i64 r,.int .i64 c,.slice q n cp],.bool true])) (hx : Ext w w') : OutT w t jan ((r,c,xs,()),true) en w' := by
 subst hl;refine ⟨[.int .i64 r,.int .i64 c,.slice q xs.length cp],jac q,he,own_ten rfl (own_flts.2 ⟨q,cp,vs,rfl,ownRow_of h,hf,(jas h).1,(jas h).2,rfl⟩),?_,?_,own_heap h hne,hx⟩
 · cases q <;> simp [jac]
 · intro b hb
   cases q with
   | none => simp [jac] at hb
   | some a => simp [jac] at hb;subst hb;exact jak h _ rfl
theorem outT_no_ten {w : World} {en : Ending} {w' : World} {t : TypeId} (h : en = .returned (.tuple #[.agg #[.int .i64 0,.int .i64 0,.slice none 0 0],.bool false])) (hx : Ext w w') : OutT w t jan ((0,0,[],()),false) en w' :=
 ⟨[.int .i64 0,.int .i64 0,.slice none 0 0],[],h,own_ten rfl own_nil,by simp,by simp,by simp,hx⟩
def res (d : jah.T) (x : jan.T) : jan.T × Bool := if modB d.1 = true ∧ tenB x.1 x.2.1 (x.2.2.1 : List Nat).length = true ∧ x.2.1 = inL d.1 0 then ((x.1,outL d.1,rowsM d.1 x.2.2.1 x.2.1.toNat x.1.toNat,()),true) else ((0,0,[],()),false)
theorem impl_ok (cs0 : List Value) (D0 : jah.T) (cs1 : List Value) (D1 : jan.T) (w : World) (h0 : Rep w jah cs0 D0) (h1 : Rep w jan cs1 D1) (f0 : Fit jah D0) (_ : Fit jan D1) : Calls Try.prog 28 #[ofCs jah cs0,ofCs jan cs1] w (OutT w 27 jan (res D0 D1)) := by
 obtain ⟨L0,u0⟩ := D0;obtain ⟨c0,c1,rfl,k0,rfl⟩ := h0;obtain ⟨p,c,rfl,_⟩ := rep_val k0;obtain ⟨p',c',css,he0,L⟩ := lays_of k0 f0.1
 cases he0
 obtain ⟨q,cq,us,rfl,hp,hf,hcq,hcm⟩ := ten_vals h1;obtain ⟨r,k,xs,_⟩ := D1;dsimp only at hp hf hcq hcm ⊢;simp only [ofCs,Sh.agg,if_true,List.append_nil];have hxm : xs.length ≤ maxLen := Nat.le_trans hcq hcm;unfold res;dsimp only;obtain ⟨W0,hW0⟩ : ∃ W0,W0 = ((w.alloc (.cells #[.slice p L0.length c] 38)).alloc (.cells #[.int .i64 r,.int .i64 k,.slice q xs.length cq] 27)).alloc (.cells #[.int .i64 0,.int .i64 0,.slice none 0 0] 27) := ⟨_,rfl⟩;obtain ⟨E0,s0,b0,b1,b2⟩ := box3 hW0;have a0 : W0.cell? ⟨w.heap.size,0,none⟩ = some (.slice p L0.length c) := jad b0 rfl;have t0 : W0.cell? ⟨w.heap.size + 1,0,none⟩ = some (.int .i64 r) := jad b1 rfl;have t1 : W0.cell? ⟨w.heap.size + 1,1,none⟩ = some (.int .i64 k) := jad b1 rfl;have t2 : W0.cell? ⟨w.heap.size + 1,2,none⟩ = some (.slice q xs.length cq) := jad b1 rfl;have z0 : W0.cell? ⟨w.heap.size + 2,0,none⟩ = some (.int .i64 0) := jad b2 rfl;have z1 : W0.cell? ⟨w.heap.size + 2,1,none⟩ = some (.int .i64 0) := jad b2 rfl;have z2 : W0.cell? ⟨w.heap.size + 2,2,none⟩ = some (.slice none 0 0) := jad b2 rfl;have y0 := fun j => frozen_of_heap b2 (j := j)
 clear b0 b1 b2;have A := hid (fun W (h : Ext W0 W) => ValidModel_any p L0.length c L0 css W L.len L.le (L.cs.ext (E0.trans h)) (L.all.imp fun _ _ => Rep.ext (E0.trans h)) L.size L.cnt);have B := hid (fun W (h : Ext W0 W) => ValidTensor_any r k q xs.length cq W hxm);have D := hid (fun W (h : Ext W0 W) h1 => in_any p L0.length c css L0 W (L.ext (E0.trans h)) h1);have E := hid (fun W (h : Ext W0 W) hM (R C : Nat) (h1 : (C : Int) = inL L0 0) h2 h3 (h4 : xs.length = R * C) => runModel_any p q L0.length c cq R C css L0 us xs W (L.ext (E0.trans h)) hM h1 h2 h3 h4 (by rw [← h4];exact hcq) hcm (hp.ext (E0.trans h)) hf);have hpos : modB L0 = true → 1 ≤ L0.length := fun h => (modOk h).pos
 have HX := hid (rfl : xs.length = xs.length);clear L k0 hp hf hcq hcm h1;generalize hb1 : modB L0 = b1 at *;generalize hb2 : tenB r k xs.length = b2 at *;generalize hn : L0.length = n at *;generalize hm : xs.length = m at *;generalize hi : inL L0 0 = I at *;have HN := hid hn;have HM := hid hm;have HI := hid hi;have HB1 := hid hb1;have HB2 := hid hb2;clear hn hm hi hb1 hb2 hxm HX
 cases b1
 · rw [if_neg (by simp)]
   clear D E;obtain ⟨F,hF⟩ : ∃ F : Option Tmp → World → Value → Prop,F = fun d _ u => match d with | some 7 => u = .bool false | some 11 => u = .bool b2 | _ => u = .int .i64 I := ⟨_,rfl⟩
   have HF := hid hF;clear hF;go_enter Try.func28,Try.ntmps28;go_wp2;rw [← hW0];clear hW0;have eD := Ext.drew W0;have d0 := eD.cell a0;have d1 := eD.cell t0;have d2 := eD.cell t1;have d3 := eD.cell t2;refine jab (F := F) (by kernel_rfl) (by kernel_rfl) (by kernel_rfl) ?_;intro wf hwf
   repeat (first
    | ((first | (refine jav rfl ?_) | (refine x_mv rfl rfl rfl ?_) | (refine x_as rfl rfl rfl ?_) | ((with_reducible show gx12);first | (refine jax (f := 35) (args := #[.agg #[.slice p n c]]) rfl rfl Try.func35 rfl (by kernel_rfl) ?_ ?_ ?_;(focus (simp [Act.eval];done));(focus (intro w1 hw1;exact (by rw [HF.out];exact (A.out w1 (eD.trans hw1)).mono fun e w3 h => ⟨_,h.1,h.2,rfl⟩)));rintro u w3 e3 e4 hu;simp only [HF.out] at hu;subst hu) | (refine jax (f := 69) (args := #[.agg #[.int .i64 r,.int .i64 k,.slice q m cq]]) rfl rfl Try.func69 rfl (by kernel_rfl) ?_ ?_ ?_;(focus (simp [Act.eval];done));(focus (intro w1 hw1;exact (by rw [HF.out];exact (B.out w1 (eD.trans hw1)).mono fun e w3 h => ⟨_,h.1,h.2,rfl⟩)));rintro u w3 e3 e4 hu;simp only [HF.out] at hu;subst hu)));simp only [Act.put,jai,pu1,pu2,pu3,pu4,pu5])
    | (refine x_run rfl fun K hK w1 hw1 => ?_;have k0 := hw1.cell (d0);have k1 := hw1.cell (d1);have k2 := hw1.cell (d2);have k3 := hw1.cell (d3);go_simp;refine hK _ ?_;clear hK K k0 k1 k2 k3 hw1 w1))
   refine x_nil ?_;have eF := eD.trans hwf;have n0 := eF.cell z0;have n1 := eF.cell z1;have n2 := eF.cell z2;have n3 := eF.frozen (p := ⟨w.heap.size + 2,0,none⟩) (by simp;omega) (y0 0);have n4 := eF.frozen (p := ⟨w.heap.size + 2,1,none⟩) (by simp;omega) (y0 1);have n5 := eF.frozen (p := ⟨w.heap.size + 2,2,none⟩) (by simp;omega) (y0 2);have m0 := eF.cell a0;have m1 := eF.cell t0;have m2 := eF.cell t1;have m3 := eF.cell t2;clear z0 z1 z2 y0 a0 t0 t1 t2 d0 d1 d2 d3;go_wp2;refine bodyPost_ret (v := .tuple #[.agg #[.int .i64 0,.int .i64 0,.slice none 0 0],.bool false]) (by simp [results,Try.results28,go_sem,n0,n1,n2,n3,n4,n5]) rfl ?_;exact outT_no_ten rfl (by have := E0.trans eF;(repeat (first | (with_reducible first | exact Ext.refl _ | assumption) | ((with_reducible refine Ext.setCell ?_ ?_ _);rotate_left;focus (first | (simp;done) | (simp;omega))) | (with_reducible first | refine px1 ?_ _ | refine px2 ?_ | refine Ext.trans ?_ (by assumption)))))
 · cases b2
   · rw [if_neg (by simp)]
     clear D E;obtain ⟨F,hF⟩ : ∃ F : Option Tmp → World → Value → Prop,F = fun d _ u => match d with | some 7 => u = .bool true | some 11 => u = .bool false | _ => u = .int .i64 I := ⟨_,rfl⟩
     have HF := hid hF;clear hF;go_enter Try.func28,Try.ntmps28;go_wp2;rw [← hW0];clear hW0;have eD := Ext.drew W0;have d0 := eD.cell a0;have d1 := eD.cell t0;have d2 := eD.cell t1;have d3 := eD.cell t2;refine jab (F := F) (by kernel_rfl) (by kernel_rfl) (by kernel_rfl) ?_;intro wf hwf
     repeat (first
      | ((first | (refine jav rfl ?_) | (refine x_mv rfl rfl rfl ?_) | (refine x_as rfl rfl rfl ?_) | ((with_reducible show gx12);first | (refine jax (f := 35) (args := #[.agg #[.slice p n c]]) rfl rfl Try.func35 rfl (by kernel_rfl) ?_ ?_ ?_;(focus (simp [Act.eval];done));(focus (intro w1 hw1;exact (by rw [HF.out];exact (A.out w1 (eD.trans hw1)).mono fun e w3 h => ⟨_,h.1,h.2,rfl⟩)));rintro u w3 e3 e4 hu;simp only [HF.out] at hu;subst hu) | (refine jax (f := 69) (args := #[.agg #[.int .i64 r,.int .i64 k,.slice q m cq]]) rfl rfl Try.func69 rfl (by kernel_rfl) ?_ ?_ ?_;(focus (simp [Act.eval];done));(focus (intro w1 hw1;exact (by rw [HF.out];exact (B.out w1 (eD.trans hw1)).mono fun e w3 h => ⟨_,h.1,h.2,rfl⟩)));rintro u w3 e3 e4 hu;simp only [HF.out] at hu;subst hu)));simp only [Act.put,jai,pu1,pu2,pu3,pu4,pu5])
      | (refine x_run rfl fun K hK w1 hw1 => ?_;have k0 := hw1.cell (d0);have k1 := hw1.cell (d1);have k2 := hw1.cell (d2);have k3 := hw1.cell (d3);go_simp;refine hK _ ?_;clear hK K k0 k1 k2 k3 hw1 w1))
     refine x_nil ?_;have eF := eD.trans hwf;have n0 := eF.cell z0;have n1 := eF.cell z1;have n2 := eF.cell z2;have n3 := eF.frozen (p := ⟨w.heap.size + 2,0,none⟩) (by simp;omega) (y0 0);have n4 := eF.frozen (p := ⟨w.heap.size + 2,1,none⟩) (by simp;omega) (y0 1);have n5 := eF.frozen (p := ⟨w.heap.size + 2,2,none⟩) (by simp;omega) (y0 2);have m0 := eF.cell a0;have m1 := eF.cell t0;have m2 := eF.cell t1;have m3 := eF.cell t2;clear z0 z1 z2 y0 a0 t0 t1 t2 d0 d1 d2 d3;go_wp2;refine bodyPost_ret (v := .tuple #[.agg #[.int .i64 0,.int .i64 0,.slice none 0 0],.bool false]) (by simp [results,Try.results28,go_sem,n0,n1,n2,n3,n4,n5]) rfl ?_;exact outT_no_ten rfl (by have := E0.trans eF;(repeat (first | (with_reducible first | exact Ext.refl _ | assumption) | ((with_reducible refine Ext.setCell ?_ ?_ _);rotate_left;focus (first | (simp;done) | (simp;omega))) | (with_reducible first | refine px1 ?_ _ | refine px2 ?_ | refine Ext.trans ?_ (by assumption)))))
   · have h1n := hpos rfl
     have hM := modOk HB1.out;have D2 := hid (fun W h => D.out W h h1n);obtain ⟨R,C,e1,e2,hR,hR1,hC,hC1,hmn⟩ := tenB_of HB2.out;subst e1 e2
     by_cases hx : (C : Int) = I
     · rw [if_pos ⟨rfl,rfl,hx⟩]
       subst hx;simp only [Int.toNat_natCast];have G := hid (fun W h => E.out W h hM R C rfl hR1 hC1 hmn);rw [← hmn] at G;have Hmn := hid hmn;have hK : (m : Int) ≤ 256 := by have := Nat.mul_le_mul hR1 hC1;omega
       clear D E hM h1n hmn;generalize hI : (C : Int) = kk at *;have HI2 := hid hI;clear hI;obtain ⟨F,hF⟩ : ∃ F : Option Tmp → World → Value → Prop,F = fun d _ u => match d with | some 7 => u = .bool true | some 11 => u = .bool true | _ => u = .int .i64 kk := ⟨_,rfl⟩
       have HF := hid hF;clear hF;go_enter Try.func28,Try.ntmps28;go_wp2;rw [← hW0];clear hW0;have eD := Ext.drew W0;have d0 := eD.cell a0;have d1 := eD.cell t0;have d2 := eD.cell t1;have d3 := eD.cell t2;refine jab (F := F) (by kernel_rfl) (by kernel_rfl) (by kernel_rfl) ?_;intro wf hwf
       repeat (first
        | ((first | (refine jav rfl ?_) | (refine x_mv rfl rfl rfl ?_) | (refine x_as rfl rfl rfl ?_) | ((with_reducible show gx12);first | (refine jax (f := 35) (args := #[.agg #[.slice p n c]]) rfl rfl Try.func35 rfl (by kernel_rfl) ?_ ?_ ?_;(focus (simp [Act.eval];done));(focus (intro w1 hw1;exact (by rw [HF.out];exact (A.out w1 (eD.trans hw1)).mono fun e w3 h => ⟨_,h.1,h.2,rfl⟩)));rintro u w3 e3 e4 hu;simp only [HF.out] at hu;subst hu) | (refine jax (f := 69) (args := #[.agg #[.int .i64 R,.int .i64 kk,.slice q m cq]]) rfl rfl Try.func69 rfl (by kernel_rfl) ?_ ?_ ?_;(focus (simp [Act.eval];done));(focus (intro w1 hw1;exact (by rw [HF.out];exact (B.out w1 (eD.trans hw1)).mono fun e w3 h => ⟨_,h.1,h.2,rfl⟩)));rintro u w3 e3 e4 hu;simp only [HF.out] at hu;subst hu) | (refine jax (f := 70) (args := #[.agg #[.slice p n c]]) rfl rfl Try.func70 rfl (by kernel_rfl) ?_ ?_ ?_;(focus (simp [Act.eval];done));(focus (intro w1 hw1;exact (by rw [HF.out];exact (D2.out w1 (eD.trans hw1)).mono fun e w3 h => ⟨_,h.1,h.2,rfl⟩)));rintro u w3 e3 e4 hu;simp only [HF.out] at hu;subst hu)));simp only [Act.put,jai,pu1,pu2,pu3,pu4,pu5])
        | (refine x_run rfl fun K hK w1 hw1 => ?_;have k0 := hw1.cell (d0);have k1 := hw1.cell (d1);have k2 := hw1.cell (d2);have k3 := hw1.cell (d3);go_simp;refine hK _ ?_;clear hK K k0 k1 k2 k3 hw1 w1))
       refine x_nil ?_;have eF := eD.trans hwf;have n0 := eF.cell z0;have n1 := eF.cell z1;have n2 := eF.cell z2;have n3 := eF.frozen (p := ⟨w.heap.size + 2,0,none⟩) (by simp;omega) (y0 0);have n4 := eF.frozen (p := ⟨w.heap.size + 2,1,none⟩) (by simp;omega) (y0 1);have n5 := eF.frozen (p := ⟨w.heap.size + 2,2,none⟩) (by simp;omega) (y0 2);have m0 := eF.cell a0;have m1 := eF.cell t0;have m2 := eF.cell t1;have m3 := eF.cell t2;clear a0 t0 t1 t2 d0 d1 d2 d3 A B D2;go_wp2_with fail;refine (G.out _ eF).mono ?_;rintro e w4 ⟨q4,cp4,vs4,rfl,own4,hf4,e4'⟩
       generalize rowsM L0 xs C R = z at *;generalize hz : z.length = zl at *;have HZ := hid hz;clear hz;have hz2 : w.heap.size + 2 < wf.heap.size := lt_of_cell n0;have l0 := e4'.cell n0;have l1 := e4'.cell n1;have l2 := e4'.cell n2;have l3 := e4'.frozen (p := ⟨w.heap.size + 2,0,none⟩) hz2 n3;have l4 := e4'.frozen (p := ⟨w.heap.size + 2,1,none⟩) hz2 n4;have l5 := e4'.frozen (p := ⟨w.heap.size + 2,2,none⟩) hz2 n5;have e5 := E0.trans (eF.trans e4');have s5 := eF.size;clear n0 n1 n2 n3 n4 n5 z0 z1 z2 y0;generalize outL L0 = oL at *;go_wp2;refine bodyPost_ret (v := .tuple #[.agg #[.int .i64 R,.int .i64 oL,.slice q4 zl cp4],.bool true]) (by simp [results,Try.results28,go_sem,l0,l1,l2,l3,l4,l5]) rfl ?_;exact outT_ten HZ.out (ja6 (own_chgB (S := fun k => k = w.heap.size + 2) own4 (by (repeat (first | (with_reducible first | exact Chg.refl _ _ | exact Chg.of_ext (by assumption) | assumption) | ((with_reducible refine Chg.setCell ?_ ?_ _);rotate_left;focus (first | (simp;done) | (simp;omega))) | (with_reducible first | refine Chg.alloc ?_ _ | refine Chg.drew ?_ | refine px3 ?_ (by assumption))))) (fun k hk => by omega)) (by have := E0.size;omega)) hf4 (by decide) rfl (by (repeat (first | (with_reducible first | exact Ext.refl _ | assumption) | ((with_reducible refine Ext.setCell ?_ ?_ _);rotate_left;focus (first | (simp;done) | (simp;omega))) | (with_reducible first | refine px1 ?_ _ | refine px2 ?_ | refine Ext.trans ?_ (by assumption)))))
     · rw [if_neg (fun h => hx h.2.2)]
       have hx2 : ((C : Int) != I) = true := bne_t hx;clear E hM h1n hmn D hx;generalize hI : (C : Int) = kk at *;have HI2 := hid hI;clear hI;obtain ⟨F,hF⟩ : ∃ F : Option Tmp → World → Value → Prop,F = fun d _ u => match d with | some 7 => u = .bool true | some 11 => u = .bool true | _ => u = .int .i64 I := ⟨_,rfl⟩
       have HF := hid hF;clear hF;go_enter Try.func28,Try.ntmps28;go_wp2;rw [← hW0];clear hW0;have eD := Ext.drew W0;have d0 := eD.cell a0;have d1 := eD.cell t0;have d2 := eD.cell t1;have d3 := eD.cell t2;refine jab (F := F) (by kernel_rfl) (by kernel_rfl) (by kernel_rfl) ?_;intro wf hwf
       repeat (first
        | ((first | (refine jav rfl ?_) | (refine x_mv rfl rfl rfl ?_) | (refine x_as rfl rfl rfl ?_) | ((with_reducible show gx12);first | (refine jax (f := 35) (args := #[.agg #[.slice p n c]]) rfl rfl Try.func35 rfl (by kernel_rfl) ?_ ?_ ?_;(focus (simp [Act.eval];done));(focus (intro w1 hw1;exact (by rw [HF.out];exact (A.out w1 (eD.trans hw1)).mono fun e w3 h => ⟨_,h.1,h.2,rfl⟩)));rintro u w3 e3 e4 hu;simp only [HF.out] at hu;subst hu) | (refine jax (f := 69) (args := #[.agg #[.int .i64 R,.int .i64 kk,.slice q m cq]]) rfl rfl Try.func69 rfl (by kernel_rfl) ?_ ?_ ?_;(focus (simp [Act.eval];done));(focus (intro w1 hw1;exact (by rw [HF.out];exact (B.out w1 (eD.trans hw1)).mono fun e w3 h => ⟨_,h.1,h.2,rfl⟩)));rintro u w3 e3 e4 hu;simp only [HF.out] at hu;subst hu) | (refine jax (f := 70) (args := #[.agg #[.slice p n c]]) rfl rfl Try.func70 rfl (by kernel_rfl) ?_ ?_ ?_;(focus (simp [Act.eval];done));(focus (intro w1 hw1;exact (by rw [HF.out];exact (D2.out w1 (eD.trans hw1)).mono fun e w3 h => ⟨_,h.1,h.2,rfl⟩)));rintro u w3 e3 e4 hu;simp only [HF.out] at hu;subst hu)));simp only [Act.put,jai,pu1,pu2,pu3,pu4,pu5])
        | (refine x_run rfl fun K hK w1 hw1 => ?_;have k0 := hw1.cell (d0);have k1 := hw1.cell (d1);have k2 := hw1.cell (d2);have k3 := hw1.cell (d3);go_simp;refine hK _ ?_;clear hK K k0 k1 k2 k3 hw1 w1))
       refine x_nil ?_;have eF := eD.trans hwf;have n0 := eF.cell z0;have n1 := eF.cell z1;have n2 := eF.cell z2;have n3 := eF.frozen (p := ⟨w.heap.size + 2,0,none⟩) (by simp;omega) (y0 0);have n4 := eF.frozen (p := ⟨w.heap.size + 2,1,none⟩) (by simp;omega) (y0 1);have n5 := eF.frozen (p := ⟨w.heap.size + 2,2,none⟩) (by simp;omega) (y0 2);have m0 := eF.cell a0;have m1 := eF.cell t0;have m2 := eF.cell t1;have m3 := eF.cell t2;clear z0 z1 z2 y0 a0 t0 t1 t2 d0 d1 d2 d3;go_wp2;refine bodyPost_ret (v := .tuple #[.agg #[.int .i64 0,.int .i64 0,.slice none 0 0],.bool false]) (by simp [results,Try.results28,go_sem,n0,n1,n2,n3,n4,n5]) rfl ?_;exact outT_no_ten rfl (by have := E0.trans eF;(repeat (first | (with_reducible first | exact Ext.refl _ | assumption) | ((with_reducible refine Ext.setCell ?_ ?_ _);rotate_left;focus (first | (simp;done) | (simp;omega))) | (with_reducible first | refine px1 ?_ _ | refine px2 ?_ | refine Ext.trans ?_ (by assumption)))))
end Go.Proofs.Ytmbckkcgiafagaa.lRunModel
namespace Go.Proofs.Ytmbckkcgiafagaa
open Go.RowKit
def lblB (O : Int) (l : List Int) : Bool := l.all fun n => inB n 0 (O - 1)
abbrev shExamples : Sh := .pr jan (.pr jan (.un))
def exaB (r1 c1 : Int) (n1 : Nat) (r2 c2 : Int) (n2 : Nat) : Bool := tenB r1 c1 n1 && (tenB r2 c2 n2 && decide (r1 = r2))
end Go.Proofs.Ytmbckkcgiafagaa
namespace Go.Proofs.Ytmbckkcgiafagaa.lCountCorrect
open Go.RowKit
def agr (f g : Nat → Nat) : Nat → Nat
 | 0 => 0
 | r + 1 => agr f g r + if f r = g r then 1 else 0
def hitF (l : List jaa.T) (xs : List Nat) (C m r : Nat) : Nat := gi (curF l (rowT xs C r) l.length) m
def hitG (ys : List Nat) (m r : Nat) : Nat := gi (rowT ys m r) m
def okD (d : jah.T) (x : shExamples.T) : Prop := exaB x.1.1 x.1.2.1 (x.1.2.2.1 : List Nat).length x.2.1.1 x.2.1.2.1 (x.2.1.2.2.1 : List Nat).length = true ∧ modB d.1 = true ∧ x.1.2.1 = inL d.1 0 ∧ x.2.1.2.1 = outL d.1
instance (d : jah.T) (x : shExamples.T) : Decidable (okD d x) := by unfold okD;infer_instance
def res (d : jah.T) (x : shExamples.T) : Int × Bool :=
 if okD d x then ((agr (hitF d.1 x.1.2.2.1 x.1.2.1.toNat (outL d.1).toNat) (hitG x.2.1.2.2.1 (outL d.1).toNat) x.1.1.toNat : Nat),true) else (0,false)
theorem res_no {d : jah.T} {x : shExamples.T} (h : ¬ okD d x) : res d x = (0,false) := by unfold res;rw [if_neg h]
end Go.Proofs.Ytmbckkcgiafagaa.lCountCorrect
namespace Go.Proofs.Ytmbckkcgiafagaa
open Go.RowKit
def incT (T : List (List Int)) (a b : Nat) : List (List Int) := T.set a ((T.getD a []).set b ((T.getD a []).getD b 0 + 1))
def tabF (O : Nat) (l : List Int) (g : Nat → Nat) : Nat → List (List Int)
 | 0 => List.replicate O (List.replicate O 0)
 | r + 1 => incT (tabF O l g r) (l.getD r 0).toNat (g r)
def hits (l : List Int) (g : Nat → Nat) : Nat → Int
 | 0 => 0
 | r + 1 => hits l g r + if ((g r : Nat) : Int) = l.getD r 0 then 1 else 0
def bestF (L : List jaa.T) (xs : List Nat) (C m r : Nat) : Nat := gi (curF L (rowT xs C r) L.length) m
def okL (d : jah.T) (x : jan.T) (l : List Int) : Prop := (modB d.1 = true ∧ tenB x.1 x.2.1 (x.2.2.1 : List Nat).length = true ∧ x.2.1 = inL d.1 0) ∧ (l.length : Int) = x.1 ∧ lblB (outL d.1) l = true
instance (d : jah.T) (x : jan.T) (l : List Int) : Decidable (okL d x l) := by unfold okL;infer_instance
-- the slice type is an instance of Ty
instance elInt64SS : ElTy Try.prog 45 (.sl .int) := ⟨by kernel_rfl,by kernel_rfl⟩
end Go.Proofs.Ytmbckkcgiafagaa
namespace Go.Proofs.Ytmbckkcgiafagaa.lConfusionOf
open Go.RowKit
def res (d : jah.T) (x : jan.T) (l : List Int) : List (List Int) × Bool := if okL d x l then (tabF (outL d.1).toNat l (bestF d.1 x.2.2.1 x.2.1.toNat (outL d.1).toNat) l.length,true) else ([],false)
theorem res_no {d : jah.T} {x : jan.T} {l : List Int} (h : ¬ okL d x l) : res d x l = ([],false) := by unfold res;rw [if_neg h]
end Go.Proofs.Ytmbckkcgiafagaa.lConfusionOf
namespace Go.Proofs.Ytmbckkcgiafagaa.lCountLabels
open Go.RowKit
def res (d : jah.T) (x : jan.T) (l : List Int) : Int × Bool := if okL d x l then (hits l (bestF d.1 x.2.2.1 x.2.1.toNat (outL d.1).toNat) l.length,true) else (0,false)
theorem res_no {d : jah.T} {x : jan.T} {l : List Int} (h : ¬ okL d x l) : res d x l = (0,false) := by unfold res;rw [if_neg h]
end Go.Proofs.Ytmbckkcgiafagaa.lCountLabels
