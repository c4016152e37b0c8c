/- A part of the proofs: Cat, Spl, Jn, StHB, WthP. -/
import Derived.Lib.AppendZeros
import Derived.Test.YtmbckkcgiafagaaZ15FnFuse
import Derived.Test.YtmbckkcgiafagaaZ12FnFuse
import Derived.Laws.CopyRow
import Derived.Test.YtmbckkcgiafagaaZ11FnFuse
import Derived.Test.YtmbckkcgiafagaaZ06FnFuse
import Derived.Test.YtmbckkcgiafagaaZ10FnFuse
set_option linter.unusedSimpArgs false
set_option linter.unusedVariables false
set_option maxRecDepth 100000
set_option maxHeartbeats 16000000
namespace Go.Proofs.Ytmbckkcgiafagaa
open Go.RowKit
section
variable {P : Program} {w : World} {ops : Array Oper} {rest : List Oper} {o : Oper} {a : Act} {Q : Exit → Act → World → Prop}
theorem wl_growNil {t tn e s b : Nat} {z : Value} [T : SlTy P t e s z b] {x1 x2 : Operand} {k kn : IntKind} {n : Nat} (hg : o.guard = none) (ho : o.op = .call { callee := .builtin .append,args := #[x1,x2],argTypes := #[t,tn] }) (htn : P.underlying tn = some (.int kn))
 (hx1 : a.eval x1 = .slice none 0 0) (hx2 : a.eval x2 = .int k (n : Int)) (h0 : 0 < n) (hm : n ≤ maxLen) (h48 : n * b ≤ 281474976710656)
 (h : ∀ c w',n ≤ c → w'.ownsRow w.heap.size e s (.slice (some ⟨w.heap.size,0,none⟩) 0 c) 0 [] → Ext w w' → wpList P ops Q rest (a.put o.dst (.slice (some ⟨w.heap.size,0,none⟩) n c)) w') : wpList P ops Q (o :: rest) a w := by
 obtain ⟨ti,hi,hzz⟩ := Option.map_eq_some_iff.1 T.inf;simp only [Prod.mk.injEq] at hzz;have hz := T.zs;have hm' := hm;unfold maxLen at hm';have hr := Lib.run_append_nil_zeros (P := P) w t tn o.type e ti z k kn T.und htn hi hzz.1 n h0 (by rw [hzz.2.1];exact T.pos) (by omega) (by rw [hzz.2.2];exact h48);have hge := grownCap_ge w n 0 e;have hle := grownCap_le_maxLen w n 0 e hm;refine Lib.wpList_append_run w hg x1 x2 t tn ho _ _ hx1 hx2 _ _ hr (h _ _ hge ?_ ((Ext.drew w).trans (Ext.alloc _ _)));refine ⟨by simp,.inr ⟨w.heap.size,_,_,rfl,Nat.le_refl _,heap_alloc_new w.drew _,Nat.zero_le _,hle,?_,by simp⟩⟩;rw [Array.size_append,size_zeroCells,size_zeroCells,hz,← Nat.add_mul]
 congr 1;omega
end
theorem subp0 {b s c : Nat} : subp (some ⟨b,0,none⟩) s 0 c = some ⟨b,0,none⟩ := by
 unfold subp
 split <;> simp [Addr.add_lit]
theorem own_val {w : World} {B te s n : Nat} {v : Value} {xs : List Value} (h : w.ownsRow B te s v n xs) : ∃ q k,v = .slice q n k := by
 rcases h.2 with ⟨rfl,rfl⟩ | ⟨g,cap,cur,rfl,_⟩
 · exact ⟨none,0,rfl⟩
 · exact ⟨_,_,rfl⟩
theorem growLay_any (n : Nat) (hn : n ≤ 16777216) (w : World) : Calls Try.prog 133 #[.slice none 0 0,.int .i64 (n : Int)] w fun e w' => ∃ q k,e = .returned (.slice q 0 k) ∧ w'.ownsRow w.heap.size 41 jaa.sz (.slice q 0 k) 0 [] ∧ Ext w w' := by
 by_cases h0 : 0 < n
 · go_enter Try.func133,Try.ntmps133
   go_wp2_with (first | ((with_reducible show wpList _ _ _ (Oper.mk _ (Op.slice _ _ _ _ _) _ _ _ _ :: _) _ _);refine wl_sliceTo (u := 0) rfl rfl rfl rfl rfl (by omega) ?_) | ((with_reducible show gx8);refine wl_growNil (kn := .i64) (n := n) rfl rfl (by kernel_rfl) rfl rfl h0 (by unfold maxLen;omega) (by omega) ?_;intro c w1 hc own1 e1));go_ret;refine ⟨_,_,rfl,?_,e1⟩;rw [subp0];exact own1
 · obtain rfl : n = 0 := by omega
   go_enter Try.func133,Try.ntmps133;go_wp2;go_ret;exact ⟨none,0,rfl,⟨rfl,.inl ⟨rfl,rfl⟩⟩,Ext.refl _⟩
theorem concatLay_any (b : Nat) (p0 p1 : Option Addr) (n0 c0 n1 c1 : Nat) (css0 css1 : List (List Value)) (L0 L1 : List jaa.T) (w : World) (h0 : Lays w p0 n0 css0 L0) (h1 : Lays w p1 n1 css1 L1) (k0 : n0 ≤ c0) (k1 : n1 ≤ c1) (hn : n0 + n1 ≤ 16777216) (hb : HB w b #[.slice p0 n0 c0,.slice p1 n1 c1] 36) :
 Calls Try.prog 88 #[.slice (some ⟨b,0,none⟩) 2 2] w fun e w' => ∃ q k,e = .returned (.slice q (n0 + n1) k) ∧ w'.ownsRow w.heap.size 41 jaa.sz (.slice q (n0 + n1) k) (n0 + n1) (css0.flatten ++ css1.flatten) ∧ Ext w w' := by
 have G := hid (fun W => growLay_any (n0 + n1) hn W);rw [Int.natCast_add] at G;have z0 : w.cell? ⟨b,0,none⟩ = some (.slice p0 n0 c0) := hb.cell 0 rfl;have z1 : w.cell? ⟨b,1,none⟩ = some (.slice p1 n1 c1) := hb.cell 1 rfl;have x0 := h0.cs;have x1 := h1.cs;have y0 : css0.flatten.length = n0 * jaa.sz := by rw [flat_len' h0.size,h0.cnt]
 have y1 : css1.flatten.length = n1 * jaa.sz := by rw [flat_len' h1.size,h1.cnt]
 have Y0 := hid y0;have Y1 := hid y1;have o0 := hid (fun u (hu : u ∈ css0.flatten) => by obtain ⟨c,hc,h⟩ := List.mem_flatten.1 hu;exact h0.one c hc u h);have o1 := hid (fun u (hu : u ∈ css1.flatten) => by obtain ⟨c,hc,h⟩ := List.mem_flatten.1 hu;exact h1.one c hc u h);clear h0 h1 hb y0 y1;generalize css0.flatten = us0 at *;generalize css1.flatten = us1 at *;have q1 : IntKind.i64.wrap ((n0 : Int) + (n1 : Int)) = ((n0 + n1 : Nat) : Int) := by rw [← Int.natCast_add];exact jao _ (by omega) (by omega)
 go_enter Try.func88,Try.ntmps88;go_wp2_with fail;go_loopw [3,11] (fun sv iv wr => ∃ (i s : Nat),((i = 0 ∧ s = 0) ∨ (i = 1 ∧ n0 = s) ∨ (i = 2 ∧ n0 + n1 = s)) ∧ iv = .int .i64 i ∧ sv = .int .i64 (s : Nat) ∧ w = wr) (fun _ iv _ => 2 - (intOf iv).toNat)
 case atStart => exact ⟨0,0,.inl ⟨rfl,rfl⟩,rfl,rfl,rfl⟩
 case round =>
  obtain ⟨i,s,hi,rfl,rfl,rfl⟩ := hrel;rcases hi with ⟨rfl,rfl⟩ | ⟨rfl,rfl⟩ | ⟨rfl,rfl⟩
  · go_wp2
    go_roundw
    case rel => exact ⟨1,n0,by simp,by go_num,by go_num,by first | rfl | trivial | simp⟩
    case measure => simp [intOf]
  · go_wp2
    go_roundw
    case rel => exact ⟨2,n0 + n1,by simp,by go_num,by go_num,by first | rfl | trivial | simp⟩
    case measure => simp [intOf]
  · go_wp2_with (go_at_call 133;refine (G.out _).mono ?_;rintro e w2 ⟨q,k,rfl,own2,e2⟩)
    go_loopw [6,27] (fun av iv wr => ∃ (i m : Nat) (us : List Value) (v : Value),((i = 0 ∧ m = 0 ∧ us = []) ∨ (i = 1 ∧ n0 = m ∧ us0 = us) ∨ (i = 2 ∧ n0 + n1 = m ∧ us0 ++ us1 = us)) ∧ iv = .int .i64 i ∧ av = v ∧ wr.ownsRow w.heap.size 41 jaa.sz v m us ∧ Ext w wr) (fun _ iv _ => 2 - (intOf iv).toNat)
    case atStart => exact ⟨0,0,[],_,.inl ⟨rfl,rfl,rfl⟩,rfl,rfl,own2,e2⟩
    case round =>
     clear own2 e2;obtain ⟨i,m,us,v,hi,rfl,rfl,own3,e3⟩ := hrel;have z2 := e3.cell z0;have z3 := e3.cell z1;rcases hi with ⟨rfl,rfl,rfl⟩ | ⟨rfl,rfl,rfl⟩ | ⟨rfl,rfl,rfl⟩
     · go_wp2_with ((with_reducible show gx8);refine wl_appz rfl rfl rfl rfl own3 (x0.ext e3) Y0.out k0 o0.out (by unfold maxLen;omega) (by omega) e3.size ?_;intro v' w1 own1 g1)
       go_roundw
       case rel => exact ⟨1,_,_,_,.inr (.inl ⟨rfl,rfl,rfl⟩),by go_num,rfl,by simpa using own1,e3.grown g1 (fun kk hk => jah own3 kk hk)⟩
       case measure => simp [intOf]
     · go_wp2_with ((with_reducible show gx8);refine wl_appz rfl rfl rfl rfl own3 (x1.ext e3) Y1.out k1 o1.out (by unfold maxLen;omega) (by omega) e3.size ?_;intro v' w1 own1 g1)
       go_roundw
       case rel => exact ⟨2,_,_,_,.inr (.inr ⟨rfl,rfl,rfl⟩),by go_num,rfl,own1,e3.grown g1 (fun kk hk => jah own3 kk hk)⟩
       case measure => simp [intOf]
     · go_wp2
       go_ret;obtain ⟨q,k,rfl⟩ := own_val own3;exact ⟨q,k,rfl,own3,e3⟩
theorem small_of {L : List jaa.T} (h : ModOk L) : Small L := by
 refine ⟨by have := h.few;omega,fun d hd => ?_⟩;obtain ⟨i,hi,rfl⟩ := List.mem_iff_getElem.1 hd;have hl := h.lay i hi;unfold layD layB at hl;simp only [Bool.and_eq_true,decide_eq_true_eq,jas,Bool.or_eq_true] at hl;obtain ⟨h1,h2,h3,h4,h5,h6⟩ := hl;have hm := mul_bd h2 h3;unfold wCnt at h5;unfold bCnt at h6;refine ⟨?_,?_⟩
 · split at h5
   · omega
   · split at h5
     · omega
     · split at h5 <;> omega
 · split at h6
   · omega
   · split at h6
     · omega
     · split at h6 <;> omega
theorem small_take {L : List jaa.T} (h : Small L) (k : Nat) : Small (L.take k) := ⟨by rw [List.length_take];have := h.1;omega,fun d hd => h.2 d (List.mem_of_mem_take hd)⟩
theorem small_drop {L : List jaa.T} (h : Small L) (k : Nat) : Small (L.drop k) := ⟨by rw [List.length_drop];have := h.1;omega,fun d hd => h.2 d (List.mem_of_mem_drop hd)⟩
theorem lays_sub {w : World} {p : Option Addr} {n c a b : Nat} {css : List (List Value)} {L : List jaa.T} (h : Lays w p n css L) (hc : n ≤ c) (h1 : a ≤ b) (h2 : b ≤ n) : Lays w (subp p jaa.sz a c) (b - a) ((css.take b).drop a) ((L.take b).drop a) := by
 refine ⟨?_,?_,fun x hx => h.size x (List.mem_of_mem_take (List.mem_of_mem_drop hx)),fun x hx => h.one x (List.mem_of_mem_take (List.mem_of_mem_drop hx)),?_,?_,fun x hx => h.fit x (List.mem_of_mem_take (List.mem_of_mem_drop hx)),by have := h.le;omega⟩
 · have h3 := h.cs.sub (s := 5) (l := a) (hi := b) (c := c) h1 (by omega)
   have hs : ∀ x ∈ css,x.length = 5 := h.size
   have e1 : css.flatten.take (b * 5) = (css.take b).flatten := by
    have h4 : (css.take b).flatten.length = b * 5 := by
     rw [flat_len' (fun x hx => hs x (List.mem_of_mem_take hx)),List.length_take,h.cnt,Nat.min_eq_left h2]
    conv => lhs;rw [← List.take_append_drop b css,List.flatten_append]
    rw [← h4,List.take_left]
   have e2 : (css.take b).flatten.drop (a * 5) = ((css.take b).drop a).flatten := by
    have h4 : ((css.take b).take a).flatten.length = a * 5 := by
     rw [flat_len' (fun x hx => hs x (List.mem_of_mem_take (List.mem_of_mem_take hx))),List.length_take,List.length_take,h.cnt]
     congr 1;omega
    conv => lhs;rw [← List.take_append_drop a (css.take b),List.flatten_append]
    rw [← h4,List.drop_left]
   rw [e1,e2] at h3;exact h3
 · have : ∀ {us : List (List Value)} {bs : List jaa.T},All2 (Rep w jaa) us bs → All2 (Rep w jaa) ((us.take b).drop a) ((bs.take b).drop a) := by
    intro us bs hu;refine All2.of_get (by rw [List.length_drop,List.length_drop,List.length_take,List.length_take,hu.length]) fun i x y hx hy => ?_
    rw [List.getElem?_drop,List.getElem?_take] at hx hy
    split at hx
    · rename_i hi
      rw [if_pos hi] at hy;exact hu.toGet _ _ _ hx hy
    · cases hx
   exact this h.all
 · rw [List.length_drop,List.length_take,h.len,Nat.min_eq_left h2]
 · rw [List.length_drop,List.length_take,h.cnt,Nat.min_eq_left h2]
end Go.Proofs.Ytmbckkcgiafagaa
namespace Go.Proofs.Ytmbckkcgiafagaa.lSplitModel
open Go.RowKit
def okS (d : jag.T) (a : Int) : Prop := modB d.1 = true ∧ inB a 1 ((d.1.length : Int) - 1) = true
instance (d : jag.T) (a : Int) : Decidable (okS d a) := by unfold okS;infer_instance
def res (d : jag.T) (a : Int) : jag.T × jag.T × Bool := if okS d a then ((d.1.take a.toNat,()),(d.1.drop a.toNat,()),true) else (([],()),([],()),false)
theorem res_no {d : jag.T} {a : Int} (h : ¬ okS d a) : res d a = (([],()),([],()),false) := by unfold res;rw [if_neg h]
theorem own_mod {w : World} {q : Option Addr} {n k : Nat} {L : List jaa.T} {bs : List Nat} (h : Own w (.sl jaa) [.slice q n k] L bs) : Own w jag [.slice q n k] (L,()) bs := ⟨[.slice q n k],[],bs,[],rfl,h,⟨rfl,rfl⟩,by simp⟩
theorem out2_no {w w' : World} {e : Ending} (h : e = .returned (.tuple #[.agg #[.slice none 0 0],.agg #[.slice none 0 0],.bool false])) (hx : Ext w w') : Out2 w jag jag (([],()),([],()),false) e w' :=
 ⟨[.slice none 0 0],[],[.slice none 0 0],[],h,own_mod own_nil,own_mod own_nil,by simp,by simp,hx⟩
theorem impl_ok (cs0 : List Value) (D0 : jag.T) (a : Int) (w : World) (h0 : Rep w jag cs0 D0) (f0 : Fit jag D0) (_ : Fit .int a) : Calls Try.prog 43 #[ofCs jag cs0,.int .i64 a] w (Out2 w jag jag (res D0 a)) := by
 obtain ⟨L0,u0⟩ := D0;obtain ⟨c0,c1,rfl,k0,rfl⟩ := h0;obtain ⟨p,c,rfl,_⟩ := rep_val k0;obtain ⟨p',c',css,he0,L⟩ := lays_of k0 f0.1
 cases he0
 have hnc : L0.length ≤ c := by
  obtain ⟨_,_,_,h1,_,h3,_⟩ := k0
  cases h1;exact h3
 simp only [ofCs,Sh.agg,if_true,List.append_nil];obtain ⟨W0,hW0⟩ : ∃ W0,W0 = ((w.alloc (.cells #[.slice p L0.length c] 38)).alloc (.cells #[.slice none 0 0] 38)).alloc (.cells #[.slice none 0 0] 38) := ⟨_,rfl⟩;obtain ⟨E0,s0,b0,b1,b2⟩ := box3 hW0;have a0 : W0.cell? ⟨w.heap.size,0,none⟩ = some (.slice p L0.length c) := jai b0 rfl;have b1 : HB W0 (w.heap.size + 1) #[.slice none 0 0] 38 := b1;have b2 : HB W0 (w.heap.size + 1 + 1) #[.slice none 0 0] 38 := b2;have A := hid (fun W (h : Ext W0 W) => jbk p L0.length c L0 css W L.len L.le (L.cs.ext (E0.trans h)) (L.all.imp fun _ _ => Rep.ext (E0.trans h)) L.size L.cnt);have B := hid (fun W => jau a 1 ((L0.length : Int) - 1) W);have hlm : L0.length ≤ maxLen := L.le;unfold maxLen at hlm;have q1 : IntKind.i64.wrap ((L0.length : Int) - 1) = (L0.length : Int) - 1 := jao _ (by omega) (by omega)
 cases hb0 : modB L0
 · rw [res_no (fun h => by have := h.1;dsimp only at this;rw [hb0] at this;cases this)]
   rw [hb0] at A;clear k0 L f0 B b0;generalize L0.length = n0 at *;go_enter Try.func43,Try.ntmps43;go_wp2_with fail;rw [← hW0];clear hW0;refine (A.out _ (Ext.refl _)).mono ?_;rintro e w1 ⟨rfl,e1⟩
   have g1 : w1.cell? ⟨w.heap.size + 1,0,none⟩ = some (.slice none 0 0) := (b1.ext e1).cell 0 rfl;have g2 : w1.cell? ⟨w.heap.size + 1 + 1,0,none⟩ = some (.slice none 0 0) := (b2.ext e1).cell 0 rfl;have g3 := (b1.ext e1).froz 0;have g4 := (b2.ext e1).froz 0;go_wp2;refine bodyPost_ret (v := .tuple #[.agg #[.slice none 0 0],.agg #[.slice none 0 0],.bool false]) (by simp [results,Try.results43,go_sem,g1,g2,g3,g4]) rfl ?_;exact out2_no rfl (by have := E0.trans e1;(repeat (first | (with_reducible first | exact Ext.refl _ | assumption) | ((with_reducible refine Ext.setCell ?_ ?_ _);rotate_left;focus (first | (simp;done) | (simp;omega))) | (with_reducible first | refine px1 ?_ _ | refine px2 ?_ | refine Ext.trans ?_ (by assumption)))))
 rw [hb0] at A;have hM := modOk hb0;have hS := small_of hM
 cases hb1 : inB a 1 ((L0.length : Int) - 1)
 · rw [res_no (fun h => by have := h.2;dsimp only at this;rw [hb1] at this;cases this)]
   rw [hb1] at B;have x0 := a0;clear k0 L f0 b0 hM hS;generalize L0.length = n0 at *;go_enter Try.func43,Try.ntmps43;go_wp2_with fail;rw [← hW0];clear hW0;refine (A.out _ (Ext.refl _)).mono ?_;rintro e w1 ⟨rfl,e1⟩
   have x0 := e1.cell a0;have g1 : w1.cell? ⟨w.heap.size + 1,0,none⟩ = some (.slice none 0 0) := (b1.ext e1).cell 0 rfl;have g2 : w1.cell? ⟨w.heap.size + 1 + 1,0,none⟩ = some (.slice none 0 0) := (b2.ext e1).cell 0 rfl;have g3 := (b1.ext e1).froz 0;have g4 := (b2.ext e1).froz 0;go_wp2_with (go_at_call 57;refine (B.out _).mono ?_;rintro e w2 ⟨rfl,rfl⟩);refine bodyPost_ret (v := .tuple #[.agg #[.slice none 0 0],.agg #[.slice none 0 0],.bool false]) (by simp [results,Try.results43,go_sem,g1,g2,g3,g4]) rfl ?_;exact out2_no rfl (by have := E0.trans e1;(repeat (first | (with_reducible first | exact Ext.refl _ | assumption) | ((with_reducible refine Ext.setCell ?_ ?_ _);rotate_left;focus (first | (simp;done) | (simp;omega))) | (with_reducible first | refine px1 ?_ _ | refine px2 ?_ | refine Ext.trans ?_ (by assumption)))))
 rw [hb1] at B;have hok : okS (L0,u0) a := ⟨hb0,hb1⟩;rw [jas] at hb1;obtain ⟨A1,rfl⟩ := Int.eq_ofNat_of_zero_le (show 0 ≤ a by omega);have hres : res (L0,u0) (A1 : Int) = ((L0.take A1,()),(L0.drop A1,()),true) := by unfold res;rw [if_pos hok];rfl
 rw [hres];have hA1 : A1 ≤ L0.length := by omega
 have G1 := hid (fun W (h : Ext W0 W) => copyModel_any (subp p jaa.sz 0 c) (A1 - 0) (c - 0) _ _ W (lays_sub (L.ext (E0.trans h)) hnc (Nat.zero_le A1) hA1) (small_drop (small_take hS A1) 0));have G2 := hid (fun W (h : Ext W0 W) => copyModel_any (subp p jaa.sz A1 c) (L0.length - A1) (c - A1) _ _ W (lays_sub (L.ext (E0.trans h)) hnc hA1 (Nat.le_refl _)) (small_drop (small_take hS L0.length) A1));rw [List.drop_zero,Nat.sub_zero,Nat.sub_zero] at G1;rw [List.take_of_length_le (Nat.le_refl L0.length)] at G2;clear k0 L f0 b0 hM hS hok hres hb0;generalize L0.take A1 = P1 at *;generalize L0.drop A1 = P2 at *;generalize L0.length = n0 at *;have ⟨m2,hm2⟩ : ∃ m,m = n0 - A1 := ⟨_,rfl⟩;rw [← hm2] at G2;have Hm2 := hid hm2;clear hm2;obtain ⟨F,hF⟩ : ∃ F : Option Tmp → World → World → Value → Prop,F = fun d w0 W u => match d with | some 26 => ∃ q k,u = .agg #[.slice q A1 k] ∧ jbu [41,33] w0.heap.size (.sl jaa) W [.slice q A1 k] P1 | _ => ∃ q k,u = .agg #[.slice q m2 k] ∧ jbu [41,33] w0.heap.size (.sl jaa) W [.slice q m2 k] P2 := ⟨_,rfl⟩
 have HF := hid hF;clear hF;go_enter Try.func43,Try.ntmps43;go_wp2_with fail;rw [← hW0];clear hW0;refine (A.out _ (Ext.refl _)).mono ?_;rintro e w1 ⟨rfl,e1⟩
 have x0 := e1.cell a0;go_wp2_with (go_at_call 57;refine (B.out _).mono ?_;rintro e w2 ⟨rfl,rfl⟩);have hD := Ext.drew w1;have y0 := hD.cell x0;have hWD := e1.trans hD;refine wp_region_yt 12 (F := F) (by kernel_rfl) (by kernel_rfl) (by kernel_rfl) (by kernel_rfl) (by kernel_rfl) ?_;intro wf hwf;simp only [pw1,pw2,pw3,pw4]
 repeat (first
  | ((first | (refine jar rfl ?_) | (refine x_mv rfl rfl rfl ?_) | (refine x_as rfl rfl rfl ?_) | ((with_reducible show wpX _ _ _ _ _ _ (Oper.mk _ (Op.slice _ _ _ _ _) _ _ _ _ :: _) _);refine x_sliceTo (u := A1) rfl rfl rfl rfl rfl (by omega) ?_;rw [Nat.sub_zero,Nat.sub_zero]) | ((with_reducible show wpX _ _ _ _ _ _ (Oper.mk _ (Op.slice _ _ _ _ _) _ _ _ _ :: _) _);refine x_sliceFrom (l := A1) rfl rfl rfl rfl rfl (by omega) (by omega) ?_;rw [← Hm2.out]) | ((with_reducible show gx6);first | (refine y_callK (f := 87) (args := #[.agg #[.slice (subp p jaa.sz 0 c) A1 c]]) rfl rfl Try.func87 rfl (by kernel_rfl) ?_ ?_ ?_;(focus (simp [Act.eval];done));(focus (intro w1 hw1 hK;exact (by rw [HF.out];exact (G1.out w1 (hWD.trans hw1)).mono fun e w3 ⟨q,k,g1,g2,g3⟩ => ⟨_,g1,g3,q,k,rfl,g2⟩)));rintro u wa wb e0 hK e3 e4 hu;simp only [HF.out] at hu;obtain ⟨qa,ka,rfl,_⟩ := hu) | (refine y_callK (f := 87) (args := #[.agg #[.slice (subp p jaa.sz A1 c) m2 (c - A1)]]) rfl rfl Try.func87 rfl (by kernel_rfl) ?_ ?_ ?_;(focus (simp [Act.eval];done));(focus (intro w1 hw1 hK;exact (by rw [HF.out];exact (G2.out w1 (hWD.trans hw1)).mono fun e w3 ⟨q,k,g1,g2,g3⟩ => ⟨_,g1,g3,q,k,rfl,g2⟩)));rintro u wa wb e0 hK e3 e4 hu;simp only [HF.out] at hu;obtain ⟨qb,kb,rfl,o2⟩ := hu;obtain ⟨v0,v3,f0,f1,f2,f3⟩ := knownC_call hK (j := 5) (d := 26) (by kernel_rfl) rfl rfl rfl rfl Try.func87 rfl (by kernel_rfl) (by simp);rw [HF.out] at f3;obtain ⟨qc,kc,hqc,o1⟩ := f3;have hqd : Value.agg #[.slice qa A1 ka] = .agg #[.slice qc A1 kc] := hqc;simp only [Value.agg.injEq,Array.mk.injEq,List.cons.injEq,Value.slice.injEq,and_true,true_and] at hqd;obtain ⟨rfl,rfl⟩ := hqd)));simp only [Act.put,jad,pu1,pu2,pu3,pu4,pu5])
  | (refine ja7 rfl fun K hK w1 hw1 => ?_;have k0 := hw1.cell (y0);go_simp;refine hK _ ?_;clear hK K k0 hw1 w1))
 refine ja6 ?_;obtain ⟨bs1,p1,p2,p3,_⟩ := o1;obtain ⟨bs2,p4,p5,p6,_⟩ := o2;have p7 := p1.lt;have r1 := p1.ext ((f2.trans e3).trans e4);have r2 := p4.ext e4;have s1 := f2.size;have eW := (e1.trans hD).trans hwf;have b3 := b1.ext eW;have b4 := b2.ext eW;have z1 : wf.cell? ⟨w.heap.size + 1,0,none⟩ = some (.slice none 0 0) := b3.cell 0 rfl;have z2 : wf.cell? ⟨w.heap.size + 1 + 1,0,none⟩ = some (.slice none 0 0) := b4.cell 0 rfl;have z3 := b3.froz 0;have z4 := b4.froz 0;go_wp2;refine bodyPost_ret (v := .tuple #[.agg #[.slice qa A1 ka],.agg #[.slice qb m2 kb],.bool true]) (by simp [results,Try.results43,go_sem,z1,z2,z3,z4]) rfl ?_;have ch := (jaj wf (w.heap.size + 1) 0 (.slice qa A1 ka)).mono (S' := fun k => k = w.heap.size + 1 ∨ k = w.heap.size + 1 + 1) (fun k h => .inl h);have ch2 := ch.trans ((jaj (wf.setCell ⟨w.heap.size + 1,0,none⟩ (.slice qa A1 ka)) (w.heap.size + 1 + 1) 0 (.slice qb m2 kb)).mono (fun k h => .inr h));have q1 := f0.size;have q2 := e0.size;have q3 := e1.size;have q4 := hD.size;have lo1 : ∀ b ∈ bs1,W0.heap.size ≤ b := fun b hb => by have := p3 b hb;omega
 have lo2 : ∀ b ∈ bs2,W0.heap.size ≤ b := fun b hb => by have := p6 b hb;omega
 exact ⟨_,bs1,_,bs2,rfl,own_mod (r1.chg ch2 (fun b hb h => by have := lo1 b hb;omega)),own_mod (r2.chg ch2 (fun b hb h => by have := lo2 b hb;omega)),nodup_app p2 p5 (B := wa.heap.size) (fun x hx => by have := p7 x hx;omega) (fun x hx => p6 x hx),fun b hb => by
  rcases List.mem_append.1 hb with h | h
  · have := lo1 b h;omega
  · have := lo2 b h;omega,(E0.trans eW).chg ch2 (fun b hb => by omega)⟩
end Go.Proofs.Ytmbckkcgiafagaa.lSplitModel
namespace Go.Proofs.Ytmbckkcgiafagaa
open Go.RowKit
theorem All2.app {A B : Type} {R : A → B → Prop} : ∀ {a : List A} {b : List B} {c : List A} {d : List B},All2 R a b → All2 R c d → All2 R (a ++ c) (b ++ d) := by
 intro a b c d h k;refine All2.of_get (by rw [List.length_append,List.length_append,h.length,k.length]) fun i x y hx hy => ?_
 have hl := h.length;rcases Nat.lt_or_ge i a.length with hi | hi
 · rw [List.getElem?_append_left hi] at hx
   rw [List.getElem?_append_left (by omega)] at hy;exact h.toGet _ _ _ hx hy
 · rw [List.getElem?_append_right hi] at hx
   rw [List.getElem?_append_right (by omega)] at hy;rw [← hl] at hy;exact k.toGet _ _ _ hx hy
theorem lays_app {w : World} {p0 p1 q : Option Addr} {n0 n1 : Nat} {css0 css1 : List (List Value)} {L0 L1 : List jaa.T} (h0 : Lays w p0 n0 css0 L0) (h1 : Lays w p1 n1 css1 L1) (hc : Cs w q (css0.flatten ++ css1.flatten)) (hn : n0 + n1 ≤ maxLen) : Lays w q (n0 + n1) (css0 ++ css1) (L0 ++ L1) :=
 ⟨by rw [List.flatten_append];exact hc,h0.all.app h1.all,fun c hc => by
  rcases List.mem_append.1 hc with h | h
  · exact h0.size c h
  · exact h1.size c h,fun c hc => by
  rcases List.mem_append.1 hc with h | h
  · exact h0.one c h
  · exact h1.one c h,by rw [List.length_append,h0.len,h1.len],by rw [List.length_append,h0.cnt,h1.cnt],fun c hc => by
  rcases List.mem_append.1 hc with h | h
  · exact h0.fit c h
  · exact h1.fit c h,hn⟩
theorem own_ne {w : World} {B te t s n g : Nat} {v : Value} {xs : List Value} {Z : Array Value} (h : w.ownsRow B te s v n xs) (hb : HB w g Z t) (ht : te ≠ t) : v.ownBlock ≠ some g := by
 rcases h.2 with ⟨rfl,_⟩ | ⟨g',cap,cur,rfl,_,hh,_⟩
 · simp [Value.ownBlock]
 · intro he
   have : g' = g := by simpa [Value.ownBlock] using he
   subst this;unfold HB at hb;rw [hb] at hh
   injection hh with hh
   injection hh with _ hh
   exact ht hh.symm
end Go.Proofs.Ytmbckkcgiafagaa
namespace Go.Proofs.Ytmbckkcgiafagaa.lJoinModels
open Go.RowKit
open Go.Proofs.Ytmbckkcgiafagaa.lSplitModel (own_mod)
def ok (a b : jag.T) : Bool := modB a.1 && (modB b.1 && modB (a.1 ++ b.1))
def res (a b : jag.T) : jag.T × Bool := if ok a b then ((a.1 ++ b.1,()),true) else (([],()),false)
theorem res_no {a b : jag.T} (h : ok a b = false) : res a b = (([],()),false) := by unfold res;rw [h];rfl
theorem res_yes {a b : jag.T} (h : ok a b = true) : res a b = ((a.1 ++ b.1,()),true) := by unfold res;rw [h];rfl
theorem tot_flts : ∀ (l : List Nat),tot (.sl .flt) l = l.length := fun l => by
 have : ∀ (z : List Nat),(z.map (tot .flt)).sum = 0 := by intro z;induction z with | nil => rfl | cons a z ih => rw [List.map_cons,List.sum_cons,ih];rfl
 rw [tot,this];rfl
theorem tot_lay (d : jaa.T) : tot jaa d = (d.2.2.2.1 : List Nat).length + (d.2.2.2.2.1 : List Nat).length := by
 have h1 : tot jaa d = 0 + (0 + (0 + (tot (.sl .flt) d.2.2.2.1 + (tot (.sl .flt) d.2.2.2.2.1 + 0)))) := rfl;rw [h1,tot_flts,tot_flts];omega
theorem tot_small {L : List jaa.T} (h : Small L) : tot (.sl jaa) L ≤ 12 + 12 * 128 := by
 have h1 : ∀ (l : List jaa.T),(∀ d ∈ l,(d.2.2.2.1 : List Nat).length ≤ 64 ∧ (d.2.2.2.2.1 : List Nat).length ≤ 64) → (l.map (tot jaa)).sum ≤ l.length * 128 := by
  intro l
  induction l with
  | nil => intro _;simp
  | cons d l ih =>
    intro hl;have h2 := ih fun x hx => hl x (by simp [hx])
    have h3 := hl d (by simp);rw [List.map_cons,List.sum_cons,List.length_cons,tot_lay];omega
 have h4 := h1 L h.2;have h5 := h.1;have h6 : tot (.sl jaa) L = L.length + (L.map (tot jaa)).sum := rfl;omega
theorem len_le {d : jag.T} (h : tot jag d ≤ 1048576) : d.1.length ≤ 1048576 := by
 have h2 : tot jag d = d.1.length + (d.1.map (tot jaa)).sum + 0 := rfl;omega
theorem outT_no {w w' : World} {t : TypeId} {e : Ending} (h : e = .returned (.tuple #[.agg #[.slice none 0 0],.bool false])) (hx : Ext w w') : OutT w t jag (([],()),false) e w' :=
 ⟨[.slice none 0 0],[],h,own_mod own_nil,by simp,by simp,by simp,hx⟩
theorem impl_ok (cs0 : List Value) (D0 : jag.T) (cs1 : List Value) (D1 : jag.T) (w : World) (h0 : Rep w jag cs0 D0) (h1 : Rep w jag cs1 D1) (f0 : Fit jag D0) (f1 : Fit jag D1) (t0 : tot jag D0 ≤ 1048576) (t1 : tot jag D1 ≤ 1048576) : Calls Try.prog 44 #[ofCs jag cs0,ofCs jag cs1] w (OutT w 38 jag (res D0 D1)) := by
 have hn0 := len_le t0;have hn1 := len_le t1;clear t0 t1;obtain ⟨L0,u0⟩ := D0;obtain ⟨L1,u1⟩ := D1;dsimp only at hn0 hn1;obtain ⟨x0,x0',rfl,k0,rfl⟩ := h0;obtain ⟨p0,c0,rfl,_⟩ := rep_val k0;obtain ⟨p0',c0',css0,he0,M0⟩ := lays_of k0 f0.1
 cases he0
 have hc0 : L0.length ≤ c0 := by
  obtain ⟨_,_,_,h1,_,h3,_⟩ := k0
  cases h1;exact h3
 obtain ⟨x1,x1',rfl,k1,rfl⟩ := h1;obtain ⟨p1,c1,rfl,_⟩ := rep_val k1;obtain ⟨p1',c1',css1,he1,M1⟩ := lays_of k1 f1.1
 cases he1
 have hc1 : L1.length ≤ c1 := by
  obtain ⟨_,_,_,h1,_,h3,_⟩ := k1
  cases h1;exact h3
 have M0 : Lays w p0 L0.length css0 L0 := M0;have M1 : Lays w p1 L1.length css1 L1 := M1;simp only [ofCs,Sh.agg,if_true,List.append_nil];obtain ⟨W0,hW0⟩ : ∃ W0,W0 = ((w.alloc (.cells #[.slice p0 L0.length c0] 38)).alloc (.cells #[.slice p1 L1.length c1] 38)).alloc (.cells #[.slice none 0 0] 38) := ⟨_,rfl⟩;obtain ⟨E0,s0,b0,b1,b2⟩ := box3 hW0;have a0 : W0.cell? ⟨w.heap.size,0,none⟩ = some (.slice p0 L0.length c0) := jai b0 rfl;have a1 : W0.cell? ⟨w.heap.size + 1,0,none⟩ = some (.slice p1 L1.length c1) := jai b1 rfl;have b2 : HB W0 (w.heap.size + 1 + 1) #[.slice none 0 0] 38 := b2;have A1 := hid (fun W (h : Ext W0 W) => jbk p0 L0.length c0 L0 css0 W M0.len M0.le (M0.cs.ext (E0.trans h)) (M0.all.imp fun _ _ => Rep.ext (E0.trans h)) M0.size M0.cnt);have A2 := hid (fun W (h : Ext W0 W) => jbk p1 L1.length c1 L1 css1 W M1.len M1.le (M1.cs.ext (E0.trans h)) (M1.all.imp fun _ _ => Rep.ext (E0.trans h)) M1.size M1.cnt);have LA := hid (fun W q (h : Ext W0 W) hc => lays_app (q := q) (M0.ext (E0.trans h)) (M1.ext (E0.trans h)) hc (by unfold maxLen;omega));have A3 := hid (fun W q k (h : Ext W0 W) hc => jbk q (L0.length + L1.length) k (L0 ++ L1) (css0 ++ css1) W (LA.out W q h hc).len (LA.out W q h hc).le (LA.out W q h hc).cs (LA.out W q h hc).all (LA.out W q h hc).size (LA.out W q h hc).cnt);have G := hid (fun b W (h : Ext W0 W) hb => concatLay_any b p0 p1 _ c0 _ c1 css0 css1 L0 L1 W (M0.ext (E0.trans h)) (M1.ext (E0.trans h)) hc0 hc1 (by omega) hb);have CP := hid (fun W q k (h : Ext W0 W) hc hS => copyModel_any q (L0.length + L1.length) k (css0 ++ css1) (L0 ++ L1) W (LA.out W q h hc) hS);have b5 := HB.new W0 #[.slice p0 L0.length c0,.slice p1 L1.length c1] 36;obtain ⟨W1,hW1⟩ : ∃ W1,W1 = W0.alloc (.cells #[.slice p0 L0.length c0,.slice p1 L1.length c1] 36) := ⟨_,rfl⟩;rw [← hW1] at b5;have E1 : Ext W0 W1 := by subst hW1;exact Ext.alloc _ _
 rw [s0] at b5;have G2 := hid (G.out _ W1 E1 b5);have NO := hid (fun (h : ok (L0,u0) (L1,u1) = false) => res_no h);have YES := hid (fun (h : ok (L0,u0) (L1,u1) = true) => res_yes h);have hok : ok (L0,u0) (L1,u1) = (modB L0 && (modB L1 && modB (L0 ++ L1))) := rfl;have SM := hid (fun (h : modB (L0 ++ L1) = true) => small_of (modOk h));rw [hok] at NO YES;clear G k0 k1 f0 f1 b0 b1 M0 M1 hok LA;generalize L0.length = n0 at *;generalize L1.length = n1 at *
 cases hv0 : modB L0
 · rw [NO.out (by simp [hv0])]
   rw [hv0] at A1;clear CP SM NO YES hv0;clear A2 A3;go_enter Try.func44,Try.ntmps44;go_wp2_with fail;rw [← hW0,← hW1];refine G2.out.mono ?_;rintro e w2 ⟨q,k,rfl,own2,e2⟩
   have E2 := E1.trans e2;have E3 := E2.trans (Ext.alloc w2 (.cells #[.slice q (n0 + n1) k] 38));have X0 := E3.cell a0;have X1 := E3.cell a1;have X6 : (w2.alloc (.cells #[.slice q (n0 + n1) k] 38)).cell? ⟨w2.heap.size,0,none⟩ = some (.slice q (n0 + n1) k) := (HB.new _ _ _).cell 0 rfl;have hcs := (jbc own2).ext (Ext.alloc w2 (.cells #[.slice q (n0 + n1) k] 38));clear own2;go_wp2_with fail;refine (A1.out _ E3).mono ?_;rintro e w3 ⟨rfl,e3⟩
   have E4 := E3.trans e3;have Y1 := e3.cell X1;have Y6 := e3.cell X6;have hb2 := b2.ext E4;have g1 : w3.cell? ⟨w.heap.size + 1 + 1,0,none⟩ = some (.slice none 0 0) := hb2.cell 0 rfl;have g3 := hb2.froz 0;go_wp2;refine bodyPost_ret (v := .tuple #[.agg #[.slice none 0 0],.bool false]) (by simp [results,Try.results44,go_sem,g1,g3]) rfl ?_;exact outT_no rfl (by have := E0.trans E4;(repeat (first | (with_reducible first | exact Ext.refl _ | assumption) | ((with_reducible refine Ext.setCell ?_ ?_ _);rotate_left;focus (first | (simp;done) | (simp;omega))) | (with_reducible first | refine px1 ?_ _ | refine px2 ?_ | refine Ext.trans ?_ (by assumption)))))
 cases hv1 : modB L1
 · rw [NO.out (by simp [hv0,hv1])]
   rw [hv0] at A1;rw [hv1] at A2;clear CP SM NO YES hv0 hv1;clear A3;go_enter Try.func44,Try.ntmps44;go_wp2_with fail;rw [← hW0,← hW1];refine G2.out.mono ?_;rintro e w2 ⟨q,k,rfl,own2,e2⟩
   have E2 := E1.trans e2;have E3 := E2.trans (Ext.alloc w2 (.cells #[.slice q (n0 + n1) k] 38));have X0 := E3.cell a0;have X1 := E3.cell a1;have X6 : (w2.alloc (.cells #[.slice q (n0 + n1) k] 38)).cell? ⟨w2.heap.size,0,none⟩ = some (.slice q (n0 + n1) k) := (HB.new _ _ _).cell 0 rfl;have hcs := (jbc own2).ext (Ext.alloc w2 (.cells #[.slice q (n0 + n1) k] 38));clear own2;go_wp2_with fail;refine (A1.out _ E3).mono ?_;rintro e w3 ⟨rfl,e3⟩
   have E4 := E3.trans e3;have Y1 := e3.cell X1;have Y6 := e3.cell X6;go_wp2_with fail;refine (A2.out _ E4).mono ?_;rintro e w4 ⟨rfl,e4⟩
   have E5 := E4.trans e4;have Z6 := e4.cell Y6;have hb2 := b2.ext E5;have g1 : w4.cell? ⟨w.heap.size + 1 + 1,0,none⟩ = some (.slice none 0 0) := hb2.cell 0 rfl;have g3 := hb2.froz 0;go_wp2;refine bodyPost_ret (v := .tuple #[.agg #[.slice none 0 0],.bool false]) (by simp [results,Try.results44,go_sem,g1,g3]) rfl ?_;exact outT_no rfl (by have := E0.trans E5;(repeat (first | (with_reducible first | exact Ext.refl _ | assumption) | ((with_reducible refine Ext.setCell ?_ ?_ _);rotate_left;focus (first | (simp;done) | (simp;omega))) | (with_reducible first | refine px1 ?_ _ | refine px2 ?_ | refine Ext.trans ?_ (by assumption)))))
 cases hv2 : modB (L0 ++ L1)
 · rw [NO.out (by simp [hv0,hv1,hv2])]
   rw [hv0] at A1;rw [hv1] at A2;rw [hv2] at A3;clear CP SM NO YES hv0 hv1 hv2;go_enter Try.func44,Try.ntmps44;go_wp2_with fail;rw [← hW0,← hW1];refine G2.out.mono ?_;rintro e w2 ⟨q,k,rfl,own2,e2⟩
   have E2 := E1.trans e2;have E3 := E2.trans (Ext.alloc w2 (.cells #[.slice q (n0 + n1) k] 38));have X0 := E3.cell a0;have X1 := E3.cell a1;have X6 : (w2.alloc (.cells #[.slice q (n0 + n1) k] 38)).cell? ⟨w2.heap.size,0,none⟩ = some (.slice q (n0 + n1) k) := (HB.new _ _ _).cell 0 rfl;have hcs := (jbc own2).ext (Ext.alloc w2 (.cells #[.slice q (n0 + n1) k] 38));clear own2;go_wp2_with fail;refine (A1.out _ E3).mono ?_;rintro e w3 ⟨rfl,e3⟩
   have E4 := E3.trans e3;have Y1 := e3.cell X1;have Y6 := e3.cell X6;go_wp2_with fail;refine (A2.out _ E4).mono ?_;rintro e w4 ⟨rfl,e4⟩
   have E5 := E4.trans e4;have Z6 := e4.cell Y6;go_wp2_with fail;refine (A3.out _ q k E5 ((hcs.ext e3).ext e4)).mono ?_;rintro e w5 ⟨rfl,e5⟩
   have E6 := E5.trans e5;have hb2 := b2.ext E6;have g1 : w5.cell? ⟨w.heap.size + 1 + 1,0,none⟩ = some (.slice none 0 0) := hb2.cell 0 rfl;have g3 := hb2.froz 0;go_wp2;refine bodyPost_ret (v := .tuple #[.agg #[.slice none 0 0],.bool false]) (by simp [results,Try.results44,go_sem,g1,g3]) rfl ?_;exact outT_no rfl (by have := E0.trans E6;(repeat (first | (with_reducible first | exact Ext.refl _ | assumption) | ((with_reducible refine Ext.setCell ?_ ?_ _);rotate_left;focus (first | (simp;done) | (simp;omega))) | (with_reducible first | refine px1 ?_ _ | refine px2 ?_ | refine Ext.trans ?_ (by assumption)))))
 · rw [YES.out (by simp [hv0,hv1,hv2])]
   have CQ := hid (fun W q k h hc => CP.out W q k h hc (SM.out hv2));rw [hv0] at A1;rw [hv1] at A2;rw [hv2] at A3;clear CP SM NO YES hv0 hv1 hv2;go_enter Try.func44,Try.ntmps44;go_wp2_with fail;rw [← hW0,← hW1];refine G2.out.mono ?_;rintro e w2 ⟨q,k,rfl,own2,e2⟩
   have E2 := E1.trans e2;have E3 := E2.trans (Ext.alloc w2 (.cells #[.slice q (n0 + n1) k] 38));have X0 := E3.cell a0;have X1 := E3.cell a1;have X6 : (w2.alloc (.cells #[.slice q (n0 + n1) k] 38)).cell? ⟨w2.heap.size,0,none⟩ = some (.slice q (n0 + n1) k) := (HB.new _ _ _).cell 0 rfl;have hcs := (jbc own2).ext (Ext.alloc w2 (.cells #[.slice q (n0 + n1) k] 38));clear own2;go_wp2_with fail;refine (A1.out _ E3).mono ?_;rintro e w3 ⟨rfl,e3⟩
   have E4 := E3.trans e3;have Y1 := e3.cell X1;have Y6 := e3.cell X6;go_wp2_with fail;refine (A2.out _ E4).mono ?_;rintro e w4 ⟨rfl,e4⟩
   have E5 := E4.trans e4;have Z6 := e4.cell Y6;go_wp2_with fail;refine (A3.out _ q k E5 ((hcs.ext e3).ext e4)).mono ?_;rintro e w5 ⟨rfl,e5⟩
   have E6 := E5.trans e5;have V6 := e5.cell Z6;go_wp2_with fail;refine (CQ.out _ q k E6 (((hcs.ext e3).ext e4).ext e5)).mono ?_;rintro e w6 ⟨q9,k9,rfl,o9,e6⟩
   have E7 := E6.trans e6;have hb2 := b2.ext E7;have g1 : w6.cell? ⟨w.heap.size + 1 + 1,0,none⟩ = some (.slice none 0 0) := hb2.cell 0 rfl;have g3 := hb2.froz 0;have s6 := E6.size;go_wp2;refine bodyPost_ret (v := .tuple #[.agg #[.slice q9 (n0 + n1) k9],.bool true]) (by simp [results,Try.results44,go_sem,g1,g3]) rfl ?_;have ch := jaj w6 (w.heap.size + 1 + 1) 0 (.slice q9 (n0 + n1) k9);obtain ⟨bs,o1,o2,o3,o4⟩ := jbu.chg o9 ch (fun b hb => by omega);exact ⟨_,bs,rfl,own_mod o1,o2,fun b hb => by have := o3 b hb;omega,o4.no (by decide),(E0.trans E7).chg ch (fun b hb => by omega)⟩
end Go.Proofs.Ytmbckkcgiafagaa.lJoinModels
namespace Go.Proofs.Ytmbckkcgiafagaa
open Go.RowKit
theorem chg_row (w : World) (g : Nat) (cs : Array Value) : Chg (fun k => k = g) w (w.setRow g cs) := ⟨rfl,rfl,rfl,by simp,fun k _ hn => setRow_other w g k cs hn⟩
section
variable {P : Program} {w : World} {ops : Array Oper} {rest : List Oper} {o : Oper} {a : Act} {Q : Exit → Act → World → Prop}
theorem wl_stHBs {t : TypeId} {s : Sh} [T : ElTy P t s] {x y : Operand} (hgd : o.guard = none) (ho : o.op = .store t x y) {g j : Nat} {Z : Array Value} {e : TypeId} {cs : List Value} (hx : a.eval x = .pointer (some ⟨g,j,none⟩)) (hy : a.eval y = ofCs s cs) (hg : HB w g Z e) (hl : cs.length = s.sz) (h1 : ∀ u ∈ cs,u.oneCell' = true) (hj : j + s.sz ≤ Z.size)
 {Z' : Array Value} (hZ : (Z.toList.take j ++ cs ++ Z.toList.drop (j + cs.length)).toArray = Z')
 (h : ∀ w',HB w' g Z' e → Chg (fun b => b = g) w w' → wpList P ops Q rest (a.put o.dst undef) w') : wpList P ops Q (o :: rest) a w := by
 have h2 := run_storeCells_at P g j e cs 0 Z w hg (by rw [Nat.add_zero,hl];exact hj) h1;rw [Nat.add_zero,hZ] at h2;obtain ⟨i,hi,hz⟩ := Option.map_eq_some_iff.1 T.inf;have hcells := ofCs_cells hl h1;refine wl_skip hgd (w' := w.setRow g Z') ?_ (h _ (setRow_heap w g Z Z' e (0,0) hg) (chg_row w g Z'));simp [execOp,ho,hx,hy,Instr.storeAt,Instr.sureAddr,storeVar,sizeOf,typeInfo,hi,hz,hcells,hl,h2]
end
theorem Chg.cut {S S' : Nat → Prop} {w w' : World} (h : Chg S' w w') (hs : ∀ b,S' b → S b ∨ w.heap.size ≤ b) : Chg S w w' :=
 ⟨h.os,h.tape,h.output,h.size,fun k hk hn => h.block k hk fun h' => by
  rcases hs k h' with h1 | h1
  · exact hn h1
  · omega⟩
end Go.Proofs.Ytmbckkcgiafagaa
