/- A part of the proofs: F32, Mem2, Har, Fwd. -/
import Derived.Test.YtlimabbeaimdgaaGreatZ02Shared
import Derived.Lib.AppendStr
import Derived.Test.YtlimabbeaimdgaaGreatZ01Shared
set_option linter.unusedSimpArgs false
set_option linter.unusedVariables false
set_option maxRecDepth 100000
set_option maxHeartbeats 16000000
namespace Go.Proofs.YtlimabbeaimdgaaGreat
open Go.RowKit
theorem order_self {k : FloatKind} {x : Nat} (h : (k.decode x).isNaN = false) : k.format.order x x = some .eq := by
 unfold Ieee.Format.order;rw [jdg]
 cases hd : k.decode x with
 | nan s f => rw [hd] at h;simp [Ieee.Datum.isNaN] at h
 | infinity s => simp [Ieee.Datum.order]
 | number s m e => simp [Ieee.Datum.order]
theorem order_nan {k : FloatKind} {x : Nat} (h : (k.decode x).isNaN = true) (y : Nat) : k.format.order x y = none := by
 unfold Ieee.Format.order;rw [jdg,jdg];exact order_nan_l h
theorem isNaN_of_cn {k : FloatKind} {x y : Nat} (h : cn k x = cn k y) : (k.decode x).isNaN = (k.decode y).isNaN := by
 rw [← isNaN_cn k x,h,isNaN_cn]
theorem eq_of_cn {k : FloatKind} {x y : Nat} (h : cn k x = cn k y) (hx : (k.decode x).isNaN = false) : x = y := by
 have hy : (k.decode y).isNaN = false := by rw [← isNaN_of_cn h];exact hx
 rw [cn_not hx,cn_not hy] at h;exact h
theorem order_of_cn {k : FloatKind} {x x' y : Nat} (h : cn k x = cn k x') : k.format.order x y = k.format.order x' y := by
 rw [← order_cn k x y,h,order_cn]
theorem sameFloat_true (a b : Nat) (w : World) (h : cn .f64 a = cn .f64 b) :
 Calls Tryz.prog 24 #[.float .f64 a,.float .f64 b] w fun e w' => e = .returned (.bool true) ∧ Ext w w' := by
 by_cases hn : (FloatKind.f64.decode a).isNaN = true
 · have ha : (FloatKind.f64.format.order a a != some .eq) = true := by rw [order_nan hn];rfl
   have hb : (FloatKind.f64.format.order b b != some .eq) = true := by rw [order_nan (by rw [← isNaN_of_cn h];exact hn)];rfl
   clear h hn;go_enter Tryz.func24,Tryz.ntmps24;go_wp2;go_ret;exact ⟨rfl,Ext.refl _⟩
 · have hn' : (FloatKind.f64.decode a).isNaN = false := by simpa using hn
   obtain rfl := eq_of_cn h hn';have ha : (FloatKind.f64.format.order a a != some .eq) = false := by rw [order_self hn'];rfl
   have ha2 : (FloatKind.f64.format.order a a == some .eq) = true := by rw [order_self hn'];rfl
   clear h hn hn'
   by_cases hz : (FloatKind.f64.format.order a 0 == some .eq) = true
   · go_enter Tryz.func24,Tryz.ntmps24
     go_wp2_with (refine wl_fop rfl rfl rfl rfl rfl ?_;intro r1 w1 e1 hr1;have Hr1 := hid hr1;clear hr1)
     rename_i r0 w0 e0 H0
     have hg : FloatKind.f64.format.order r1 0 = FloatKind.f64.format.order r0 0 := order_of_cn (by rw [Hr1.out,H0.out]);go_ret;refine ⟨jc6 ?_,e0.trans e1⟩;rw [hg];simp
   · have hz' : (FloatKind.f64.format.order a 0 == some .eq) = false := by simpa using hz
     go_enter Tryz.func24,Tryz.ntmps24;go_wp2;go_ret;exact ⟨rfl,Ext.refl _⟩
theorem F32s.get {vs : List Value} {xs : List Nat} (h : F32s vs xs) {i : Nat} (hi : i < xs.length) : ∃ b,vs[i]? = some (.float .f32 b) ∧ cn .f32 b = xs.getD i 0 := h.2 i hi
theorem F32s.nil : F32s [] [] := ⟨rfl,fun i hi => by simp at hi⟩
theorem toFloat32S_any (p : Option Addr) (n c : Nat) (vs : List Value) (xs : List Nat) (w : World) (hx : xs.length = n) (hn : n ≤ 1073741824) (hc : Cs w p vs) (hf : F32s vs xs) :
 Calls Tryz.prog 34 #[.slice p n c] w fun e w' => ∃ g,e = .returned (.slice (some ⟨g,0,none⟩) n n) ∧ w'.ownsRow w.heap.size 48 1 (.slice (some ⟨g,0,none⟩) n n) n vs ∧ Ext w w' := by
 have Hx := hid hx;have Hv := hid (hf.1.trans hx);clear hx;go_enter Tryz.func34,Tryz.ntmps34;go_wp2_with (refine wl_make w.heap.size n rfl rfl rfl rfl (by unfold maxLen;omega) (by omega) (Nat.le_refl _) ?_;intro g w1 own1 e1);go_loopw [4] (fun iv wr => ∃ (i : Nat) (us : List Value),i ≤ n ∧ iv = .int .i64 i ∧ wr.ownsRow w.heap.size 48 1 (.slice (some ⟨g,0,none⟩) n n) n us ∧ Hid (us.length = n) ∧ Hid (∀ j,j < i → us[j]? = vs[j]?) ∧ Ext w wr) (fun iv _ => n - (intOf iv).toNat)
 case atStart => exact ⟨0,_,by omega,rfl,own1,own1.1.trans (Nat.mul_one n),fun j hj => by omega,e1⟩
 case round =>
  clear own1 e1;obtain ⟨i,us,hi,rfl,own1,Hu,Hall,e1⟩ := hrel
  by_cases hlt : i < n
  · obtain ⟨b,hb,_⟩ := hf.get (i := i) (by rw [Hx.out];exact hlt)
    have Hb := hid hb;clear hb;have hcw := hc.ext e1;go_wp2_with (first | (refine jaw rfl rfl rfl rfl (fun _ => rfl) rfl rfl hcw Hv.out (by omega) (by omega) ?_;intro u hu;rw [Int.toNat_natCast,Hb.out] at hu;cases hu) | (refine wl_idxstore (u := .float .f32 b) rfl rfl rfl rfl (fun _ => rfl) rfl rfl (fun _ => rfl) rfl own1 (by omega) (by omega) ?_;intro w2 own2 g2));go_roundw
    case rel =>
     refine ⟨i + 1,_,by omega,by go_num,own2,by rw [Hid,List.length_set];exact Hu.out,fun j hj => ?_,e1.grown g2 (fun k hk => (jar own1 k hk))⟩;rw [Int.toNat_natCast,List.getElem?_set]
     by_cases hji : i = j
     · subst hji;rw [if_pos rfl,if_pos (by rw [Hu.out];exact hlt),Hb.out]
     · rw [if_neg hji];exact Hall j (by omega)
    case measure => simp [intOf];omega
  · obtain rfl : i = n := by omega
    go_wp2;go_ret
    have : us = vs := by
     apply List.ext_getElem?;intro j
     by_cases hj : j < i
     · exact Hall j hj
     · rw [List.getElem?_eq_none (by rw [Hu.out];omega),List.getElem?_eq_none (by rw [Hv.out];omega)]
    subst this;exact ⟨g,rfl,own1,e1⟩
theorem jc3 : Tryz.prog.underlying 52 = some (.float .f64) := by kernel_rfl
theorem eqFloat32S_true (p q : Option Addr) (n c d : Nat) (us vs : List Value) (xs : List Nat) (w : World) (hx : xs.length = n) (hn : n ≤ 1073741824) (hp : Cs w p us) (hq : Cs w q vs) (hu : F32s us xs) (hv : F32s vs xs) :
 Calls Tryz.prog 13 #[.slice p n c,.slice q n d] w fun e w' => e = .returned (.bool true) ∧ Ext w w' := by
 have Hx := hid hx;clear hx;go_enter Tryz.func13,Tryz.ntmps13;go_wp2;go_loopw [5] (fun iv wr => ∃ i : Nat,i ≤ n ∧ iv = .int .i64 i ∧ Ext w wr) (fun iv _ => n - (intOf iv).toNat)
 case atStart => exact ⟨0,by omega,rfl,Ext.refl w⟩
 case round =>
  obtain ⟨i,hi,rfl,he⟩ := hrel
  by_cases hlt : i < n
  · have hp' := (hp.ext he).ext (Ext.drew wr)
    have hq' := (hq.ext he).ext (Ext.drew wr);go_wp2_with fail;refine jaf (F := fun _ _ u => u = .bool true) (by kernel_rfl) (by kernel_rfl) (by kernel_rfl) ?_;intro wf hwf;refine x_mv rfl rfl rfl ?_;simp only [Act.put,jab,pu1,pu2,pu3,pu4,pu5];refine x_mv rfl rfl rfl ?_;simp only [Act.put,jab,pu1,pu2,pu3,pu4,pu5];refine x_ldF rfl rfl (fun _ => rfl) rfl (fun _ => rfl) rfl rfl (hp') (hu) (Hx.out) (by omega) (by omega) ?_;intro r1 h1;simp only [Act.put,jab,pu1,pu2,pu3,pu4,pu5];refine x_conv rfl rfl rfl (by kernel_rfl) jc3 (fover_widen _) ?_;intro r2 h2;simp only [Act.put,jab,pu1,pu2,pu3,pu4,pu5];refine x_mv rfl rfl rfl ?_;simp only [Act.put,jab,pu1,pu2,pu3,pu4,pu5];refine x_mv rfl rfl rfl ?_;simp only [Act.put,jab,pu1,pu2,pu3,pu4,pu5];refine x_ldF rfl rfl (fun _ => rfl) rfl (fun _ => rfl) rfl rfl (hq') (hv) (Hx.out) (by omega) (by omega) ?_;intro r3 h3;simp only [Act.put,jab,pu1,pu2,pu3,pu4,pu5];refine x_conv rfl rfl rfl (by kernel_rfl) jc3 (fover_widen _) ?_;intro r4 h4;simp only [Act.put,jab,pu1,pu2,pu3,pu4,pu5];have hcn : cn .f64 r2 = cn .f64 r4 := by rw [h2,h4,h1,h3]
    refine jam (f := 24) (args := #[.float .f64 r2,.float .f64 r4]) rfl rfl Tryz.func24 rfl (by kernel_rfl) (by simp [Act.eval]) (fun w1 hw1 => (sameFloat_true r2 r4 w1 hcn).mono fun e w3 h => ⟨_,h.1,h.2,rfl⟩) ?_;rintro u w3 _ _ rfl
    simp only [Act.put,jab,pu1,pu2,pu3,pu4,pu5];refine ja3 rfl fun K hK w1 _ => ?_
    go_simp;refine hK _ ?_;clear hK K;refine ja4 ?_;have he' := (he.trans (Ext.drew wr)).trans hwf;clear hwf hp' hq' he h1 h2 h3 h4 hcn;go_wp2;go_roundw
    case rel => exact ⟨i + 1,by omega,by go_num,he'⟩
    case measure => simp [intOf];omega
  · obtain rfl : i = n := by omega
    go_wp2;go_ret;exact ⟨rfl,he⟩
def marksF (k : Int) (n : Nat) : List Nat := (List.range n).map fun (i : Nat) => FloatKind.f32.nearest (k + i)
theorem jc0 (k : Int) (n : Nat) : (marksF k n).length = n := by simp [marksF]
theorem marksF_getD (k : Int) (n i : Nat) (h : i < n) : (marksF k n).getD i 0 = FloatKind.f32.nearest (k + i) := by simp [marksF,h]
def markVs (k : Int) (n : Nat) : List Value := (List.range n).map fun (i : Nat) => Value.float .f32 (FloatKind.f32.nearest (k + i))
theorem markVs_flts (k : Int) (n : Nat) : F32s (markVs k n) (marksF k n) :=
 ⟨by simp [markVs,marksF],fun i hi => by
  rw [jc0] at hi;exact ⟨FloatKind.f32.nearest (k + i),by simp [markVs,hi],by rw [marksF_getD k n i hi,cn_nearest]⟩⟩
theorem markFloat32S_own (p : Option Addr) (n c : Nat) (k : Int) (vs : List Value) (w : World) (hv : vs.length = n) (hn : n ≤ 1073741824) (hk0 : 0 ≤ k) (hk : k ≤ 4611686018427387904) (hown : jbg w p n c vs) :
 Calls Tryz.prog 19 #[.slice p n c,.int .i64 k] w fun e w' => e = .returned (.int .i64 (k + n)) ∧ jbg w' p n c (markVs k n) ∧ Chg (fun b => b ∈ jak p) w w' := by
 have Hv := hid hv;clear hv;go_enter Tryz.func19,Tryz.ntmps19;go_wp2;go_loopw [1,5] (fun kv iv wr => ∃ (i : Nat) (us : List Value),i ≤ n ∧ iv = .int .i64 i ∧ kv = .int .i64 (k + i) ∧ Hid (us.length = n) ∧ Hid (∀ j,j < i → us[j]? = (markVs k n)[j]?) ∧ jbg wr p n c us ∧ Chg (fun b => b ∈ jak p) w wr) (fun _ iv _ => n - (intOf iv).toNat)
 case atStart => exact ⟨0,vs,by omega,rfl,by go_num,Hv.out,fun j hj => by omega,hown,Chg.refl _ _⟩
 case round =>
  clear hown;obtain ⟨i,us,hi,rfl,rfl,Hu,Hall,hown,hch⟩ := hrel
  by_cases hlt : i < n
  · go_wp2_with (refine wl_stRow (u := .float .f32 (FloatKind.f32.nearest (k + i))) rfl rfl rfl rfl (fun _ => rfl) rfl rfl (fun _ => rfl) rfl hown Hu.out (by omega) (by omega) ?_;intro w1 own1 g1)
    go_roundw
    case rel =>
     refine ⟨i + 1,_,by omega,by go_num,by go_num,by rw [Hid,List.length_set];exact Hu.out,fun j hj => ?_,own1,hch.trans g1⟩;rw [Int.toNat_natCast,List.getElem?_set]
     by_cases hji : i = j
     · subst hji;rw [if_pos rfl,if_pos (by rw [Hu.out];exact hlt)];simp [markVs,hlt]
     · rw [if_neg hji];exact Hall j (by omega)
    case measure => simp [intOf];omega
  · obtain rfl : i = n := by omega
    go_wp2;go_ret
    have : us = markVs k i := by
     apply List.ext_getElem?;intro j
     by_cases hj : j < i
     · exact Hall j hj
     · rw [List.getElem?_eq_none (by rw [Hu.out];omega),List.getElem?_eq_none (by simp [markVs];omega)]
    subst this;exact ⟨rfl,hown,hch⟩
theorem heldFloat32S_any (p : Option Addr) (n c : Nat) (k : Int) (vs : List Value) (w : World) (hn : n ≤ 1073741824) (hk0 : 0 ≤ k) (hk : k ≤ 4611686018427387904) (hp : Cs w p vs) (hf : F32s vs (marksF k n)) :
 Calls Tryz.prog 21 #[.slice p n c,.int .i64 k] w fun e w' => e = .returned (.int .i64 (k + n)) ∧ Ext w w' := by
 have Hl := hid (jc0 k n);go_enter Tryz.func21,Tryz.ntmps21;go_wp2;go_loopw [1,5] (fun kv iv wr => ∃ i : Nat,i ≤ n ∧ iv = .int .i64 i ∧ kv = .int .i64 (k + i) ∧ Ext w wr) (fun _ iv _ => n - (intOf iv).toNat)
 case atStart => exact ⟨0,by omega,rfl,by go_num,Ext.refl w⟩
 case round =>
  obtain ⟨i,hi,rfl,rfl,he⟩ := hrel
  by_cases hlt : i < n
  · have hp' := hp.ext he
    obtain ⟨b,hb,hcb⟩ := hf.get (i := i) (by rw [Hl.out];exact hlt);rw [marksF_getD k n i hlt] at hcb;have hbe : b = FloatKind.f32.nearest (k + i) := eq_of_cn (hcb.trans (cn_nearest .f32 _).symm) (by rw [isNaN_of_cn (hcb.trans (cn_nearest .f32 _).symm)];exact nearest_not .f32 _);have ho : (FloatKind.f32.format.order b (floatOfInt .f32 (k + i)) != some .eq) = false := by rw [hbe];show (FloatKind.f32.format.order (FloatKind.f32.nearest (k + i)) (FloatKind.f32.nearest (k + i)) != some .eq) = false;rw [order_self (nearest_not .f32 _)];rfl
    have Hb := hid hb;have Hv := hid (hf.1.trans Hl.out);clear hbe hcb hb;go_wp2_with (refine jaw rfl rfl rfl rfl (fun _ => rfl) rfl rfl hp' Hv.out (by omega) (by omega) ?_;intro u hu;rw [Int.toNat_natCast,Hb.out] at hu;cases hu);go_roundw
    case rel => exact ⟨i + 1,by omega,by go_num,by go_num,he⟩
    case measure => simp [intOf];omega
  · obtain rfl : i = n := by omega
    go_wp2;go_ret;exact ⟨rfl,he⟩
def Left (left tot : Int) (e : Ending) : Prop := ∃ r : Int,e = .returned (.int .i64 r) ∧ (r < 0 ∨ (r = left - tot ∧ 0 ≤ r))
theorem szFloat32S_any (p : Option Addr) (n c : Nat) (left : Int) (w : World) (hn : n ≤ maxLen) (h0 : 0 ≤ left) (h1 : left ≤ 1048576) :
 Calls Tryz.prog 31 #[.slice p n c,.int .i64 left] w fun e w' => Left left n e ∧ Ext w w' := by
 unfold maxLen at hn
 by_cases h : left < n
 · go_enter Tryz.func31,Tryz.ntmps31
   go_wp2;go_ret;exact ⟨⟨-1,rfl,.inl (by omega)⟩,Ext.refl _⟩
 · go_enter Tryz.func31,Tryz.ntmps31
   go_wp2;go_ret;exact ⟨⟨_,rfl,.inr ⟨rfl,by omega⟩⟩,Ext.refl _⟩
section
variable {P : Program} {w : World} {ops : Array Oper} {rest : List Oper} {o o1 o2 : Oper} {a : Act} {Q : Exit → Act → World → Prop}
def subp (p : Option Addr) (s l c : Nat) : Option Addr := if c = l then p else p.map (·.add (l * s))
theorem Cs.sub {w : World} {p : Option Addr} {vs : List Value} (h : Cs w p vs) {s l hi c : Nat} (h1 : l ≤ hi) (h2 : hi ≤ c) : Cs w (subp p s l c) ((vs.take (hi * s)).drop (l * s)) := by
 unfold subp
 by_cases hc : c = l
 · subst hc
   have : hi = c := by omega
   subst this;rw [if_pos rfl,List.drop_eq_nil_of_le (by simp;omega)];exact Cs.nil w p
 · rw [if_neg hc]
   cases p with
   | none =>
     have : vs = [] := Classical.byContradiction fun hn => by have := h.isS hn;simp at this
     subst this
     simpa using Cs.nil w none
   | some a => exact (h.take _).drop _
theorem run_slice {t e s b : Nat} {z : Value} [T : SlTy P t e s z b] {p : Option Addr} {n c l hi : Nat} {k1 k2 : IntKind} (h1 : l ≤ hi) (h2 : hi ≤ c) :
 (Instr.sliceAt t (.slice p n c) (some (.int k1 (l : Int))) (some (.int k2 (hi : Int))) none).run P w = .ok (.slice (subp p s l c) (hi - l) (c - l)) w := by
 obtain ⟨ti,hi',hzz⟩ := Option.map_eq_some_iff.1 T.inf;simp only [Prod.mk.injEq] at hzz;have hu := T.und;simp [Instr.sliceAt,Instr.slice,Instr.sliceBounds,Instr.sliceBound,asIntOf,run_underlying hu,sizeOf,typeInfo,hi',hzz.2.1,subp,h1,h2]
theorem run_sliceFrom {t e s b : Nat} {z : Value} [T : SlTy P t e s z b] {p : Option Addr} {n c l : Nat} {k2 : IntKind} (h1 : l ≤ n) (h2 : n ≤ c) :
 (Instr.sliceAt t (.slice p n c) (some (.int k2 (l : Int))) none none).run P w = .ok (.slice (subp p s l c) (n - l) (c - l)) w := by
 obtain ⟨ti,hi',hzz⟩ := Option.map_eq_some_iff.1 T.inf;simp only [Prod.mk.injEq] at hzz;have hu := T.und;simp [Instr.sliceAt,Instr.slice,Instr.sliceBounds,Instr.sliceBound,asIntOf,run_underlying hu,sizeOf,typeInfo,hi',hzz.2.1,subp,h1,h2]
theorem wl_slice {t e s b : Nat} {z : Value} [T : SlTy P t e s z b] {x lo hi : Operand} (hg : o.guard = none) (ho : o.op = .slice t x (some lo) (some hi) none) {p : Option Addr} {n c : Nat} {k1 k2 : IntKind} {li ui : Int} {l u : Nat}
 (hx : a.eval x = .slice p n c) (hlo : a.eval lo = .int k1 li) (hhi : a.eval hi = .int k2 ui) (h1 : li = l) (h2 : ui = u) (h3 : l ≤ u) (h4 : u ≤ c)
 (h : wpList P ops Q rest (a.put o.dst (.slice (subp p s l c) (u - l) (c - l))) w) : wpList P ops Q (o :: rest) a w := by
 subst h1;subst h2;exact jcp hg (by simp [execOp,ho,hx,hlo,hhi,run_slice h3 h4]) h
theorem wl_sliceFrom {t e s b : Nat} {z : Value} [T : SlTy P t e s z b] {x lo : Operand} (hg : o.guard = none) (ho : o.op = .slice t x (some lo) none none) {p : Option Addr} {n c : Nat} {k1 : IntKind} {li : Int} {l : Nat}
 (hx : a.eval x = .slice p n c) (hlo : a.eval lo = .int k1 li) (h1 : li = l) (h3 : l ≤ n) (h4 : n ≤ c)
 (h : wpList P ops Q rest (a.put o.dst (.slice (subp p s l c) (n - l) (c - l))) w) : wpList P ops Q (o :: rest) a w := by
 subst h1;exact jcp hg (by simp [execOp,ho,hx,hlo,run_sliceFrom h3 h4]) h
@[go_sem] theorem run_eql_nil {t e s b : Nat} {z : Value} [T : SlTy P t e s z b] (p : Option Addr) (n c : Nat) : (binOp .eql t (.slice p n c) (.slice none 0 0)).run P w = .ok (.bool p.isNone) w :=
 Lib.run_eql_slice_nil w t e p n c 0 0 T.und
end
def tot : (s : Sh) → s.T → Nat
 | .sl e,l => l.length + (l.map (tot e)).sum
 | .str,s => s.size
 | .pr a b,x => tot a x.1 + tot b x.2
 | _,_ => 0
def carry {A : Type} (f : A → Int → A × Int) : List A → Int → List A × Int
 | [],k => ([],k)
 | x :: xs,k => ((f x k).1 :: (carry f xs (f x k).2).1,(carry f xs (f x k).2).2)
def digs (n : Nat) : List UInt8 := if n = 0 then [] else digs (n / 10) ++ [UInt8.ofNat (48 + n % 10)]
termination_by n
decreasing_by omega
def markStr (k : Int) : ByteArray := if k ≤ 0 then ⟨#[109,48]⟩ else ⟨(109 :: digs k.toNat).toArray⟩
def mkE : (s : Sh) → s.T → Int → s.T × Int
 | .int,_,k => (k,k + 1)
 | .flt,_,k => (FloatKind.f32.nearest k,k + 1)
 | .bool,_,k => (decide (k % 3 = 0),k + 1)
 | .str,_,k => (markStr k,k + 1)
 | .un,d,k => (d,k)
 | .sl e,l,k => carry (mkE e) l k
 | .pr a b,x,k => (((mkE a x.1 k).1,(mkE b x.2 (mkE a x.1 k).2).1),(mkE b x.2 (mkE a x.1 k).2).2)
def mkV : (s : Sh) → s.T → Int → s.T × Int
 | .sl e,l,k => carry (mkE e) l k
 | .pr a b,x,k => (((mkV a x.1 k).1,(mkV b x.2 (mkV a x.1 k).2).1),(mkV b x.2 (mkV a x.1 k).2).2)
 | _,d,k => (d,k)
def Sh.agg : Sh → Bool
 | .pr _ _ => true
 | .un => true
 | _ => false
def ofCs (s : Sh) (cs : List Value) : Value := if s.agg then .agg cs.toArray else cs.headD undef
def RetOwn (w : World) (s : Sh) (d : s.T) (e : Ending) (w' : World) : Prop :=
 ∃ cs bs,e = .returned (ofCs s cs) ∧ Own w' s cs d bs ∧ bs.Nodup ∧ (∀ b ∈ bs,w.heap.size ≤ b) ∧ Ext w w'
def RetTrue (w : World) (e : Ending) (w' : World) : Prop := e = .returned (.bool true) ∧ Ext w w'
def Marked (w : World) (s : Sh) (cs : List Value) (d : s.T) (bs : List Nat) (k : Int) (e : Ending) (w' : World) : Prop :=
 e = .returned (.int .i64 (mkV s d k).2) ∧ Own w' s cs (mkV s d k).1 bs ∧ Chg (fun b => b ∈ bs) w w'
def Held (w : World) (s : Sh) (d : s.T) (k : Int) (e : Ending) (w' : World) : Prop := e = .returned (.int .i64 (mkV s d k).2) ∧ Ext w w'
def ToOk (f : Nat) (s : Sh) : Prop := ∀ (cs : List Value) (d : s.T) (w : World),Rep w s cs d → tot s d ≤ 1048576 → Calls Tryz.prog f #[ofCs s cs] w (RetOwn w s d)
def EqOk (f : Nat) (s : Sh) : Prop := ∀ (cs cs' : List Value) (d : s.T) (w : World),Rep w s cs d → Rep w s cs' d → tot s d ≤ 1048576 → Calls Tryz.prog f #[ofCs s cs,ofCs s cs'] w (RetTrue w)
def SzOk (f : Nat) (s : Sh) : Prop := ∀ (cs : List Value) (d : s.T) (left : Int) (w : World),Rep w s cs d → 0 ≤ left → left ≤ 1048576 → Calls Tryz.prog f #[ofCs s cs,.int .i64 left] w fun e w' => Left left (tot s d) e ∧ Ext w w'
def MarkOk (f : Nat) (s : Sh) : Prop := ∀ (cs : List Value) (d : s.T) (bs : List Nat) (k : Int) (w : World),Own w s cs d bs → bs.Nodup → 0 ≤ k → k + 64 * (tot s d : Int) ≤ 68719476736 → Calls Tryz.prog f #[ofCs s cs,.int .i64 k] w (Marked w s cs d bs k)
def HeldOk (f : Nat) (s : Sh) : Prop := ∀ (cs : List Value) (d : s.T) (k : Int) (w : World),Rep w s cs (mkV s d k).1 → 0 ≤ k → k + 64 * (tot s d : Int) ≤ 68719476736 → Calls Tryz.prog f #[ofCs s cs,.int .i64 k] w (Held w s d k)
theorem carry_flt (l : List Nat) : ∀ k,carry (mkE .flt) l k = (marksF k l.length,k + l.length) := by
 induction l with
 | nil => intro k;simp [carry,marksF]
 | cons x l ih =>
   intro k;show (FloatKind.f32.nearest k :: (carry (mkE .flt) l (k + 1)).1,(carry (mkE .flt) l (k + 1)).2) = _;rw [ih,List.length_cons];refine Prod.ext ?_ (by simp;omega);simp only [marksF,List.range_succ_eq_map,List.map_cons,List.map_map]
   congr 1
   · simp
   · apply List.map_congr_left;intro i _;simp;congr 1;omega
theorem jbb {w : World} {e : Sh} {cs : List Value} {l : List e.T} (h : Rep w (.sl e) cs l) : ∃ p c,cs = [.slice p l.length c] ∧ l.length ≤ maxLen := by
 obtain ⟨p,c,_,h1,_,h3,h4,_⟩ := h;exact ⟨p,c,h1,Nat.le_trans h3 h4⟩
theorem tot_flts (xs : List Nat) : tot (.sl .flt) xs = xs.length := by
 have : ∀ l : List Nat,(l.map (tot .flt)).sum = 0 := fun l => by induction l with | nil => rfl | cons x l ih => simpa [tot] using ih
 show xs.length + (xs.map (tot .flt)).sum = _;rw [this];rfl
theorem toFloat32S_ok : ToOk 34 (.sl .flt) := by
 intro cs xs w h hn;rw [tot_flts] at hn;obtain ⟨p,c,vs,rfl,h2,h3,h4,h5⟩ := rep_flts.1 h;refine (toFloat32S_any p _ c vs xs w rfl (by omega) h2 h3).mono ?_;rintro e w' ⟨g,rfl,own,he⟩
 exact ⟨_,[g],rfl,own_flts.2 ⟨_,_,vs,rfl,jdk own,h3,(jbl own).1,(jbl own).2,rfl⟩,by simp,by simpa using jar own g rfl,he⟩
theorem jcy : EqOk 13 (.sl .flt) := by
 intro cs cs' xs w hu hv hn;rw [tot_flts] at hn;obtain ⟨p,c,us,rfl,h2,h3,h4,h5⟩ := rep_flts.1 hu;obtain ⟨q,d,vs,rfl,g2,g3,g4,g5⟩ := rep_flts.1 hv;exact eqFloat32S_true p q _ c d us vs xs w rfl (by omega) h2 g2 h3 g3
theorem szFloat32S_ok : SzOk 31 (.sl .flt) := by
 intro cs xs left w h h0 h1;obtain ⟨p,c,rfl,hl⟩ := jbb h;rw [tot_flts];exact szFloat32S_any p _ c left w hl h0 h1
theorem jde : MarkOk 19 (.sl .flt) := by
 intro cs xs bs k w h _ hk0 hk;rw [tot_flts] at hk;obtain ⟨p,c,vs,rfl,h2,h3,h4,h5,rfl⟩ := own_flts.1 h;refine (markFloat32S_own p _ c k vs w h3.1 (by omega) hk0 (by omega) h2).mono ?_;rintro e w' ⟨rfl,own,hch⟩
 have hm : mkV (.sl .flt) xs k = (marksF k xs.length,k + xs.length) := carry_flt xs k;refine ⟨by rw [hm],?_,hch⟩;rw [hm];exact own_flts.2 ⟨p,c,_,by rw [jc0],by rw [jc0];exact own,markVs_flts k _,by rw [jc0];exact h4,h5,rfl⟩
theorem heldFloat32S_ok : HeldOk 21 (.sl .flt) := by
 intro cs xs k w h hk0 hk;rw [tot_flts] at hk;have hm : mkV (.sl .flt) xs k = (marksF k xs.length,k + xs.length) := carry_flt xs k;rw [hm] at h;obtain ⟨p,c,vs,rfl,h2,h3,h4,h5⟩ := rep_flts.1 h;rw [jc0];unfold Held;rw [hm];exact heldFloat32S_any p _ c k vs w (by omega) hk0 (by omega) h2 h3
theorem Ext.cellOf {W w1 : World} (h : Ext W w1) {b : Nat} (hb : b < W.heap.size) : (∀ o,w1.cell? ⟨b,o,none⟩ = W.cell? ⟨b,o,none⟩) ∧ (∀ o,w1.frozen? ⟨b,o,none⟩ = W.frozen? ⟨b,o,none⟩) :=
 ⟨fun o => World.cell?_of_block (h.block b hb),fun o => World.frozen?_of_block (h.block b hb)⟩
theorem Chg.cellOf {S : Nat → Prop} {W w1 : World} (h : Chg S W w1) {b : Nat} (hb : b < W.heap.size) (hn : ¬ S b) : (∀ o,w1.cell? ⟨b,o,none⟩ = W.cell? ⟨b,o,none⟩) ∧ (∀ o,w1.frozen? ⟨b,o,none⟩ = W.frozen? ⟨b,o,none⟩) :=
 ⟨fun o => World.cell?_of_block (h.block b hb hn),fun o => World.frozen?_of_block (h.block b hb hn)⟩
theorem Chg.setCell {S : Nat → Prop} {w0 w : World} (h : Chg S w0 w) {p : Addr} (hp : S p.block) (u : Value) : Chg S w0 (w.setCell p u) :=
 h.trans ⟨rfl,rfl,rfl,by simp [World.setCell],fun k hk hn => Below.heap_setCell _ _ _ _ (fun he => hn (he ▸ hp))⟩
theorem Chg.alloc {S : Nat → Prop} {w0 w : World} (h : Chg S w0 w) (o : Obj) : Chg S w0 (w.alloc o) := h.trans (.of_ext (Ext.alloc w o))
theorem Chg.drew {S : Nat → Prop} {w0 w : World} (h : Chg S w0 w) : Chg S w0 w.drew := h.trans (.of_ext (Ext.drew w))
theorem nodup_app2 {a b : List Nat} (B : Nat) (h1 : a.Nodup) (h2 : b.Nodup) (l1 : ∀ x ∈ a,x < B) (l2 : ∀ x ∈ b,B ≤ x) : (a ++ b).Nodup := by
 rw [List.nodup_append];exact ⟨h1,h2,fun x hx y hy h => by have := l1 x hx;have := l2 y hy;omega⟩
def RF (k : FloatKind) (w : World) (r : Nat) (e : Ending) (w' : World) : Prop := ∃ b,e = .returned (.float k b) ∧ cn k b = r ∧ Ext w w'
def dotG (f g : Nat → Nat) : Nat → Nat
 | 0 => 0
 | i + 1 => fop .add .f32 (dotG f g i) (fop .mul .f32 (f i) (g i))
def sumG (f : Nat → Nat) : Nat → Nat
 | 0 => 0
 | i + 1 => fop .add .f32 (sumG f i) (f i)
theorem cn0 : cn .f32 0 = 0 := by decide +kernel
theorem dotG_congr {f f' g g' : Nat → Nat} : ∀ {n : Nat},(∀ i,i < n → f i = f' i) → (∀ i,i < n → g i = g' i) → dotG f g n = dotG f' g' n
 | 0,_,_ => rfl
 | n + 1,h,h' => by unfold dotG;rw [dotG_congr (fun i hi => h i (by omega)) (fun i hi => h' i (by omega)),h n (by omega),h' n (by omega)]
theorem dot_any (p q : Option Addr) (n c m d : Nat) (us vs : List Value) (xs ys : List Nat) (w : World) (hx : xs.length = n) (hy : ys.length = m) (hm : n ≤ m) (hn : m ≤ maxLen) (hp : Cs w p us) (hf : F32s us xs) (hq : Cs w q vs) (hg : F32s vs ys) :
 Calls Tryz.prog 123 #[.slice p n c,.slice q m d] w (RF .f32 w (dotG (fun j => xs.getD j 0) (fun j => ys.getD j 0) n)) := by
 unfold maxLen at hn;have X := hid hx;have Y := hid hy;clear hx hy;go_enter Tryz.func123,Tryz.ntmps123;go_wp2;go_loopw [5,9] (fun sv iv wr => ∃ (i b : Nat),i ≤ n ∧ iv = .int .i64 i ∧ sv = .float .f32 b ∧ Hid (cn .f32 b = dotG (fun j => xs.getD j 0) (fun j => ys.getD j 0) i) ∧ Ext w wr) (fun _ iv _ => n - (intOf iv).toNat)
 case atStart => exact ⟨0,0,by omega,rfl,rfl,cn0,Ext.refl _⟩
 case round =>
  obtain ⟨i,b,hi,rfl,rfl,HB,he⟩ := hrel
  by_cases hlt : i < n
  · have k1 := hp.ext he
    have k2 := hq.ext he;go_wp2;replace k1 := k1.ext (Ext.drew _);replace k2 := k2.ext (Ext.drew _);refine jaf (F := fun _ _ _ => False) (by kernel_rfl) (by kernel_rfl) (by kernel_rfl) ?_;intro wf hwf
    repeat (first
     | ((first | (refine jat rfl ?_) | (refine x_mv rfl rfl rfl ?_) | (refine x_as rfl rfl rfl ?_) | ((with_reducible show gx0);first | (refine x_ldF rfl rfl (fun _ => rfl) rfl (fun _ => rfl) rfl rfl k1 hf X.out (by omega) (by omega) ?_;intro r1 g1;have G1 := hid g1;clear g1) | (refine x_ldF rfl rfl (fun _ => rfl) rfl (fun _ => rfl) rfl rfl k2 hg Y.out (by omega) (by omega) ?_;intro r2 g2;have G2 := hid g2;clear g2)) | ((with_reducible show gx1);refine x_fop rfl rfl rfl rfl rfl ?_;first | (have zz := G3;intro r4 g4;have G4 := hid g4;clear g4 zz) | (intro r3 g3;have G3 := hid g3;clear g3)));simp only [Act.put,jab,pu1,pu2,pu3,pu4,pu5])
     | (refine ja3 rfl fun K hK w1 hw1 => ?_;go_simp;refine hK _ ?_;clear hK K  hw1 w1))
    refine ja4 ?_;go_wp2;go_roundw
    case rel =>
     refine ⟨i + 1,_,by omega,by go_num,rfl,?_,(he.trans (Ext.drew _)).trans hwf⟩;have q1 := G1.out;have q2 := G2.out;simp only [Int.toNat_natCast] at q1 q2;rw [Hid,G4.out,HB.out,G3.out,q1,q2];rfl
    case measure => simp [intOf];omega
  · obtain rfl : i = n := by omega
    go_wp2;go_ret;exact ⟨b,rfl,HB.out,he⟩
theorem sumOf_any (p : Option Addr) (n c : Nat) (us : List Value) (xs : List Nat) (w : World) (hx : xs.length = n) (hn : n ≤ maxLen) (hp : Cs w p us) (hf : F32s us xs) :
 Calls Tryz.prog 111 #[.slice p n c] w (RF .f32 w (sumG (fun j => xs.getD j 0) n)) := by
 unfold maxLen at hn;have X := hid hx;clear hx;go_enter Tryz.func111,Tryz.ntmps111;go_wp2;go_loopw [3,8] (fun sv iv wr => ∃ (i b : Nat),i ≤ n ∧ iv = .int .i64 i ∧ sv = .float .f32 b ∧ Hid (cn .f32 b = sumG (fun j => xs.getD j 0) i) ∧ Ext w wr) (fun _ iv _ => n - (intOf iv).toNat)
 case atStart => exact ⟨0,0,by omega,rfl,rfl,cn0,Ext.refl _⟩
 case round =>
  obtain ⟨i,b,hi,rfl,rfl,HB,he⟩ := hrel
  by_cases hlt : i < n
  · have k1 := hp.ext he
    go_wp2_with (first | ((with_reducible show gx2);refine jc1 rfl rfl rfl rfl (fun _ => rfl) rfl rfl k1 hf X.out (by omega) (by omega) ?_;intro r1 g1;have G1 := hid g1;clear g1) | ((with_reducible show gx3);refine wl_fop rfl rfl rfl rfl rfl ?_;intro r3 w3 e3 g3;have G3 := hid g3;clear g3));go_roundw
    case rel =>
     refine ⟨i + 1,_,by omega,by go_num,rfl,?_,he.trans (by with_reducible assumption)⟩;have q1 := G1.out;simp only [Int.toNat_natCast] at q1;rw [Hid,G3.out,HB.out,q1];rfl
    case measure => simp [intOf];omega
  · obtain rfl : i = n := by omega
    go_wp2;go_ret;exact ⟨b,rfl,HB.out,he⟩
theorem l01Sum_any (p : Option Addr) (n c : Nat) (us : List Value) (xs : List Nat) (w : World) (hx : xs.length = n) (hn : n ≤ maxLen) (hp : Cs w p us) (hf : F32s us xs) :
 Calls Tryz.prog 100 #[.slice p n c] w (RF .f32 w (sumG (fun j => xs.getD j 0) n)) := by
 unfold maxLen at hn;have X := hid hx;clear hx;go_enter Tryz.func100,Tryz.ntmps100;go_wp2;go_loopw [3,4] (fun sv iv wr => ∃ (i b : Nat),i ≤ n ∧ iv = .int .i64 i ∧ sv = .float .f32 b ∧ Hid (cn .f32 b = sumG (fun j => xs.getD j 0) i) ∧ Ext w wr) (fun _ iv _ => n - (intOf iv).toNat)
 case atStart => exact ⟨0,0,by omega,rfl,rfl,cn0,Ext.refl _⟩
 case round =>
  obtain ⟨i,b,hi,rfl,rfl,HB,he⟩ := hrel
  by_cases hlt : i < n
  · have k1 := hp.ext he
    go_wp2_with (first | ((with_reducible show gx2);refine jc1 rfl rfl rfl rfl (fun _ => rfl) rfl rfl k1 hf X.out (by omega) (by omega) ?_;intro r1 g1;have G1 := hid g1;clear g1) | ((with_reducible show gx3);refine wl_fop rfl rfl rfl rfl rfl ?_;intro r3 w3 e3 g3;have G3 := hid g3;clear g3));go_roundw
    case rel =>
     refine ⟨i + 1,_,by omega,by go_num,rfl,?_,he.trans (by with_reducible assumption)⟩;have q1 := G1.out;simp only [Int.toNat_natCast] at q1;rw [Hid,G3.out,HB.out,q1];rfl
    case measure => simp [intOf];omega
  · obtain rfl : i = n := by omega
    go_wp2;go_ret;exact ⟨b,rfl,HB.out,he⟩
def reluF (x : Nat) : Nat := if fgt .f32 x 0 || !(feq .f32 x x) then x else 0
theorem relu_any (b : Nat) (w : World) : Calls Tryz.prog 126 #[.float .f32 b] w (RF .f32 w (reluF (cn .f32 b))) := by
 have h0 : cn .f32 0 = 0 := by decide +kernel
 have f1 := fgt_cn .f32 b 0;have f2 := feq_cn .f32 b b;rw [h0] at f1;have hr : reluF (cn .f32 b) = if fgt .f32 b 0 || !(feq .f32 b b) then cn .f32 b else 0 := by unfold reluF;rw [f1,f2]
 cases ha : fgt .f32 b 0
 · cases hb : feq .f32 b b
   · have a1 : (FloatKind.f32.format.order b 0 == some .gt) = false := ha
     have a2 : (FloatKind.f32.format.order b b != some .eq) = true := by unfold feq at hb;unfold bne;rw [hb];rfl
     rw [ha,hb] at hr;go_enter Tryz.func126,Tryz.ntmps126;go_wp2;go_ret;exact ⟨b,rfl,by rw [hr];rfl,Ext.refl _⟩
   · have a1 : (FloatKind.f32.format.order b 0 == some .gt) = false := ha
     have a2 : (FloatKind.f32.format.order b b != some .eq) = false := by unfold feq at hb;unfold bne;rw [hb];rfl
     rw [ha,hb] at hr;go_enter Tryz.func126,Tryz.ntmps126;go_wp2;go_ret;exact ⟨0,rfl,by rw [hr,h0];rfl,Ext.refl _⟩
 · have a1 : (FloatKind.f32.format.order b 0 == some .gt) = true := ha
   rw [ha] at hr;go_enter Tryz.func126,Tryz.ntmps126;go_wp2;go_ret;exact ⟨b,rfl,by rw [hr];rfl,Ext.refl _⟩
end Go.Proofs.YtlimabbeaimdgaaGreat
