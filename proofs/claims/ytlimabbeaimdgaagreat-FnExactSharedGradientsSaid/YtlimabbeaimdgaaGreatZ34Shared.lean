/- A part of the proofs: TnXa, TnXb, TnXc, TnXd. -/
import Derived.Test.YtlimabbeaimdgaaGreatTnXShar
import Derived.Test.YtlimabbeaimdgaaGreatZ10Shared
import Derived.Test.YtlimabbeaimdgaaGreatZ11Shared
import Derived.Test.YtlimabbeaimdgaaGreatZ19Shared
set_option linter.unusedSimpArgs false
set_option linter.unusedVariables false
set_option maxRecDepth 100000
set_option maxHeartbeats 16000000
namespace Go.Proofs.YtlimabbeaimdgaaGreat
open Go.RowKit
theorem jdn (r c : Nat) (zb z : Nat) (w : World) (hz : cn .f32 zb = z) (hN : r * c ≤ 1048576) :
 Calls Tryz.prog 99 #[.int .i64 (r : Int),.int .i64 (c : Int),.float .f32 zb] w (jaq w r c (List.replicate (r * c) z)) := by
 have q1 : IntKind.i64.wrap ((r : Int) * c) = ((r * c : Nat) : Int) := by rw [← Int.natCast_mul];exact ja7 _ (by omega) (by omega)
 have hrep : List.replicate (r * c) z = ntab (r * c) (fun _ => z) := by
  unfold ntab;rw [List.map_const',List.length_range]
 rw [hrep];have Z := hid hz;generalize hNe : r * c = N at *;obtain ⟨W0,hW0⟩ : ∃ W0,W0 = ((w.alloc (.cells #[.int .i64 0,.int .i64 0,.slice none 0 0] 37)).alloc (.cells #[] 48)).alloc (.cells #[.int .i64 r,.int .i64 c,.slice (some ⟨w.heap.size + 1,0,none⟩) 0 0] 37) := ⟨_,rfl⟩;obtain ⟨E0,s0,b0,b1,b2⟩ := box3 hW0;have b0 : HB W0 w.heap.size #[.int .i64 0,.int .i64 0,.slice none 0 0] 37 := b0;have b2 : HB W0 (w.heap.size + 1 + 1) #[.int .i64 r,.int .i64 c,.slice (some ⟨w.heap.size + 1,0,none⟩) 0 0] 37 := b2
 have own0 : W0.ownsRow w.heap.size 48 1 (.slice (some ⟨w.heap.size + 1,0,none⟩) 0 0) 0 [] := by
  have h := World.ownsRow_made (e := 48) (w.alloc (.cells #[.int .i64 0,.int .i64 0,.slice none 0 0] 37)) #[] (size := 1) 0 (base := w.heap.size) (by simp) (by decide) rfl;rw [World.size_alloc] at h;rw [hW0];exact jai h (Ext.alloc _ _)
 clear hz hNe hrep b1;go_enter Tryz.func99,Tryz.ntmps99;go_wp2;rw [← hW0];clear hW0;go_loopw [8] (fun iv wr => ∃ (i : Nat) (vs : List Value) (q : Option Addr) (cq : Nat),i ≤ N ∧ iv = .int .i64 (i : Int) ∧ HB wr (w.heap.size + 1 + 1) #[.int .i64 r,.int .i64 c,.slice q i cq] 37 ∧ HB wr w.heap.size #[.int .i64 0,.int .i64 0,.slice none 0 0] 37 ∧ wr.ownsRow w.heap.size 48 1 (.slice q i cq) i vs ∧ Hid (F32s vs (ntab i (fun _ => z))) ∧ Ext w wr) (fun iv _ => N - (intOf iv).toNat)
 case atStart => exact ⟨0,[],_,0,by omega,rfl,b2,b0,own0,F32s.nil,E0⟩
 case round =>
  clear b2 b0 own0 E0;obtain ⟨i,vs,q,cq,hi,rfl,b2,b1,own,HV,he⟩ := hrel
  by_cases hlt : i < N
  · have y2 := b2.cell 2 rfl
    have hs := he.size;have f2 := b2.froz 2;go_wp2_with ((with_reducible show gx10);refine jav (u := .float .f32 zb) rfl rfl rfl rfl rfl rfl rfl (fun _ => rfl) (fun _ => rfl) own (by unfold maxLen;omega) (by omega) (by omega) ?_;intro g9 c9 w9 own9 gr9 hg9;have d3 := b2.chg (Chg.of_grown gr9) (fun h => jag own b2 (by decide) _ h.symm rfl);have l3 := d3.cell 2 rfl;have f3 := d3.froz 2);go_roundw
    case rel =>
     have e9 : Ext w w9 := he.grown gr9 (fun k hk => jar own k hk);have hch := jco w9 (w.heap.size + 1 + 1) 2 (.slice (some ⟨g9,0,none⟩) (i + 1) c9);exact ⟨i + 1,_,some ⟨g9,0,none⟩,c9,by omega,by go_num,d3.set 2 _,(b1.chg (Chg.of_grown gr9) (fun h => jag own b1 (by decide) _ h.symm rfl)).chg hch (fun h => by omega),jal own9 hch (fun k hk hs => jag own9 d3 (by decide) k hk hs),jca (f := fun _ => z) HV.out Z.out,e9.chg hch (fun k hk => by omega)⟩
    case measure => simp [intOf];omega
  · obtain rfl : i = N := by omega
    have y0 := b2.cell 0 rfl;have y1 := b2.cell 1 rfl;have y2 := b2.cell 2 rfl;have n0 := b1.cell 0 rfl;have n1 := b1.cell 1 rfl;have n2 := b1.cell 2 rfl;have m0 := b1.froz 0;have m1 := b1.froz 1;have m2 := b1.froz 2;go_wp2;refine bodyPost_ret (v := .agg #[.int .i64 r,.int .i64 c,.slice q i cq]) (by simp [results,Tryz.results99,go_sem,n0,n1,n2,m0,m1,m2]) rfl ?_;exact jaq.of (jae _ _) (jal own (S := fun k => k = w.heap.size) (by (repeat (first | (with_reducible first | exact Chg.refl _ _ | exact Chg.of_ext (by assumption) | assumption) | ((with_reducible refine Chg.setCell ?_ ?_ _);rotate_left;focus (first | (simp;done) | (simp;omega))) | (with_reducible first | refine Chg.alloc ?_ _ | refine Chg.drew ?_ | refine px3 ?_ (by assumption))))) (fun k hk hs => jag own b1 (by decide) k hk hs)) HV.out rfl (he.chg (S := fun k => k = w.heap.size) (by (repeat (first | (with_reducible first | exact Chg.refl _ _ | exact Chg.of_ext (by assumption) | assumption) | ((with_reducible refine Chg.setCell ?_ ?_ _);rotate_left;focus (first | (simp;done) | (simp;omega))) | (with_reducible first | refine Chg.alloc ?_ _ | refine Chg.drew ?_ | refine px3 ?_ (by assumption))))) (fun k hk => by omega))
theorem le_relu0 (b : Nat) : (FloatKind.f32.format.order b 0 == some .lt || FloatKind.f32.format.order b 0 == some .eq) = !(fgt .f32 b 0 || !(feq .f32 b b)) := by
 unfold fgt feq Ieee.Format.order
 cases h0 : FloatKind.f32.format.read 0 with
 | nan s t => exact absurd h0 (by intro h;have : (FloatKind.f32.format.read 0).isNaN = false := by decide +kernel
                                  rw [h] at this;cases this)
 | infinity s => exact absurd h0 (by intro h;have : (FloatKind.f32.format.read 0 matches .infinity _) = false := by decide +kernel
                                     rw [h] at this;cases this)
 | number s0 m0 i0 =>
   cases FloatKind.f32.format.read b with
   | nan s t => rfl
   | infinity s => cases s <;> rfl
   | number s m i =>
     have h1 : Ieee.Datum.order (.number s m i) (.number s m i) = some .eq := by
      simp [Ieee.Datum.order]
     rw [h1]
     cases h2 : Ieee.Datum.order (.number s m i) (.number s0 m0 i0) with
     | none => simp [Ieee.Datum.order] at h2
     | some o => cases o <;> rfl
theorem le_relu (b : Nat) : (FloatKind.f32.format.order b 0 == some .lt || FloatKind.f32.format.order b 0 == some .eq) = !(fgt .f32 (cn .f32 b) 0 || !(feq .f32 (cn .f32 b) (cn .f32 b))) := by
 have f1 := fgt_cn .f32 b 0;have f2 := feq_cn .f32 b b;rw [cn0] at f1;rw [le_relu0,f1,f2]
theorem l02Relu_any {sp : Option Nat} (bt ot : Nat) (r c : Int) (q0 : Option Addr) (n cp : Nat) (us : List Value) (xs : List Nat) (w : World) (t0 : w.cell? ⟨bt,ot,sp⟩ = some (.int .i64 r)) (t1 : w.cell? ⟨bt,ot + 1,none⟩ = some (.int .i64 c)) (t2 : w.cell? ⟨bt,ot + 2,none⟩ = some (.slice q0 n cp)) (hx : xs.length = n) (hn : n ≤ 1048576) (hp : Cs w q0 us) (hf : F32s us xs) :
 Calls Tryz.prog 98 #[.pointer (some ⟨bt,ot,sp⟩)] w (jaq w r c (rluX n xs)) := by
 have X := hid hx;obtain ⟨W0,hW0⟩ : ∃ W0,W0 = w.alloc (.cells #[.int .i64 0,.int .i64 0,.slice none 0 0] 37) := ⟨_,rfl⟩;have E0 : Ext w W0 := by rw [hW0];exact Ext.alloc _ _
 have s0 : W0.heap.size = w.heap.size + 1 := by rw [hW0];simp
 have b1 : HB W0 w.heap.size #[.int .i64 0,.int .i64 0,.slice none 0 0] 37 := by rw [hW0];exact HB.new _ _ _
 have t0' := E0.cell t0;have t1' := E0.cell t1;have t2' := E0.cell t2;clear hx t0 t1 t2;go_enter Tryz.func98,Tryz.ntmps98;go_wp2;rw [← hW0];clear hW0;have e1 := Ext.drew W0;have u0 := e1.cell t0';have u1 := e1.cell t1';refine jan 11 (F := fun _ _ _ => False) (by kernel_rfl) (by kernel_rfl) (by kernel_rfl) (by kernel_rfl) (by kernel_rfl) ?_;intro wf hwf;simp only [pw1,pw2,pw3,pw4]
 repeat (first
  | ((first | (refine jat rfl ?_) | (refine x_mv rfl rfl rfl ?_) | (refine x_as rfl rfl rfl ?_) | ((with_reducible show gx14);refine x_alloc (t := 37) (Z := #[.int .i64 0,.int .i64 0,.slice none 0 0]) rfl (fun w1 => by go_simp) ?_;intro b hb1 hb2 hb3) | ((with_reducible show gx15);refine x_empty (te := 48) (s := 1) rfl (fun w1 => by go_simp) (by decide) ?_;intro g hg));simp only [Act.put,jab,pu1,pu2,pu3,pu4,pu5])
  | (refine ja3 rfl fun K hK w1 hw1 => ?_;have k0 := hw1.cell (u0);have k1 := hw1.cell (u1);go_simp;refine hK _ ?_;clear hK K k0 k1 hw1 w1))
 refine ja4 ?_;have E1 := e1.trans hwf;have hb3 : HB wf b #[.int .i64 0,.int .i64 0,.slice none 0 0] 37 := hb3;have o0 := hb3.cell 0 rfl;have o1 := hb3.cell 1 rfl;have o2 := hb3.cell 2 rfl;have o3 := hb3.froz 0;have o4 := hb3.froz 1;have o5 := hb3.froz 2;have hb1' : w.heap.size + 1 ≤ b := by have := e1.size;omega
 have hst : HB (((wf.setCell ⟨b,0,none⟩ (.int .i64 r)).setCell ⟨b,1,none⟩ (.int .i64 c)).setCell ⟨b,2,none⟩ (.slice (some ⟨g,0,none⟩) 0 0)) b #[.int .i64 r,.int .i64 c,.slice (some ⟨g,0,none⟩) 0 0] 37 := ((hb3.set 0 _).set 1 _).set 2 _;have hchg : Chg (fun k => k = b) wf (((wf.setCell ⟨b,0,none⟩ (.int .i64 r)).setCell ⟨b,1,none⟩ (.int .i64 c)).setCell ⟨b,2,none⟩ (.slice (some ⟨g,0,none⟩) 0 0)) := by (repeat (first | (with_reducible first | exact Chg.refl _ _ | exact Chg.of_ext (by assumption) | assumption) | ((with_reducible refine Chg.setCell ?_ ?_ _);rotate_left;focus (first | (simp;done) | (simp;omega))) | (with_reducible first | refine Chg.alloc ?_ _ | refine Chg.drew ?_ | refine px3 ?_ (by assumption))))
 have hg0 := jal hg hchg (fun k hk hs => jag hg hb3 (by decide) k hk hs);have he0 := E1.chg hchg (fun k hk => by omega);have hb10 := (b1.ext E1).chg hchg (by omega);go_wp2;go_loopw [4] (fun iv wr => ∃ (i : Nat) (vs9 : List Value) (q : Option Addr) (cq : Nat),i ≤ n ∧ iv = .int .i64 (i : Int) ∧ HB wr b #[.int .i64 r,.int .i64 c,.slice q i cq] 37 ∧ HB wr w.heap.size #[.int .i64 0,.int .i64 0,.slice none 0 0] 37 ∧ wr.ownsRow w.heap.size 48 1 (.slice q i cq) i vs9 ∧ Hid (F32s vs9 (ntab i (fun i => reluF (xs.getD i 0)))) ∧ Ext W0 wr) (fun iv _ => n - (intOf iv).toNat)
 case atStart => exact ⟨0,[],some ⟨g,0,none⟩,0,by omega,rfl,hst,hb10,jao hg0 (by have := e1.size;omega),F32s.nil,he0⟩
 case round =>
  clear b1 hb10 hg0 he0 hst hchg hb3 o0 o1 o2 o3 o4 o5 hg E1 hwf u0 u1;obtain ⟨i,vs9,q,cq,hi,rfl,b2,b1,own,HV,he⟩ := hrel;have u2 := he.cell t2'
  by_cases hlt : i < n
  · have hs2 := he.size
    have hs3 := b2.lt;have k1 := hp.ext (E0.trans he)
    cases hc : (fgt .f32 (xs.getD i 0) 0 || !(feq .f32 (xs.getD i 0) (xs.getD i 0)))
    · have Hc := hid hc
      have y2 := b2.cell 2 rfl;have f2 := b2.froz 2;clear hc;go_wp2_with (first | ((with_reducible show gx2);refine jc1 rfl rfl rfl rfl (fun _ => rfl) rfl rfl k1 hf X.out (by omega) (by omega) ?_;intro r1 g1;have hq := le_relu r1;rw [g1,Int.toNat_natCast,Hc.out] at hq;have hq : (FloatKind.f32.format.order r1 0 == some .lt || FloatKind.f32.format.order r1 0 == some .eq) = true := hq;have G1 := hid g1;clear g1) | ((with_reducible show gx10);refine jav (u := .float .f32 0) rfl rfl rfl rfl rfl rfl rfl (fun _ => rfl) (fun _ => rfl) own (by unfold maxLen;omega) (by omega) (by have := he.size;omega) ?_;intro g9 c9 w9 own9 gr9 hg9;have d3 := b2.chg (Chg.of_grown gr9) (fun h => jag own b2 (by decide) _ h.symm rfl);have l3 := d3.cell 2 rfl;have f3 := d3.froz 2));have Hb : Hid (cn .f32 0 = (fun i => reluF (xs.getD i 0)) i) := by show cn .f32 0 = reluF _;unfold reluF;rw [Hc.out];exact cn0
      go_roundw
      case rel =>
       have e9 : Ext w w9 := (E0.trans he).grown gr9 (fun k hk => by have := jar own k hk;omega);have hch := jco w9 b 2 (.slice (some ⟨g9,0,none⟩) (i + 1) c9);exact ⟨i + 1,_,some ⟨g9,0,none⟩,c9,by omega,by go_num,d3.set 2 _,(b1.chg (Chg.of_grown gr9) (fun h => jag own b1 (by decide) _ h.symm rfl)).chg hch (fun h => by omega),jal own9 hch (fun k hk hs => jag own9 d3 (by decide) k hk hs),jca HV.out Hb.out,(he.grown gr9 (fun k hk => by have h1 := jar own k hk;have := (jag own b1 (by decide) k hk);omega)).chg hch (fun k hk => by omega)⟩
      case measure => simp [intOf];omega
    · have Hc := hid hc
      have y2 := b2.cell 2 rfl;have f2 := b2.froz 2;clear hc;go_wp2_with (first | ((with_reducible show gx2);refine jc1 rfl rfl rfl rfl (fun _ => rfl) rfl rfl k1 hf X.out (by omega) (by omega) ?_;intro r1 g1;have hq := le_relu r1;rw [g1,Int.toNat_natCast,Hc.out] at hq;have hq : (FloatKind.f32.format.order r1 0 == some .lt || FloatKind.f32.format.order r1 0 == some .eq) = false := hq;have G1 := hid g1;clear g1) | ((with_reducible show gx10);refine jav (u := .float .f32 r1) rfl rfl rfl rfl rfl rfl rfl (fun _ => rfl) (fun _ => rfl) own (by unfold maxLen;omega) (by omega) (by have := he.size;omega) ?_;intro g9 c9 w9 own9 gr9 hg9;have d3 := b2.chg (Chg.of_grown gr9) (fun h => jag own b2 (by decide) _ h.symm rfl);have l3 := d3.cell 2 rfl;have f3 := d3.froz 2));have Hb : Hid (cn .f32 r1 = (fun i => reluF (xs.getD i 0)) i) := by have h1 := G1.out;rw [Int.toNat_natCast] at h1;show cn .f32 r1 = reluF _;unfold reluF;rw [Hc.out,h1];rfl
      go_roundw
      case rel =>
       have e9 : Ext w w9 := (E0.trans he).grown gr9 (fun k hk => by have := jar own k hk;omega);have hch := jco w9 b 2 (.slice (some ⟨g9,0,none⟩) (i + 1) c9);exact ⟨i + 1,_,some ⟨g9,0,none⟩,c9,by omega,by go_num,d3.set 2 _,(b1.chg (Chg.of_grown gr9) (fun h => jag own b1 (by decide) _ h.symm rfl)).chg hch (fun h => by omega),jal own9 hch (fun k hk hs => jag own9 d3 (by decide) k hk hs),jca HV.out Hb.out,(he.grown gr9 (fun k hk => by have h1 := jar own k hk;have := (jag own b1 (by decide) k hk);omega)).chg hch (fun k hk => by omega)⟩
      case measure => simp [intOf];omega
  · obtain rfl : i = n := by omega
    have y0 := b2.cell 0 rfl;have y1 := b2.cell 1 rfl;have y2 := b2.cell 2 rfl;have n0 := b1.cell 0 rfl;have n1 := b1.cell 1 rfl;have n2 := b1.cell 2 rfl;have m0 := b1.froz 0;have m1 := b1.froz 1;have m2 := b1.froz 2;go_wp2;refine bodyPost_ret (v := .agg #[.int .i64 r,.int .i64 c,.slice q i cq]) (by simp [results,Tryz.results98,go_sem,n0,n1,n2,m0,m1,m2]) rfl ?_;exact jaq.of (jae _ _) (jal own (S := fun k => k = w.heap.size) (by (repeat (first | (with_reducible first | exact Chg.refl _ _ | exact Chg.of_ext (by assumption) | assumption) | ((with_reducible refine Chg.setCell ?_ ?_ _);rotate_left;focus (first | (simp;done) | (simp;omega))) | (with_reducible first | refine Chg.alloc ?_ _ | refine Chg.drew ?_ | refine px3 ?_ (by assumption))))) (fun k hk hs => jag own b1 (by decide) k hk hs)) HV.out rfl ((E0.trans he).chg (S := fun k => k = w.heap.size) (by (repeat (first | (with_reducible first | exact Chg.refl _ _ | exact Chg.of_ext (by assumption) | assumption) | ((with_reducible refine Chg.setCell ?_ ?_ _);rotate_left;focus (first | (simp;done) | (simp;omega))) | (with_reducible first | refine Chg.alloc ?_ _ | refine Chg.drew ?_ | refine px3 ?_ (by assumption))))) (fun k hk => by omega))
theorem l02Turn_any {sp : Option Nat} (bt ot : Nat) (R C : Nat) (q0 : Option Addr) (n cp : Nat) (us : List Value) (xs : List Nat) (w : World) (t0 : w.cell? ⟨bt,ot,sp⟩ = some (.int .i64 (R : Int))) (t1 : w.cell? ⟨bt,ot + 1,none⟩ = some (.int .i64 (C : Int))) (t2 : w.cell? ⟨bt,ot + 2,none⟩ = some (.slice q0 n cp)) (hx : xs.length = n) (hn : n = R * C) (hR : R ≤ 16) (hC : C ≤ 16) (hp : Cs w q0 us) (hf : F32s us xs) :
 Calls Tryz.prog 97 #[.pointer (some ⟨bt,ot,sp⟩)] w (jaq w C R (jc8 R C xs)) := by
 have X := hid hx;have HN := hid (fun (i j : Nat) (hi : i < C) (hj : j < R) => show j * C + i < n by rw [hn];have := Nat.mul_le_mul_right C (show j + 1 ≤ R by omega);rw [Nat.add_mul] at this;omega);have hn2 : n ≤ 256 := by rw [hn];exact Nat.mul_le_mul hR hC
 obtain ⟨f,hfe⟩ : ∃ f : Nat → Nat,f = fun k => xs.getD (k % R * C + k / R) 0 := ⟨_,rfl⟩
 have HF0 := hid (fun i j (hj : j < R) => show f (i * R + j) = xs.getD (j * C + i) 0 by rw [hfe];simp only;rw [(jcj hj).1,(jcj hj).2]);have HT := hid (show jc8 R C xs = ntab (C * R) f by rw [hfe];rfl);have HCR : C * R ≤ 256 := Nat.mul_le_mul hC hR;rw [HT.out];obtain ⟨W0,hW0⟩ : ∃ W0,W0 = w.alloc (.cells #[.int .i64 0,.int .i64 0,.slice none 0 0] 37) := ⟨_,rfl⟩;have E0 : Ext w W0 := by rw [hW0];exact Ext.alloc _ _
 have s0 : W0.heap.size = w.heap.size + 1 := by rw [hW0];simp
 have b1 : HB W0 w.heap.size #[.int .i64 0,.int .i64 0,.slice none 0 0] 37 := by rw [hW0];exact HB.new _ _ _
 have t0' := E0.cell t0;have t1' := E0.cell t1;have t2' := E0.cell t2;clear hx hn hfe t0 t1 t2;go_enter Tryz.func97,Tryz.ntmps97;go_wp2;rw [← hW0];clear hW0;have e1 := Ext.drew W0;have u0 := e1.cell t0';have u1 := e1.cell t1';refine jan 11 (F := fun _ _ _ => False) (by kernel_rfl) (by kernel_rfl) (by kernel_rfl) (by kernel_rfl) (by kernel_rfl) ?_;intro wf hwf;simp only [pw1,pw2,pw3,pw4]
 repeat (first
  | ((first | (refine jat rfl ?_) | (refine x_mv rfl rfl rfl ?_) | (refine x_as rfl rfl rfl ?_) | ((with_reducible show gx14);refine x_alloc (t := 37) (Z := #[.int .i64 0,.int .i64 0,.slice none 0 0]) rfl (fun w1 => by go_simp) ?_;intro b hb1 hb2 hb3) | ((with_reducible show gx15);refine x_empty (te := 48) (s := 1) rfl (fun w1 => by go_simp) (by decide) ?_;intro g hg));simp only [Act.put,jab,pu1,pu2,pu3,pu4,pu5])
  | (refine ja3 rfl fun K hK w1 hw1 => ?_;have k0 := hw1.cell (u0);have k1 := hw1.cell (u1);go_simp;refine hK _ ?_;clear hK K k0 k1 hw1 w1))
 refine ja4 ?_;have E1 := e1.trans hwf;have hb3 : HB wf b #[.int .i64 0,.int .i64 0,.slice none 0 0] 37 := hb3;have o0 := hb3.cell 0 rfl;have o1 := hb3.cell 1 rfl;have o2 := hb3.cell 2 rfl;have o3 := hb3.froz 0;have o4 := hb3.froz 1;have o5 := hb3.froz 2;have hb1' : w.heap.size + 1 ≤ b := by have := e1.size;omega
 have hst : HB (((wf.setCell ⟨b,0,none⟩ (.int .i64 C)).setCell ⟨b,1,none⟩ (.int .i64 R)).setCell ⟨b,2,none⟩ (.slice (some ⟨g,0,none⟩) 0 0)) b #[.int .i64 C,.int .i64 R,.slice (some ⟨g,0,none⟩) 0 0] 37 := ((hb3.set 0 _).set 1 _).set 2 _;have hchg : Chg (fun k => k = b) wf (((wf.setCell ⟨b,0,none⟩ (.int .i64 C)).setCell ⟨b,1,none⟩ (.int .i64 R)).setCell ⟨b,2,none⟩ (.slice (some ⟨g,0,none⟩) 0 0)) := by (repeat (first | (with_reducible first | exact Chg.refl _ _ | exact Chg.of_ext (by assumption) | assumption) | ((with_reducible refine Chg.setCell ?_ ?_ _);rotate_left;focus (first | (simp;done) | (simp;omega))) | (with_reducible first | refine Chg.alloc ?_ _ | refine Chg.drew ?_ | refine px3 ?_ (by assumption))))
 have hg0 := jal hg hchg (fun k hk hs => jag hg hb3 (by decide) k hk hs);have he0 := E1.chg hchg (fun k hk => by omega);have hb10 := (b1.ext E1).chg hchg (by omega);have hg1 := jao hg0 (show w.heap.size ≤ _ by have := e1.size;omega);go_wp2;go_loopw [4] (fun iv wr => ∃ (i : Nat) (vs9 : List Value) (q : Option Addr) (cq : Nat),i ≤ C ∧ iv = .int .i64 (i : Int) ∧ HB wr b #[.int .i64 C,.int .i64 R,.slice q (i * R) cq] 37 ∧ HB wr w.heap.size #[.int .i64 0,.int .i64 0,.slice none 0 0] 37 ∧ wr.ownsRow w.heap.size 48 1 (.slice q (i * R) cq) (i * R) vs9 ∧ Hid (F32s vs9 (ntab (i * R) f)) ∧ Ext W0 wr) (fun iv _ => C - (intOf iv).toNat)
 case atStart => exact ⟨0,[],some ⟨g,0,none⟩,0,by omega,rfl,by rw [Nat.zero_mul];exact hst,hb10,by rw [Nat.zero_mul];exact hg1,by rw [Nat.zero_mul];exact F32s.nil,he0⟩
 case round =>
  clear b1 hb10 hg0 hg1 he0 hst hchg hb3 o0 o1 o2 o3 o4 o5 hg E1 hwf u0 u1;obtain ⟨i,vs9,q,cq,hi,rfl,b2,b1,own,HV,he⟩ := hrel;obtain ⟨A,hA⟩ : ∃ A,A = i * R := ⟨_,rfl⟩;rw [← hA] at b2 own HV;have v1 := he.cell t1'
  by_cases hlt : i < C
  · have hAR : (i + 1) * R = A + R := by rw [Nat.add_mul,hA];omega
    have hA2 : A + R ≤ 256 := by have := Nat.mul_le_mul_right R (show i + 1 ≤ C by omega);omega
    have HA := hid hA;have HAR := hid hAR;clear hA hAR;go_wp2;clear v1;go_loopw [5] (fun jv wq => ∃ (j : Nat) (vs9 : List Value) (q : Option Addr) (cq : Nat),j ≤ R ∧ jv = .int .i64 (j : Int) ∧ HB wq b #[.int .i64 C,.int .i64 R,.slice q (A + j) cq] 37 ∧ HB wq w.heap.size #[.int .i64 0,.int .i64 0,.slice none 0 0] 37 ∧ wq.ownsRow w.heap.size 48 1 (.slice q (A + j) cq) (A + j) vs9 ∧ Hid (F32s vs9 (ntab (A + j) f)) ∧ Ext W0 wq) (fun jv _ => R - (intOf jv).toNat)
    case atStart => exact ⟨0,vs9,q,cq,by omega,rfl,b2,b1,own,HV,he⟩
    case round =>
     clear b2 b1 own HV he;obtain ⟨j,vs9,q,cq,hj,rfl,b2,b1,own,HV,he⟩ := hrel;have v0 := he.cell t0'
     by_cases hlt2 : j < R
     · have eD := Ext.drew wr
       have eW := he.trans eD;have y1 := eW.cell t1';have y3 := eW.cell t2';have k1 := hp.ext (E0.trans eW);have c2 := b2.ext eD;have c1 := b1.ext eD;have y2 := c2.cell 2 rfl;have o1 := jai own eD;have hK := HN.out i j hlt hlt2;have q1 : IntKind.i64.wrap ((j : Int) * C) = ((j * C : Nat) : Int) := by rw [← Int.natCast_mul];exact ja7 _ (by omega) (by omega)
       have HK := hid (HF0.out i j hlt2);obtain ⟨J,hJ⟩ : ∃ J,J = j * C := ⟨_,rfl⟩;rw [← hJ] at q1 HK hK;clear hJ;have q2 : IntKind.i64.wrap ((J : Int) + i) = ((J + i : Nat) : Int) := by rw [← Int.natCast_add];exact ja7 _ (by omega) (by omega)
       have q3 : IntKind.i64.wrap (IntKind.i64.wrap ((j : Int) * C) + i) = ((J + i : Nat) : Int) := by rw [q1];exact q2
       obtain ⟨K,hKe⟩ : ∃ K,K = J + i := ⟨_,rfl⟩;rw [← hKe] at q2 q3 HK hK;clear hKe;have Q2 := hid q2;have Q3 := hid q3;go_wp2_with fail;refine jan 17 (F := fun _ _ _ => False) (by kernel_rfl) (by kernel_rfl) (by kernel_rfl) (by kernel_rfl) (by kernel_rfl) ?_;intro wf hwf;simp only [pw1,pw2,pw3,pw4]
       repeat (first
        | ((first | (refine jat rfl ?_) | (refine x_mv rfl rfl rfl ?_) | (refine x_as rfl rfl rfl ?_) | ((with_reducible show gx0);refine x_ldF rfl rfl (fun _ => rfl) rfl (fun _ => rfl) rfl rfl k1 hf X.out (by omega) (by omega) ?_;intro r1 g1;have G1 := hid g1;clear g1) | (refine jb7 (u := .float .f32 r1) rfl rfl rfl rfl ?_;intro g7 hg7 hg7' hc7));simp only [Act.put,jab,pu1,pu2,pu3,pu4,pu5])
        | (refine ja3 rfl fun K hK w1 hw1 => ?_;have k0 := hw1.cell (y1);have k1 := hw1.cell (y2);have k2 := hw1.cell (y3);go_simp;refine hK _ ?_;clear hK K k0 k1 k2 hw1 w1))
       refine ja4 ?_;have d2 := c2.ext hwf;have d1 := c1.ext hwf;have o2 := jai o1 hwf;have l2 := d2.cell 2 rfl;have f2 := d2.froz 2;have hsz := he.trans (eD.trans hwf);have hs2 := hsz.size;clear y1 y2 y3 k1 q1 q2 q3 v0;go_wp2_with ((with_reducible show gx7);refine jb9 rfl rfl rfl rfl o2 hc7 rfl (by simp [Value.cells,Value.oneCell']) (by unfold maxLen;omega) (by omega) (by omega) ?_;intro g9 c9 w9 own9 gr9 hg9;have d3 := d2.chg (Chg.of_grown gr9) (fun h => jag o2 d2 (by decide) _ h.symm rfl);have l3 := d3.cell 2 rfl;have f3 := d3.froz 2);go_roundw
       case rel =>
        have e9 : Ext W0 w9 := hsz.grown gr9 (fun k hk => by have h1 := jar o2 k hk;have := (jag o2 d1 (by decide) k hk);omega);have hch := jco w9 b 2 (.slice (some ⟨g9,0,none⟩) (A + j + 1) c9)
        have hb1 : cn .f32 r1 = f (A + j) := by
         have h1 := G1.out;rw [HA.out,HK.out]
         first
          | (rw [Q3.out,Int.toNat_natCast] at h1;exact h1)
          | (rw [Q2.out,Int.toNat_natCast] at h1;exact h1)
          | (rw [Int.toNat_natCast] at h1;exact h1)
        exact ⟨j + 1,_,some ⟨g9,0,none⟩,c9,by omega,by go_num,d3.set 2 _,(d1.chg (Chg.of_grown gr9) (fun h => jag o2 d1 (by decide) _ h.symm rfl)).chg hch (fun h => by omega),jal own9 hch (fun k hk hs => jag own9 d3 (by decide) k hk hs),jca HV.out hb1,e9.chg hch (fun k hk => by omega)⟩
       case measure => simp [intOf];omega
     · obtain rfl : j = R := by omega
       go_wp2;go_roundw
       case rel => exact ⟨i + 1,vs9,q,cq,by omega,by go_num,by rw [HAR.out];exact b2,b1,by rw [HAR.out];exact own,by rw [HAR.out];exact HV,he⟩
       case measure => simp [intOf];omega
  · obtain rfl : i = C := by omega
    rw [← hA];have y0 := b2.cell 0 rfl;have y1 := b2.cell 1 rfl;have y2 := b2.cell 2 rfl;have n0 := b1.cell 0 rfl;have n1 := b1.cell 1 rfl;have n2 := b1.cell 2 rfl;have m0 := b1.froz 0;have m1 := b1.froz 1;have m2 := b1.froz 2;have HA := hid hA;clear hA;go_wp2;refine bodyPost_ret (v := .agg #[.int .i64 i,.int .i64 R,.slice q A cq]) (by simp [results,Tryz.results97,go_sem,n0,n1,n2,m0,m1,m2]) rfl ?_;obtain rfl := HA.out;exact jaq.of (jae _ _) (jal own (S := fun k => k = w.heap.size) (by (repeat (first | (with_reducible first | exact Chg.refl _ _ | exact Chg.of_ext (by assumption) | assumption) | ((with_reducible refine Chg.setCell ?_ ?_ _);rotate_left;focus (first | (simp;done) | (simp;omega))) | (with_reducible first | refine Chg.alloc ?_ _ | refine Chg.drew ?_ | refine px3 ?_ (by assumption))))) (fun k hk hs => jag own b1 (by decide) k hk hs)) HV.out rfl ((E0.trans he).chg (S := fun k => k = w.heap.size) (by (repeat (first | (with_reducible first | exact Chg.refl _ _ | exact Chg.of_ext (by assumption) | assumption) | ((with_reducible refine Chg.setCell ?_ ?_ _);rotate_left;focus (first | (simp;done) | (simp;omega))) | (with_reducible first | refine Chg.alloc ?_ _ | refine Chg.drew ?_ | refine px3 ?_ (by assumption))))) (fun k hk => by omega))
theorem l02SumRows_any {sp : Option Nat} (bt ot : Nat) (C : Nat) (q0 : Option Addr) (n cp : Nat) (us : List Value) (xs : List Nat) (w : World) (t1 : w.cell? ⟨bt,ot + 1,none⟩ = some (.int .i64 (C : Int))) (t2 : w.cell? ⟨bt,ot + 2,none⟩ = some (.slice q0 n cp)) (hx : xs.length = n) (hn : n ≤ 1048576) (hC1 : 1 ≤ C) (hC : C ≤ 1048576) (hp : Cs w q0 us) (hf : F32s us xs) :
 Calls Tryz.prog 101 #[.pointer (some ⟨bt,ot,sp⟩)] w (RetFl w (sumRX C xs)) := by
 have X := hid hx;have HR := hid (show sumRX C xs = ntab C (fun j => colG C j xs n) by unfold sumRX;rw [hx]);obtain ⟨g,hge⟩ : ∃ g : Nat → Nat → Nat,g = fun i j => colG C j xs i := ⟨_,rfl⟩
 have HG0 := hid (fun j => show g 0 j = 0 by rw [hge];rfl);have HG1 := hid (fun i j (h : i % C = j) => show g (i + 1) j = fop .add .f32 (g i j) (xs.getD i 0) by rw [hge];simp only [colG];rw [if_pos h]);have HG2 := hid (fun i j (h : i % C ≠ j) => show g (i + 1) j = g i j by rw [hge];simp only [colG];rw [if_neg h]);have HGn := hid (show (fun j => colG C j xs n) = g n by rw [hge]);clear hx hge;rw [HR.out,HGn.out];go_enter Tryz.func101,Tryz.ntmps101;go_wp2_with ((with_reducible show wpList _ _ _ (Oper.mk _ (Op.makeSlice _ _ _) _ _ _ _ :: _) _ _);refine wl_make w.heap.size C rfl rfl rfl rfl (by unfold maxLen;omega) (by omega) (by simp) ?_;intro g8 w8 own8 e8);rw [made_flts] at own8;go_loopw [4] (fun iv wr => ∃ (i : Nat) (vs : List Value),i ≤ n ∧ iv = .int .i64 (i : Int) ∧ wr.ownsRow w.heap.size 48 1 (.slice (some ⟨g8,0,none⟩) C C) C vs ∧ Hid (F32s vs (ntab C (g i))) ∧ Ext w wr) (fun iv _ => n - (intOf iv).toNat)
 case atStart => exact ⟨0,_,by omega,rfl,own8,f32s_zeros (fun i hi => HG0.out i),e8⟩
 case round =>
  clear e8 own8;obtain ⟨i,vs,hi,rfl,own,HV,he⟩ := hrel;have hB := he.size;have v2 := he.cell t2
  by_cases hlt : i < n
  · have eW := he.trans (Ext.drew wr)
    have y1 := eW.cell t1;have y2 := eW.cell t2;have k1 := hp.ext eW;have o1 := jai own (Ext.drew wr);have k2 := jbr o1;obtain ⟨f,hfe⟩ : ∃ f,f = i % C := ⟨_,rfl⟩;have hfC : f < C := by rw [hfe];exact Nat.mod_lt _ (by omega)
    have hmod : Int.tmod (i : Int) (C : Int) = (f : Int) := by rw [hfe];rfl
    have hz : ¬ ((C : Int) = 0) := by omega
    have Hfe := hid hfe;have HL := hid (jae C (g i));clear hfe;go_wp2_with fail;refine jan 17 (F := fun _ _ _ => False) (by kernel_rfl) (by kernel_rfl) (by kernel_rfl) (by kernel_rfl) (by kernel_rfl) ?_;intro wf hwf;simp only [pw1,pw2,pw3,pw4]
    repeat (first
     | ((first | (refine jat rfl ?_) | (refine x_mv rfl rfl rfl ?_) | (refine x_as rfl rfl rfl ?_) | (((with_reducible show wpX _ _ _ _ _ _ (Oper.mk _ (Op.binOp BinOp.rem _ _ _ _) _ _ _ _ :: _) _);refine x_pure (v := .int .i64 (f : Int)) rfl (fun w1 hw1 => ?_) ?_;focus (go_simp;omega))) | ((with_reducible show gx0);first | (refine x_ldF rfl rfl (fun _ => rfl) rfl (fun _ => rfl) rfl rfl k2 HV.out HL.out (by omega) (by omega) ?_;intro r2 g2;have G2 := hid g2;clear g2) | (refine x_ldF rfl rfl (fun _ => rfl) rfl (fun _ => rfl) rfl rfl k1 hf X.out (by omega) (by omega) ?_;intro r1 g1;have G1 := hid g1;clear g1)) | ((with_reducible show gx1);refine x_fop rfl rfl rfl rfl rfl ?_;intro r3 g3;have G3 := hid g3;clear g3));simp only [Act.put,jab,pu1,pu2,pu3,pu4,pu5])
     | (refine ja3 rfl fun K hK w1 hw1 => ?_;have k0 := hw1.cell (y1);have k1 := hw1.cell (y2);go_simp;refine hK _ ?_;clear hK K k0 k1 hw1 w1))
    refine ja4 ?_;have own2 := jai o1 hwf;have he2 := eW.trans hwf;clear hmod hz v2 y1 y2 k1 k2 o1;go_wp2_with ((with_reducible show gx9);refine wl_idxstore (u := .float .f32 r3) rfl rfl rfl rfl (fun _ => rfl) rfl rfl (fun _ => rfl) rfl own2 (by omega) (by omega) ?_;intro w4 own4 g4);go_roundw
    case rel =>
     have q1 := G1.out;simp only [Int.toNat_natCast] at q1;have q2 : cn .f32 r2 = g i f := by have := G2.out;rw [Int.toNat_natCast,ntab_get _ hfC] at this;exact this
     refine ⟨i + 1,_,by omega,by go_num,own4,?_,he2.grown g4 (fun k hk => by have := jar own2 k hk;omega)⟩;rw [Int.toNat_natCast];refine f32s_set HV.out hfC (by rw [HG1.out i f Hfe.out.symm,G3.out,q1,q2]) (fun j hj hjf => HG2.out i j (by rw [← Hfe.out];exact Ne.symm hjf))
    case measure => simp [intOf];omega
  · obtain rfl : i = n := by omega
    go_wp2;go_ret;exact retFl_own (jae _ _) own HV.out rfl he
theorem l04Two_any (k : Nat) (w : World) : Calls Tryz.prog 102 #[.int .i64 k] w fun e w' => e = .returned (.bool (twoK k)) ∧ w = w' := by
 by_cases h1 : k = 1
 · subst h1
   go_enter Tryz.func102,Tryz.ntmps102;go_wp2;go_ret;exact ⟨rfl,rfl⟩
 by_cases h2 : k = 2
 · subst h2
   go_enter Tryz.func102,Tryz.ntmps102;go_wp2;go_ret;exact ⟨rfl,rfl⟩
 by_cases h3 : k = 3
 · subst h3
   go_enter Tryz.func102,Tryz.ntmps102;go_wp2;go_ret;exact ⟨rfl,rfl⟩
 by_cases h4 : k = 4
 · subst h4
   go_enter Tryz.func102,Tryz.ntmps102;go_wp2;go_ret;exact ⟨rfl,rfl⟩
 by_cases h6 : k = 6
 · subst h6
   go_enter Tryz.func102,Tryz.ntmps102;go_wp2;go_ret;exact ⟨rfl,rfl⟩
 have hd : twoK k = false := by simp [twoK,h1,h2,h3,h4,h6]
 rw [hd];have e1 : ((k : Int) == 1) = false := by simp;omega
 have e2 : ((k : Int) == 2) = false := by simp;omega
 have e3 : ((k : Int) == 3) = false := by simp;omega
 have e4 : ((k : Int) == 4) = false := by simp;omega
 have e6 : ((k : Int) == 6) = false := by simp;omega
 clear hd;go_enter Tryz.func102,Tryz.ntmps102;go_wp2;go_ret;exact ⟨rfl,rfl⟩
end Go.Proofs.YtlimabbeaimdgaaGreat
