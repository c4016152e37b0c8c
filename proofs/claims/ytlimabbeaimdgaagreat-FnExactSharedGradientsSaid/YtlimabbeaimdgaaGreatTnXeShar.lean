/- The reference's products of tensors. -/
import Derived.Test.YtlimabbeaimdgaaGreatTnXShar
import Derived.Test.YtlimabbeaimdgaaGreatZ11Shared
set_option linter.unusedSimpArgs false
set_option linter.unusedVariables false
set_option maxRecDepth 100000
set_option maxHeartbeats 16000000
namespace Go.Proofs.YtlimabbeaimdgaaGreat
open Go.RowKit
theorem l02MatMul_any {sp sq : Option Nat} (bt ot bu ou : Nat) (R K C : Nat) (q0 q1 : Option Addr) (n cp m cm : Nat) (us vs : List Value) (xs ys : List Nat) (w : World) (t0 : w.cell? ⟨bt,ot,sp⟩ = some (.int .i64 (R : Int))) (t1 : w.cell? ⟨bt,ot + 1,none⟩ = some (.int .i64 (K : Int))) (t2 : w.cell? ⟨bt,ot + 2,none⟩ = some (.slice q0 n cp)) (t3 : w.cell? ⟨bu,ou + 1,none⟩ = some (.int .i64 (C : Int))) (t4 : w.cell? ⟨bu,ou + 2,none⟩ = some (.slice q1 m cm)) (hx : xs.length = n) (hn : n = R * K) (hy : ys.length = m) (hm : m = K * C) (hR : R ≤ 16) (hK : K ≤ 16) (hC : C ≤ 16) (hp : Cs w q0 us) (hf : F32s us xs) (hp2 : Cs w q1 vs) (hf2 : F32s vs ys) :
 Calls Tryz.prog 96 #[.pointer (some ⟨bt,ot,sp⟩),.pointer (some ⟨bu,ou,sq⟩)] w (jaq w R C (mmX R K C xs ys)) := by
 have X := hid hx;have Y := hid hy;have HN := hid (fun (i k : Nat) (hi : i < R) (hk : k < K) => show i * K + k < n by rw [hn];have := Nat.mul_le_mul_right K (show i + 1 ≤ R by omega);rw [Nat.add_mul] at this;omega);have HM := hid (fun (k j : Nat) (hk : k < K) (hj : j < C) => show k * C + j < m by rw [hm];have := Nat.mul_le_mul_right C (show k + 1 ≤ K by omega);rw [Nat.add_mul] at this;omega);have hn2 : n ≤ 256 := by rw [hn];exact Nat.mul_le_mul hR hK
 have hm2 : m ≤ 256 := by rw [hm];exact Nat.mul_le_mul hK hC
 obtain ⟨f,hfe⟩ : ∃ f : Nat → Nat,f = fun k => dotG (fun j => xs.getD (k / C * K + j) 0) (fun j => ys.getD (j * C + k % C) 0) K := ⟨_,rfl⟩
 have HF0 := hid (fun i j (hj : j < C) => show f (i * C + j) = dotG (fun k => xs.getD (i * K + k) 0) (fun k => ys.getD (k * C + j) 0) K by rw [hfe];simp only;rw [(jcj hj).1,(jcj hj).2]);have HT := hid (show mmX R K C xs ys = ntab (R * C) f by rw [hfe];rfl);have HCR : R * C ≤ 256 := Nat.mul_le_mul hR hC;rw [HT.out];obtain ⟨W0,hW0⟩ : ∃ W0,W0 = w.alloc (.cells #[.int .i64 0,.int .i64 0,.slice none 0 0] 37) := ⟨_,rfl⟩;have E0 : Ext w W0 := by rw [hW0];exact Ext.alloc _ _
 have s0 : W0.heap.size = w.heap.size + 1 := by rw [hW0];simp
 have b1 : HB W0 w.heap.size #[.int .i64 0,.int .i64 0,.slice none 0 0] 37 := by rw [hW0];exact HB.new _ _ _
 have t0' := E0.cell t0;have t1' := E0.cell t1;have t2' := E0.cell t2;have t3' := E0.cell t3;have t4' := E0.cell t4;clear hx hn hy hm hfe t0 t1 t2 t3 t4;go_enter Tryz.func96,Tryz.ntmps96;go_wp2;rw [← hW0];clear hW0;have e1 := Ext.drew W0;have u0 := e1.cell t0';have u1 := e1.cell t3';refine jan 11 (F := fun _ _ _ => False) (by kernel_rfl) (by kernel_rfl) (by kernel_rfl) (by kernel_rfl) (by kernel_rfl) ?_;intro wf hwf;simp only [pw1,pw2,pw3,pw4]
 repeat (first
  | ((first | (refine jat rfl ?_) | (refine x_mv rfl rfl rfl ?_) | (refine x_as rfl rfl rfl ?_) | ((with_reducible show gx14);refine x_alloc (t := 37) (Z := #[.int .i64 0,.int .i64 0,.slice none 0 0]) rfl (fun w1 => by go_simp) ?_;intro b hb1 hb2 hb3) | ((with_reducible show gx15);refine x_empty (te := 48) (s := 1) rfl (fun w1 => by go_simp) (by decide) ?_;intro g hg));simp only [Act.put,jab,pu1,pu2,pu3,pu4,pu5])
  | (refine ja3 rfl fun K hK w1 hw1 => ?_;have k0 := hw1.cell (u0);have k1 := hw1.cell (u1);go_simp;refine hK _ ?_;clear hK K k0 k1 hw1 w1))
 refine ja4 ?_;have E1 := e1.trans hwf;have hb3 : HB wf b #[.int .i64 0,.int .i64 0,.slice none 0 0] 37 := hb3;have o0 := hb3.cell 0 rfl;have o1 := hb3.cell 1 rfl;have o2 := hb3.cell 2 rfl;have o3 := hb3.froz 0;have o4 := hb3.froz 1;have o5 := hb3.froz 2;have hb1' : w.heap.size + 1 ≤ b := by have := e1.size;omega
 have hst : HB (((wf.setCell ⟨b,0,none⟩ (.int .i64 R)).setCell ⟨b,1,none⟩ (.int .i64 C)).setCell ⟨b,2,none⟩ (.slice (some ⟨g,0,none⟩) 0 0)) b #[.int .i64 R,.int .i64 C,.slice (some ⟨g,0,none⟩) 0 0] 37 := ((hb3.set 0 _).set 1 _).set 2 _;have hchg : Chg (fun k => k = b) wf (((wf.setCell ⟨b,0,none⟩ (.int .i64 R)).setCell ⟨b,1,none⟩ (.int .i64 C)).setCell ⟨b,2,none⟩ (.slice (some ⟨g,0,none⟩) 0 0)) := by (repeat (first | (with_reducible first | exact Chg.refl _ _ | exact Chg.of_ext (by assumption) | assumption) | ((with_reducible refine Chg.setCell ?_ ?_ _);rotate_left;focus (first | (simp;done) | (simp;omega))) | (with_reducible first | refine Chg.alloc ?_ _ | refine Chg.drew ?_ | refine px3 ?_ (by assumption))))
 have hg0 := jal hg hchg (fun k hk hs => jag hg hb3 (by decide) k hk hs);have he0 := E1.chg hchg (fun k hk => by omega);have hb10 := (b1.ext E1).chg hchg (by omega);have hg1 := jao hg0 (show w.heap.size ≤ _ by have := e1.size;omega);go_wp2;go_loopw [6] (fun iv wr => ∃ (i : Nat) (vs9 : List Value) (q : Option Addr) (cq : Nat),i ≤ R ∧ iv = .int .i64 (i : Int) ∧ HB wr b #[.int .i64 R,.int .i64 C,.slice q (i * C) cq] 37 ∧ HB wr w.heap.size #[.int .i64 0,.int .i64 0,.slice none 0 0] 37 ∧ wr.ownsRow w.heap.size 48 1 (.slice q (i * C) cq) (i * C) vs9 ∧ Hid (F32s vs9 (ntab (i * C) f)) ∧ Ext W0 wr) (fun iv _ => R - (intOf iv).toNat)
 case atStart => exact ⟨0,[],some ⟨g,0,none⟩,0,by omega,rfl,by rw [Nat.zero_mul];exact hst,hb10,by rw [Nat.zero_mul];exact hg1,by rw [Nat.zero_mul];exact F32s.nil,he0⟩
 case round =>
  clear b1 hb10 hg0 hg1 he0 hst hchg hb3 o0 o1 o2 o3 o4 o5 hg E1 hwf u0 u1;obtain ⟨i,vs9,q,cq,hi,rfl,b2,b1,own,HV,he⟩ := hrel;obtain ⟨A,hA⟩ : ∃ A,A = i * C := ⟨_,rfl⟩;rw [← hA] at b2 own HV;have v1 := he.cell t0';have v3 := he.cell t3'
  by_cases hlt : i < R
  · have hAR : (i + 1) * C = A + C := by rw [Nat.add_mul,hA];omega
    have hA2 : A + C ≤ 256 := by have := Nat.mul_le_mul_right C (show i + 1 ≤ R by omega);omega
    have HA := hid hA;have HAR := hid hAR;clear hA hAR;go_wp2;clear v1 v3;go_loopw [7] (fun jv wq => ∃ (j : Nat) (vs9 : List Value) (q : Option Addr) (cq : Nat),j ≤ C ∧ jv = .int .i64 (j : Int) ∧ HB wq b #[.int .i64 R,.int .i64 C,.slice q (A + j) cq] 37 ∧ HB wq w.heap.size #[.int .i64 0,.int .i64 0,.slice none 0 0] 37 ∧ wq.ownsRow w.heap.size 48 1 (.slice q (A + j) cq) (A + j) vs9 ∧ Hid (F32s vs9 (ntab (A + j) f)) ∧ Ext W0 wq) (fun jv _ => C - (intOf jv).toNat)
    case atStart => exact ⟨0,vs9,q,cq,by omega,rfl,b2,b1,own,HV,he⟩
    case round =>
     clear b2 b1 own HV he;obtain ⟨j,vs9,q,cq,hj,rfl,b2,b1,own,HV,he⟩ := hrel;have v3 := he.cell t3'
     by_cases hlt2 : j < C
     · go_wp2
       clear v3;go_loopw [8,9] (fun sv kv wz => ∃ (k bb : Nat),k ≤ K ∧ kv = .int .i64 (k : Int) ∧ sv = .float .f32 bb ∧ Hid (cn .f32 bb = dotG (fun k => xs.getD (i * K + k) 0) (fun k => ys.getD (k * C + j) 0) k) ∧ HB wz b #[.int .i64 R,.int .i64 C,.slice q (A + j) cq] 37 ∧ HB wz w.heap.size #[.int .i64 0,.int .i64 0,.slice none 0 0] 37 ∧ wz.ownsRow w.heap.size 48 1 (.slice q (A + j) cq) (A + j) vs9 ∧ Ext W0 wz) (fun _ kv _ => K - (intOf kv).toNat)
       case atStart => exact ⟨0,0,by omega,rfl,rfl,cn0,b2,b1,own,he⟩
       case round =>
        clear b2 b1 own he;obtain ⟨k,bb,hk,rfl,rfl,HB9,b2,b1,own,he⟩ := hrel;have v1 := he.cell t1'
        by_cases hlt3 : k < K
        · have eD := Ext.drew wr
          have eW := he.trans eD;have y1 := eW.cell t1';have y2 := eW.cell t2';have y3 := eW.cell t3';have y4 := eW.cell t4';have k1 := hp.ext (E0.trans eW);have k2 := hp2.ext (E0.trans eW);have hP := HN.out i k hlt hlt3;have hQ := HM.out k j hlt3 hlt2;have q1 : IntKind.i64.wrap ((i : Int) * K) = ((i * K : Nat) : Int) := by rw [← Int.natCast_mul];exact ja7 _ (by omega) (by omega)
          have q2 : IntKind.i64.wrap ((k : Int) * C) = ((k * C : Nat) : Int) := by rw [← Int.natCast_mul];exact ja7 _ (by omega) (by omega)
          have HD := hid (show dotG (fun k => xs.getD (i * K + k) 0) (fun k => ys.getD (k * C + j) 0) (k + 1) = fop .add .f32 (dotG (fun k => xs.getD (i * K + k) 0) (fun k => ys.getD (k * C + j) 0) k) (fop .mul .f32 (xs.getD (i * K + k) 0) (ys.getD (k * C + j) 0)) from rfl);obtain ⟨J,hJ⟩ : ∃ J,J = i * K := ⟨_,rfl⟩;obtain ⟨J2,hJ2⟩ : ∃ J2,J2 = k * C := ⟨_,rfl⟩;have q3 : IntKind.i64.wrap (((i * K : Nat) : Int) + k) = ((i * K + k : Nat) : Int) := by rw [← Int.natCast_add];exact ja7 _ (by omega) (by omega)
          have q4 : IntKind.i64.wrap (((k * C : Nat) : Int) + j) = ((k * C + j : Nat) : Int) := by rw [← Int.natCast_add];exact ja7 _ (by omega) (by omega)
          have q5 : IntKind.i64.wrap (IntKind.i64.wrap ((i : Int) * K) + k) = ((i * K + k : Nat) : Int) := by rw [q1];exact q3
          have q6 : IntKind.i64.wrap (IntKind.i64.wrap ((k : Int) * C) + j) = ((k * C + j : Nat) : Int) := by rw [q2];exact q4
          obtain ⟨P,hPe⟩ : ∃ P,P = i * K + k := ⟨_,rfl⟩;obtain ⟨U,hUe⟩ : ∃ U,U = k * C + j := ⟨_,rfl⟩;rw [← hPe] at q3 q5 hP;rw [← hUe] at q4 q6 hQ;rw [← hJ] at q1 q3;rw [← hJ2] at q2 q4;have HPe := hid hPe;have HUe := hid hUe;clear hPe hUe hJ hJ2;have Q3 := hid q3;have Q4 := hid q4;have Q5 := hid q5;have Q6 := hid q6;go_wp2_with fail;refine jaf (F := fun _ _ _ => False) (by kernel_rfl) (by kernel_rfl) (by kernel_rfl) ?_;intro wf hwf
          repeat (first
           | ((first | (refine jat rfl ?_) | (refine x_mv rfl rfl rfl ?_) | (refine x_as rfl rfl rfl ?_) | ((with_reducible show gx0);first | (refine x_ldF rfl rfl (fun _ => rfl) rfl (fun _ => rfl) rfl rfl k1 hf X.out (by omega) (by omega) ?_;intro r1 g1;have G1 := hid g1;clear g1) | (refine x_ldF rfl rfl (fun _ => rfl) rfl (fun _ => rfl) rfl rfl k2 hf2 Y.out (by omega) (by omega) ?_;intro r2 g2;have G2 := hid g2;clear g2)) | ((with_reducible show gx1);refine x_fop rfl rfl rfl rfl rfl ?_;first | (have zz := G3;intro r4 g4;have G4 := hid g4;clear g4 zz) | (intro r3 g3;have G3 := hid g3;clear g3)));simp only [Act.put,jab,pu1,pu2,pu3,pu4,pu5])
           | (refine ja3 rfl fun K hK w1 hw1 => ?_;have k0 := hw1.cell (y1);have k1 := hw1.cell (y2);have k2 := hw1.cell (y3);have k3 := hw1.cell (y4);go_simp;refine hK _ ?_;clear hK K k0 k1 k2 k3 hw1 w1))
          refine ja4 ?_;clear q1 q2 q3 q4 q5 q6 y1 y2 y3 y4 k1 k2 v1;go_wp2;go_roundw
          case rel =>
           have h1 : cn .f32 r1 = xs.getD P 0 := by
            have h := G1.out
            first
             | (rw [Q5.out,Int.toNat_natCast] at h;exact h)
             | (rw [Q3.out,Int.toNat_natCast] at h;exact h)
             | (rw [Int.toNat_natCast] at h;exact h)
           have h2 : cn .f32 r2 = ys.getD U 0 := by
            have h := G2.out
            first
             | (rw [Q6.out,Int.toNat_natCast] at h;exact h)
             | (rw [Q4.out,Int.toNat_natCast] at h;exact h)
             | (rw [Int.toNat_natCast] at h;exact h)
           refine ⟨k + 1,r4,by omega,by go_num,rfl,?_,(b2.ext eD).ext hwf,(b1.ext eD).ext hwf,jai (jai own eD) hwf,eW.trans hwf⟩;rw [Hid,HD.out,G4.out,G3.out,HB9.out,h1,h2,HPe.out,HUe.out]
          case measure => simp [intOf];omega
        · obtain rfl : k = K := by omega
          have y2 := b2.cell 2 rfl;have f2 := b2.froz 2;have hs := he.size;have hb1 : Hid (cn .f32 bb = f (A + j)) := by rw [Hid,HA.out,HF0.out i j hlt2];exact HB9.out
          go_wp2_with ((with_reducible show gx10);refine jav (u := .float .f32 bb) rfl rfl rfl rfl rfl rfl rfl (fun _ => rfl) (fun _ => rfl) own (by unfold maxLen;omega) (by omega) (by omega) ?_;intro g9 c9 w9 own9 gr9 hg9;have d3 := b2.chg (Chg.of_grown gr9) (fun h => jag own b2 (by decide) _ h.symm rfl);have l3 := d3.cell 2 rfl;have f3 := d3.froz 2);go_roundw
          case rel =>
           have e9 : Ext W0 w9 := he.grown gr9 (fun x hx => by have h1 := jar own x hx;have := (jag own b1 (by decide) x hx);omega);have hch := jco w9 b 2 (.slice (some ⟨g9,0,none⟩) (A + j + 1) c9);exact ⟨j + 1,_,some ⟨g9,0,none⟩,c9,by omega,by go_num,d3.set 2 _,(b1.chg (Chg.of_grown gr9) (fun h => jag own b1 (by decide) _ h.symm rfl)).chg hch (fun h => by omega),jal own9 hch (fun x hx hs => jag own9 d3 (by decide) x hx hs),jca HV.out hb1.out,e9.chg hch (fun x hx => by omega)⟩
          case measure => simp [intOf];omega
     · obtain rfl : j = C := by omega
       go_wp2;go_roundw
       case rel => exact ⟨i + 1,vs9,q,cq,by omega,by go_num,by rw [HAR.out];exact b2,b1,by rw [HAR.out];exact own,by rw [HAR.out];exact HV,he⟩
       case measure => simp [intOf];omega
  · obtain rfl : i = R := by omega
    rw [← hA];have y0 := b2.cell 0 rfl;have y1 := b2.cell 1 rfl;have y2 := b2.cell 2 rfl;have n0 := b1.cell 0 rfl;have n1 := b1.cell 1 rfl;have n2 := b1.cell 2 rfl;have m0 := b1.froz 0;have m1 := b1.froz 1;have m2 := b1.froz 2;have HA := hid hA;clear hA;go_wp2;refine bodyPost_ret (v := .agg #[.int .i64 i,.int .i64 C,.slice q A cq]) (by simp [results,Tryz.results96,go_sem,n0,n1,n2,m0,m1,m2]) rfl ?_;obtain rfl := HA.out;exact jaq.of (jae _ _) (jal own (S := fun k => k = w.heap.size) (by (repeat (first | (with_reducible first | exact Chg.refl _ _ | exact Chg.of_ext (by assumption) | assumption) | ((with_reducible refine Chg.setCell ?_ ?_ _);rotate_left;focus (first | (simp;done) | (simp;omega))) | (with_reducible first | refine Chg.alloc ?_ _ | refine Chg.drew ?_ | refine px3 ?_ (by assumption))))) (fun k hk hs => jag own b1 (by decide) k hk hs)) HV.out rfl ((E0.trans he).chg (S := fun k => k = w.heap.size) (by (repeat (first | (with_reducible first | exact Chg.refl _ _ | exact Chg.of_ext (by assumption) | assumption) | ((with_reducible refine Chg.setCell ?_ ?_ _);rotate_left;focus (first | (simp;done) | (simp;omega))) | (with_reducible first | refine Chg.alloc ?_ _ | refine Chg.drew ?_ | refine px3 ?_ (by assumption))))) (fun k hk => by omega))
end Go.Proofs.YtlimabbeaimdgaaGreat
