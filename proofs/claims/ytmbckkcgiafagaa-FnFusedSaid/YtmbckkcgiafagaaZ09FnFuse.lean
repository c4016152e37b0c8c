/- A part of the proofs: Fwd8, Fwd10, Bits, Same, SameL, HFloat32SS, SameU, Lays, Mod2, Stg. -/
import Derived.Test.YtmbckkcgiafagaaZ08FnFuse
import Derived.Test.YtmbckkcgiafagaaZ07FnFuse
import Derived.Test.YtmbckkcgiafagaaZ02FnFuse
import Derived.Test.YtmbckkcgiafagaaZ03FnFuse
import Derived.Test.YtmbckkcgiafagaaZ06FnFuse
set_option linter.unusedSimpArgs false
set_option linter.unusedVariables false
set_option maxRecDepth 100000
set_option maxHeartbeats 16000000
namespace Go.Proofs.Ytmbckkcgiafagaa
open Go.RowKit
section
variable {P : Program} {w wf : World} {ops : Array Oper} {rest : List Oper} {o : Oper} {a : Act} {Q : Act → Prop} {F : Option Tmp → World → World → Value → Prop}
theorem x_slice {t e s b : Nat} {z : Value} [T : SlTy P t e s z b] {x lo hi : Operand} (hw : Region.wanted o (yielded ops a.tmps) = true) (ho : o.op = .slice t x (some lo) (some hi) none) {p : Option Addr} {n c : Nat} {k1 k2 : IntKind} {li ui : Int} {l u : Nat}
 (hx : a.eval x = .slice p n c) (hlo : a.eval lo = .int k1 li) (hhi : a.eval hi = .int k2 ui) (h1 : li = l) (h2 : ui = u) (h3 : l ≤ u) (h4 : u ≤ c)
 (h : wpX P ops F w wf Q rest (a.put o.dst (.slice (subp p s l c) (u - l) (c - l)))) : wpX P ops F w wf Q (o :: rest) a := by
 subst h1;subst h2;exact x_pure hw (fun w1 _ => by simp [execOp,ho,hx,hlo,hhi,run_slice h3 h4]) h
end
theorem F32s.part {us : List Value} {xs : List Nat} (h : F32s us xs) (l u : Nat) : F32s ((us.take u).drop l) ((xs.take u).drop l) := by
 refine ⟨by simp [h.1],fun i hi => ?_⟩;simp only [List.length_drop,List.length_take] at hi;obtain ⟨b,h1,h2⟩ := h.2 (l + i) (by omega);refine ⟨b,?_,?_⟩
 · rw [List.getElem?_drop,List.getElem?_take_of_lt (by omega)];exact h1
 · rw [h2,List.getD_eq_getElem?_getD,List.getD_eq_getElem?_getD,List.getElem?_drop,List.getElem?_take_of_lt (by omega)]
theorem part_get {xs : List Nat} {l u i : Nat} (h : l + i < u) : ((xs.take u).drop l).getD i 0 = xs.getD (l + i) 0 := by
 rw [List.getD_eq_getElem?_getD,List.getD_eq_getElem?_getD,List.getElem?_drop,List.getElem?_take_of_lt h]
def rO (k : Int) (n : Nat) (ws bs xs : List Nat) (j : Nat) : Nat :=
 if k = 0 then fop .add .f32 (dotG (fun t => ws.getD (j * n + t) 0) (fun t => xs.getD t 0) n) (bs.getD j 0)
 else if k = 1 then reluF (xs.getD j 0)
 else if k = 2 then fop .mul .f32 (ws.getD j 0) (xs.getD j 0)
 else tanF (xs.getD j 0)
def runF (k : Int) (n m : Nat) (ws bs xs : List Nat) : List Nat :=
 if k = 4 then softF xs else if k = 5 then normF ws bs xs else tab m (rO k n ws bs xs)
theorem lay_of {k : Int} {n m nw nb : Nat} (h : layB k n m nw nb = true) : (k = 0 ∨ k = 1 ∨ k = 2 ∨ k = 3 ∨ k = 4 ∨ k = 5) ∧ 1 ≤ n ∧ n ≤ 8 ∧ 1 ≤ m ∧ m ≤ 8 ∧ (k = 0 ∨ n = m) ∧ (k = 0 → nw = n * m ∧ nb = m) ∧ (k = 2 → n = nw) ∧ (k = 5 → n = nw ∧ n = nb) := by
 unfold layB inB at h;simp only [Bool.and_eq_true,decide_eq_true_eq,Bool.or_eq_true] at h;obtain ⟨h1,h2,h3,h4,h5,h6⟩ := h;refine ⟨by omega,by omega,by omega,by omega,by omega,by omega,?_,?_,?_⟩
 · rintro rfl
   simp only [wCnt,bCnt,if_true] at h5 h6;exact ⟨by exact_mod_cast h5,by omega⟩
 · rintro rfl
   simp [wCnt] at h5;omega
 · rintro rfl
   simp [wCnt,bCnt] at h5 h6;omega
theorem run_any (k : Int) (n m nw nb : Nat) (p pw pb : Option Addr) (c cw cb : Nat) (us uw ub : List Value) (xs ws bs : List Nat) (w : World) (hk : layB k n m nw nb = true) (hx : xs.length = n) (hw : ws.length = nw) (hb : bs.length = nb) (hp : Cs w p us) (hf : F32s us xs)
 (hpw : Cs w pw uw) (hfw : F32s uw ws) (hpb : Cs w pb ub) (hfb : F32s ub bs) (hcw : nw ≤ cw) :
 Calls Try.prog 80 #[.agg #[.int .i64 k,.int .i64 n,.int .i64 m,.slice pw nw cw,.slice pb nb cb],.slice p n c] w (RetFl w (runF k n m ws bs xs)) := by
 obtain ⟨h0,h1,h2,h3,h4,h5,h6,h7,h8⟩ := lay_of hk
 by_cases k4 : k = 4
 · subst k4
   have hs : runF 4 n m ws bs xs = softF xs := rfl;rw [hs];have C := hid (fun w1 (e1 : Ext w w1) => softmax_any p n c us xs w1 hx h1 (by omega) (hp.ext e1) hf);clear hx hw hb hk h0 h1 h2 h3 h4 h5 h6 h7 h8 hs;go_enter Try.func80,Try.ntmps80;go_wp2_with ((with_reducible show gx12);refine wl_box (s := jaa) (cs := [.int .i64 4,.int .i64 n,.int .i64 m,.slice pw nw cw,.slice pb nb cb]) rfl rfl rfl rfl (by simp [Value.oneCell']) ?_;intro b v e1 hlo c1;have f0 := c1.cell 0 _ rfl;simp only [jap] at f0);refine (C.out _ e1).mono ?_;rintro e w1 ⟨q,cq,vs,rfl,own0,HF,he⟩
   go_wp2;go_ret;exact ⟨q,cq,vs,rfl,ja0 own0 e1.size,HF,e1.trans he⟩
 · by_cases k5 : k = 5
   · subst k5
     obtain ⟨rfl,rfl⟩ := h8 rfl;have hs : runF 5 n m ws bs xs = normF ws bs xs := rfl;rw [hs];have C := hid (fun w1 (e1 : Ext w w1) => norm_any 5 m p pw pb n c cw cb us uw ub xs ws bs w1 hx hw hb (by omega) (hp.ext e1) hf (hpw.ext e1) hfw (hpb.ext e1) hfb);clear hx hw hb hk h0 h1 h2 h3 h4 h5 h6 h7 h8 hs k4;go_enter Try.func80,Try.ntmps80;go_wp2_with (first | ((with_reducible show gx12);refine wl_box (s := jaa) (cs := [.int .i64 5,.int .i64 n,.int .i64 m,.slice pw n cw,.slice pb n cb]) rfl rfl rfl rfl (by simp [Value.oneCell']) ?_;intro b v e1 hlo c1;have f0 := c1.cell 0 _ rfl;simp only [jap] at f0) | ((with_reducible show gx13);refine wl_ldA (s := jaa) (cs := [.int .i64 5,.int .i64 n,.int .i64 m,.slice pw n cw,.slice pb n cb]) rfl rfl rfl c1 rfl ?_;simp only [ofCs,Sh.agg,if_true]));refine (C.out _ e1).mono ?_;rintro e w1 ⟨q,cq,vs,rfl,own0,HF,he⟩
     go_wp2;go_ret;exact ⟨q,cq,vs,rfl,ja0 own0 e1.size,HF,e1.trans he⟩
   · have hs : runF k n m ws bs xs = tab m (rO k n ws bs xs) := by unfold runF;rw [if_neg k4,if_neg k5]
     rw [hs];have X := hid hx;have HW := hid hw;have HB := hid hb;have b4 := jbt k4;have b5 := jbt k5;have hk4 : k = 0 ∨ k = 1 ∨ k = 2 ∨ k = 3 := by omega
     have H6 := hid h6;have H7 := hid h7;have H5 := hid h5;clear hx hw hb hk h0 hs h6 h7 h8 h5;go_enter Try.func80,Try.ntmps80;go_wp2_with ((with_reducible show gx12);refine wl_box (s := jaa) (cs := [.int .i64 k,.int .i64 n,.int .i64 m,.slice pw nw cw,.slice pb nb cb]) rfl rfl rfl rfl (by simp [Value.oneCell']) ?_;intro b v e1 hlo c1;have f0 := c1.cell 0 _ rfl;have f2 := c1.cell 2 _ rfl;simp only [jap] at f0 f2;have f2b := (Ext.alloc v (.cells #[] 33)).cell f2);have f1 := c1.cell 1 _ rfl;have f3 := c1.cell 3 _ rfl;have f4 := c1.cell 4 _ rfl;simp only [jap] at f1 f3 f4;have hstart : (v.alloc (.cells #[] 33)).ownsRow v.heap.size 33 1 (.slice (some ⟨v.heap.size,0,none⟩) 0 0) 0 [] := World.ownsRow_made v #[] 0 (Nat.le_refl _) (by decide) rfl;have e9 := Ext.alloc v (.cells #[] 33);replace hp := hp.ext e1;replace hpw := hpw.ext e1;replace hpb := hpb.ext e1;go_loopw [5,22] (fun ov iv wr => ∃ (i : Nat) (vs : List Value) (q : Option Addr) (cq : Nat),i ≤ m ∧ iv = .int .i64 i ∧ ov = .slice q i cq ∧ wr.ownsRow v.heap.size 33 1 (.slice q i cq) i vs ∧ Hid (F32s vs (tab i (rO k n ws bs xs))) ∧ Ext v wr) (fun _ iv _ => m - (intOf iv).toNat)
     case atStart => exact ⟨0,[],_,_,by omega,rfl,rfl,hstart,F32s.nil,e9⟩
     case round =>
      clear hstart e9;obtain ⟨i,vs,q,cq,hi,rfl,rfl,own0,HF,he⟩ := hrel;have hB := he.size
      by_cases hlt : i < m
      · have g0 := he.cell f0
        have g1 := he.cell f1;have g3 := he.cell f3;have g4 := he.cell f4;have hpi := hp.ext he;rcases hk4 with rfl | rfl | rfl | rfl
        · obtain ⟨hnw,hnb⟩ := H6.out rfl
          obtain ⟨L,hL⟩ : ∃ L : Nat,L = i * n := ⟨_,rfl⟩;obtain ⟨H,hH⟩ : ∃ H : Nat,H = L + n := ⟨_,rfl⟩;have hb1 : i * n ≤ 7 * 8 := Nat.mul_le_mul (by omega) (by omega)
          have hb2 : H ≤ nw := by
           rw [hH,hL,hnw,← Nat.succ_mul,Nat.mul_comm n m];exact Nat.mul_le_mul_right _ (by omega)
          have m1 : (i : Int) * (n : Int) = (L : Int) := by rw [hL];push_cast;rfl
          have m2 : ((i : Int) + 1) * (n : Int) = (H : Int) := by rw [Int.add_mul,m1,hH];push_cast;omega
          have l1 : IntKind.i64.wrap ((i : Int) * (n : Int)) = (L : Int) := by rw [m1];exact jao _ (by omega) (by omega)
          have l2 : IntKind.i64.wrap (((i : Int) + 1) * (n : Int)) = (H : Int) := by rw [m2];exact jao _ (by omega) (by omega)
          have l3 : IntKind.i64.wrap ((i : Int) + 1) = (i : Int) + 1 := jao _ (by omega) (by omega);obtain ⟨DV,hDV⟩ : ∃ DV,DV = dotG (fun t => ws.getD (i * n + t) 0) (fun t => xs.getD t 0) n := ⟨_,rfl⟩;have hpw1 := hpw.ext he;have C := hid (fun w1 (e1 : Ext wr w1) => dot_any (subp pw 1 L cw) p (H - L) (cw - L) n c ((uw.take (H * 1)).drop (L * 1)) us ((ws.take (H * 1)).drop (L * 1)) xs w1 (by simp [HW.out];omega) X.out (by omega) (by unfold maxLen;omega) ((hpw1.ext e1).sub (by omega) (by omega)) (hfw.part _ _) (hpi.ext e1) hf)
          have hD2 : dotG (fun j => ((ws.take (H * 1)).drop (L * 1)).getD j 0) (fun j => xs.getD j 0) (H - L) = DV := by
           rw [hDV,show H - L = n by omega];refine dotG_congr (fun t ht => ?_) (fun t ht => rfl);rw [part_get (by omega),← hL,Nat.mul_one]
          rw [hD2] at C;have HD := hid hDV;have HH := hid hH;have HL := hid hL;have hbl : i < nb := by omega
          clear hDV hH hL m1 m2 hD2 hb1 hnw hnb;go_wp2;obtain ⟨F,hF⟩ : ∃ F : Option Tmp → World → Value → Prop,F = fun _ _ u => ∃ b,u = .float .f32 b ∧ cn .f32 b = DV := ⟨_,rfl⟩
          have HFF := hid hF;clear hF;have k0 := Ext.drew wr;replace g1 := k0.cell g1;replace g3 := k0.cell g3;replace g4 := k0.cell g4;have kb := (hpb.ext he).ext k0;refine jab (F := F) (by kernel_rfl) (by kernel_rfl) (by kernel_rfl) ?_;intro wf hwf
          repeat (first
           | ((first | (refine jar rfl ?_) | (refine x_mv rfl rfl rfl ?_) | (refine x_as rfl rfl rfl ?_) | ((with_reducible show wpX _ _ _ _ _ _ (Oper.mk _ (Op.slice _ _ _ _ _) _ _ _ _ :: _) _);refine x_slice rfl rfl rfl rfl rfl (l := L) (u := H) rfl rfl (by have := HH.out;omega) (by omega) ?_) | ((with_reducible show gx0);refine x_ldF rfl rfl (fun _ => rfl) rfl (fun _ => rfl) rfl rfl kb hfb HB.out (by omega) (by omega) ?_;intro r2 q2;have G2 := hid q2;clear q2) | ((with_reducible show gx1);refine x_fop rfl rfl rfl rfl rfl ?_;intro r3 q3;have G3 := hid q3;clear q3) | ((with_reducible show gx6);refine jay (f := 124) (args := #[.slice (subp pw 1 L cw) (H - L) (cw - L),.slice p n c]) rfl rfl Try.func124 rfl (by kernel_rfl) ?_ ?_ ?_;(focus (simp [Act.eval];done));(focus (intro w1 hw1;exact ((C.out w1 (k0.trans hw1)).mono fun e w3 ⟨b,h1,h2,h3⟩ => ⟨_,h1,h3,by rw [HFF.out];exact ⟨b,rfl,h2⟩⟩)));rintro u w3 e3 e4 hu;simp only [HFF.out] at hu;obtain ⟨r1,rfl,q1⟩ := hu;have G1 := hid q1;clear q1));simp only [Act.put,jad,pu1,pu2,pu3,pu4,pu5])
           | (refine ja7 rfl fun K hK w1 hw1 => ?_;have k0 := hw1.cell (g1);have k1 := hw1.cell (g3);have k2 := hw1.cell (g4);go_simp;refine hK _ ?_;clear hK K k0 k1 k2 hw1 w1))
          refine ja6 ?_;have hv : cn .f32 r3 = rO 0 n ws bs xs i := by rw [G3.out,G1.out,G2.out,HD.out,Int.toNat_natCast];rfl
          have HV3 := hid hv;clear hv;replace own0 := jak (jak own0 k0) hwf;replace he := (he.trans k0).trans hwf;have hB := he.size;go_wp2_with ((with_reducible show gx9);refine ja4 (u := .float .f32 r3) rfl rfl rfl rfl rfl rfl rfl (fun _ => rfl) (fun _ => rfl) own0 (by unfold maxLen;omega) (by omega) (by omega) ?_;intro g c w4 own4 g4 hg4);go_roundw
          case rel =>
           have own5 : w4.ownsRow v.heap.size 33 1 (.slice (some ⟨g,0,none⟩) (i + 1) c) (i + 1) (vs ++ [.float .f32 r3]) := own4;exact ⟨i + 1,vs ++ [.float .f32 r3],_,_,by omega,by go_num,rfl,own5,by rw [Hid];exact HF.out.push HV3.out,he.grown g4 (fun k hk => jah own0 k hk)⟩
          case measure => simp [intOf];omega
        · go_wp2_with (first | ((with_reducible show gx2);refine wl_ldF rfl rfl rfl rfl (fun _ => rfl) rfl rfl hpi hf X.out (by omega) (by have := H5.out;omega) ?_;intro r2 q2;have G2 := hid q2;clear q2) | ((with_reducible show gx8);fail))
          refine (relu_any r2 _).mono ?_;rintro e w3 ⟨r3,rfl,q3,e3⟩
          have hv : cn .f32 r3 = rO 1 n ws bs xs i := by rw [q3,G2.out,Int.toNat_natCast];rfl
          have HV3 := hid hv;clear hv q3;replace own0 := jak own0 e3;replace he := he.trans e3;have hB := he.size;go_wp2_with ((with_reducible show gx9);refine ja4 (u := .float .f32 r3) rfl rfl rfl rfl rfl rfl rfl (fun _ => rfl) (fun _ => rfl) own0 (by unfold maxLen;omega) (by omega) (by omega) ?_;intro g c w4 own4 g4 hg4);go_roundw
          case rel =>
           have own5 : w4.ownsRow v.heap.size 33 1 (.slice (some ⟨g,0,none⟩) (i + 1) c) (i + 1) (vs ++ [.float .f32 r3]) := own4;exact ⟨i + 1,vs ++ [.float .f32 r3],_,_,by omega,by go_num,rfl,own5,by rw [Hid];exact HF.out.push HV3.out,he.grown g4 (fun k hk => jah own0 k hk)⟩
          case measure => simp [intOf];omega
        · have hwl : i < nw := by have := H5.out;have := H7.out rfl;omega
          have hxl : i < n := by have := H5.out;omega
          have hpw1 := hpw.ext he;go_wp2;have k0 := Ext.drew wr;replace g3 := k0.cell g3;have ka := hpi.ext k0;have kb := hpw1.ext k0;refine jab (F := fun _ _ _ => False) (by kernel_rfl) (by kernel_rfl) (by kernel_rfl) ?_;intro wf hwf
          repeat (first
           | ((first | (refine jar rfl ?_) | (refine x_mv rfl rfl rfl ?_) | (refine x_as rfl rfl rfl ?_) | ((with_reducible show gx0);first | (refine x_ldF rfl rfl (fun _ => rfl) rfl (fun _ => rfl) rfl rfl kb hfw HW.out (by omega) (by omega) ?_;intro r1 q1;have G1 := hid q1;clear q1) | (refine x_ldF rfl rfl (fun _ => rfl) rfl (fun _ => rfl) rfl rfl ka hf X.out (by omega) (by omega) ?_;intro r2 q2;have G2 := hid q2;clear q2)) | ((with_reducible show gx1);refine x_fop rfl rfl rfl rfl rfl ?_;intro r3 q3;have G3 := hid q3;clear q3));simp only [Act.put,jad,pu1,pu2,pu3,pu4,pu5])
           | (refine ja7 rfl fun K hK w1 hw1 => ?_;have k0 := hw1.cell (g3);go_simp;refine hK _ ?_;clear hK K k0 hw1 w1))
          refine ja6 ?_;have hv : cn .f32 r3 = rO 2 n ws bs xs i := by rw [G3.out,G1.out,G2.out,Int.toNat_natCast];rfl
          have HV3 := hid hv;clear hv;replace own0 := jak (jak own0 k0) hwf;replace he := (he.trans k0).trans hwf;have hB := he.size;go_wp2_with ((with_reducible show gx9);refine ja4 (u := .float .f32 r3) rfl rfl rfl rfl rfl rfl rfl (fun _ => rfl) (fun _ => rfl) own0 (by unfold maxLen;omega) (by omega) (by omega) ?_;intro g c w4 own4 g4 hg4);go_roundw
          case rel =>
           have own5 : w4.ownsRow v.heap.size 33 1 (.slice (some ⟨g,0,none⟩) (i + 1) c) (i + 1) (vs ++ [.float .f32 r3]) := own4;exact ⟨i + 1,vs ++ [.float .f32 r3],_,_,by omega,by go_num,rfl,own5,by rw [Hid];exact HF.out.push HV3.out,he.grown g4 (fun k hk => jah own0 k hk)⟩
          case measure => simp [intOf];omega
        · go_wp2_with (first | ((with_reducible show gx2);refine wl_ldF rfl rfl rfl rfl (fun _ => rfl) rfl rfl hpi hf X.out (by omega) (by have := H5.out;omega) ?_;intro r2 q2;have G2 := hid q2;clear q2) | ((with_reducible show gx8);fail))
          refine (TanhNumber_any r2 _).mono ?_;rintro e w3 ⟨r3,rfl,q3,e3⟩
          have hv : cn .f32 r3 = rO 3 n ws bs xs i := by rw [q3,G2.out,Int.toNat_natCast];rfl
          have HV3 := hid hv;clear hv q3;replace own0 := jak own0 e3;replace he := he.trans e3;have hB := he.size;go_wp2_with ((with_reducible show gx9);refine ja4 (u := .float .f32 r3) rfl rfl rfl rfl rfl rfl rfl (fun _ => rfl) (fun _ => rfl) own0 (by unfold maxLen;omega) (by omega) (by omega) ?_;intro g c w4 own4 g4 hg4);go_roundw
          case rel =>
           have own5 : w4.ownsRow v.heap.size 33 1 (.slice (some ⟨g,0,none⟩) (i + 1) c) (i + 1) (vs ++ [.float .f32 r3]) := own4;exact ⟨i + 1,vs ++ [.float .f32 r3],_,_,by omega,by go_num,rfl,own5,by rw [Hid];exact HF.out.push HV3.out,he.grown g4 (fun k hk => jah own0 k hk)⟩
          case measure => simp [intOf];omega
      · obtain rfl : m = i := by omega
        go_wp2;go_ret;exact retFl_own (jbg _ _) (ja0 own0 e1.size) HF.out rfl (e1.trans he)
def layF (d : jaa.T) (xs : List Nat) : List Nat := runF d.1 d.2.1.toNat d.2.2.1.toNat d.2.2.2.1 d.2.2.2.2.1 xs
theorem layD_int {d : jaa.T} (h : layD d = true) : (d.2.1.toNat : Int) = d.2.1 ∧ (d.2.2.1.toNat : Int) = d.2.2.1 ∧ d.2.1.toNat ≤ 8 ∧ 1 ≤ d.2.1.toNat ∧ d.2.2.1.toNat ≤ 8 ∧ 1 ≤ d.2.2.1.toNat := by
 unfold layD layB inB at h;simp only [Bool.and_eq_true,decide_eq_true_eq] at h;omega
theorem softF_len (xs : List Nat) : (softF xs).length = xs.length := jbg _ _
theorem normF_len (ws bs xs : List Nat) : (normF ws bs xs).length = xs.length := jbg _ _
theorem layF_len {d : jaa.T} (h : layD d = true) {xs : List Nat} (hx : (xs.length : Int) = d.2.1) : ((layF d xs).length : Int) = d.2.2.1 := by
 obtain ⟨a1,a2,_⟩ := layD_int h;have h' : layB d.1 d.2.1.toNat d.2.2.1.toNat d.2.2.2.1.length d.2.2.2.2.1.length = true := by rw [a1,a2];exact h
 obtain ⟨b0,_,_,_,_,b5,_⟩ := lay_of h';unfold layF runF
 split
 · rw [softF_len];rcases b5 with b | b <;> omega
 · split
   · rw [normF_len];rcases b5 with b | b <;> omega
   · rw [jbg];exact a2
theorem run_lay (cs : List Value) (d : jaa.T) (p : Option Addr) (n c : Nat) (us : List Value) (xs : List Nat) (w : World) (h : Rep w jaa cs d) (hv : layD d = true) (hn : xs.length = n) (hx : (n : Int) = d.2.1) (hp : Cs w p us) (hf : F32s us xs) :
 Calls Try.prog 80 #[.agg cs.toArray,.slice p n c] w (RetFl w (layF d xs)) := by
 obtain ⟨pw,cw,pb,cb,uw,ub,rfl,k1,k2,k3,k4,k5,k6⟩ := lay_nums h;obtain ⟨a1,a2,_⟩ := layD_int hv;have hk : layB d.1 d.2.1.toNat d.2.2.1.toNat d.2.2.2.1.length d.2.2.2.2.1.length = true := by rw [a1,a2];exact hv
 have := run_any d.1 d.2.1.toNat d.2.2.1.toNat _ _ p pw pb c cw cb us uw ub xs d.2.2.2.1 d.2.2.2.2.1 w hk (by omega) rfl rfl hp hf k1 k2 k4 k5 k3;rw [a1,a2,show d.2.1.toNat = n by omega] at this;unfold layF;rw [show d.2.1.toNat = n by omega];exact this
theorem valid_at {w : World} {cs : List Value} {d : jaa.T} (h : Rep w jaa cs d) : Calls Try.prog 77 #[.agg cs.toArray] w (RetB w (layD d)) := by
 obtain ⟨pw,cw,pb,cb,rfl,k1,k2⟩ := lay_vals h;exact jbm d.1 d.2.1 d.2.2.1 pw pb _ cw _ cb w k1 k2
theorem out_flts {w w' : World} {xs : List Nat} {e : Ending} {q : Option Addr} {c : Nat} {vs : List Value} (h : w'.ownsRow w.heap.size 33 1 (.slice q xs.length c) xs.length vs) (hf : F32s vs xs) (he : e = .returned (.tuple #[.slice q xs.length c,.bool true])) (hx : Ext w w') : OutOk w (.sl .flt) (xs,true) e w' := by
 have h1 := jbv.2 ⟨q,c,vs,rfl,jbl h,hf,(jat h).1,(jat h).2,rfl⟩;refine ⟨[.slice q xs.length c],_,he,h1,?_,?_,hx⟩
 · cases q <;> simp [jac]
 · intro b hb
   cases q with
   | none => simp [jac] at hb
   | some a => simp [jac] at hb;subst hb;exact jah h _ rfl
theorem run_extern {P : Program} {f : FuncId} {fn : Func} {e : Array Value → Sem Value} {args : Array Value} {v : Value} {w : World} (hf : P.funcs[f]? = some fn) (hname : (fn.name == "runtime.NumGoroutine") = false) (hb : fn.body.isNone = true)
 (hn : Extern.findNext fn = none) (he : Extern.find fn = some e) (hr : (e args).run P w = .ok v w) : (callFunc f args).run P w = .ok (.value v) w := by
 have hname' : ¬ fn.name = "runtime.NumGoroutine" := by simpa using hname
 have hb' : fn.body = none := by simpa using hb
 simp [callFunc,hf,hname',hb',hn,he,hr,program,Sem.run,mark]
theorem run_f32bits (b : Nat) (w : World) : (callFunc 166 #[.float .f32 b]).run Try.prog w = .ok (.value (.int .u32 b)) w :=
 run_extern (e := Extern.MathFloatBits.float32bits) Try.func166 (by kernel_rfl) (by kernel_rfl) (by kernel_rfl) (by kernel_rfl) rfl
theorem run_f32from (n : Int) (w : World) : (callFunc 170 #[.int .u32 n]).run Try.prog w = .ok (.value (.float .f32 n.toNat)) w :=
 run_extern (e := Extern.MathFloatBits.float32frombits) Try.func170 (by kernel_rfl) (by kernel_rfl) (by kernel_rfl) (by kernel_rfl) rfl
def bitsOf (x : Nat) : Int := wrap64 x
theorem bitsOf_nan : bitsOf (nanB .f32) = 2143289344 := by decide +kernel
theorem l01Bits_any (b : Nat) (w : World) : Calls Try.prog 152 #[.float .f32 b] w fun e w' => e = .returned (.int .i64 (bitsOf (cn .f32 b))) ∧ w = w' := by
 by_cases hn : (FloatKind.f32.decode b).isNaN = true
 · have ha : (FloatKind.f32.format.order b b != some .eq) = true := by rw [order_nan hn];rfl
   go_enter Try.func152,Try.ntmps152;go_wp2;go_ret;exact ⟨by rw [cn_nan hn,bitsOf_nan];rfl,rfl⟩
 · have hn' : (FloatKind.f32.decode b).isNaN = false := by simpa using hn
   have ha : (FloatKind.f32.format.order b b != some .eq) = false := by rw [order_self hn'];rfl
   have hx := run_f32bits b;have hcn := jba hn';go_enter Try.func152,Try.ntmps152;go_wp2;go_ret;exact ⟨by rw [hcn];rfl,rfl⟩
theorem widen_some {a : Nat} (na : (FloatKind.f32.decode a).isNaN = false) : floatToFloatBits .f32 a .f64 = some (jam .f32 a .f64) := by
 have ho := jbd a;unfold fover at ho;rw [na] at ho;simp only [Bool.not_false,Bool.true_and] at ho;unfold jam
 cases h : floatToFloatBits .f32 a .f64 with
 | none => rw [h] at ho;cases ho
 | some r => rfl
theorem wrap64_neg {r : Nat} (h : r < 18446744073709551616) : decide (wrap64 r < 0) = decide (9223372036854775808 ≤ r) := by
 unfold wrap64;rw [Bool.eq_iff_iff];simp only [decide_eq_true_eq];omega
theorem run_f64bits (b : Nat) (w : World) : (callFunc 95 #[.float .f64 b]).run Try.prog w = .ok (.value (.int .u64 b)) w :=
 run_extern (e := Extern.MathFloatBits.float64bits) Try.func95 (by kernel_rfl) (by kernel_rfl) (by kernel_rfl) (by kernel_rfl) rfl
theorem Signbit_any (r : Nat) (w : World) (hr : r < 18446744073709551616) : Calls Try.prog 54 #[.float .f64 r] w fun e w' => e = .returned (.bool (decide (9223372036854775808 ≤ r))) ∧ w' = w := by
 have hx := run_f64bits r;have hw := wrap64_neg hr;go_enter Try.func54,Try.ntmps54;go_wp2;go_ret;exact ⟨by first | rw [← hw];rfl | skip,rfl⟩
def In32 (xs : List Nat) : Prop := ∀ x ∈ xs,x < 4294967296
-- the slice type is an instance of Ty
instance elFloat32SS : ElTy Try.prog 25 (.sl .flt) := ⟨by kernel_rfl,by kernel_rfl⟩
def Fl3 (w : World) (p : Option Addr) (xs : List Nat) : Prop := ∃ vs,Cs w p vs ∧ F32s vs xs ∧ xs.length ≤ maxLen ∧ In32 xs
theorem Fl3.ext {w w' : World} {p : Option Addr} {xs : List Nat} (h : Fl3 w p xs) (e : Ext w w') : Fl3 w' p xs := by
 obtain ⟨vs,h1,h2,h3,h4⟩ := h;exact ⟨vs,h1.ext e,h2,h3,h4⟩
structure Lays (w : World) (p : Option Addr) (n : Nat) (css : List (List Value)) (l : List jaa.T) : Prop where
 cs : Cs w p css.flatten
 all : All2 (Rep w jaa) css l
 size : ∀ c ∈ css,c.length = jaa.sz
 one : ∀ c ∈ css,∀ u ∈ c,u.oneCell' = true
 len : l.length = n
 cnt : css.length = n
 fit : ∀ x ∈ l,Fit jaa x
 le : n ≤ maxLen
theorem Lays.ext {w w' : World} {p : Option Addr} {n : Nat} {css : List (List Value)} {l : List jaa.T} (h : Lays w p n css l) (e : Ext w w') : Lays w' p n css l :=
 ⟨h.cs.ext e,h.all.imp fun _ _ => Rep.ext e,h.size,h.one,h.len,h.cnt,h.fit,h.le⟩
theorem lays_of {w : World} {v : Value} {l : List jaa.T} (h : Rep w (.sl jaa) [v] l) (hf : Fit (.sl jaa) l) : ∃ p c css,v = .slice p l.length c ∧ Lays w p l.length css l := by
 obtain ⟨p,c,css,h1,a2,a3,a4,a5⟩ := h
 cases h1
 refine ⟨p,c,css,rfl,a2,a5,fun c hc => ?_,fun c hc => ?_,rfl,a5.length,hf,Nat.le_trans a3 a4⟩
 · obtain ⟨i,hi,rfl⟩ := List.mem_iff_getElem.1 hc;obtain ⟨_,h⟩ := a5.get' i (by rw [← a5.length];exact hi);exact h.size
 · obtain ⟨i,hi,rfl⟩ := List.mem_iff_getElem.1 hc;obtain ⟨_,h⟩ := a5.get' i (by rw [← a5.length];exact hi);exact h.one
structure Slts (w : World) (p : Option Addr) (n : Nat) (us : List Value) (l : List (List Nat)) : Prop where
 cs : Cs w p us
 at' : ∀ i,i < n → ∃ q c,us[i]? = some (.slice q (l.getD i []).length c) ∧ Fl3 w q (l.getD i [])
 len : l.length = n
 cnt : us.length = n
 le : n ≤ maxLen
theorem Slts.ext {w w' : World} {p : Option Addr} {n : Nat} {us : List Value} {l : List (List Nat)} (h : Slts w p n us l) (e : Ext w w') : Slts w' p n us l :=
 ⟨h.cs.ext e,fun i hi => by obtain ⟨q,c,h1,h2⟩ := h.at' i hi;exact ⟨q,c,h1,h2.ext e⟩,h.len,h.cnt,h.le⟩
theorem jbk (p : Option Addr) (n c : Nat) (l : List jaa.T) (css : List (List Value)) (w : World) (hn : l.length = n) (hm : n ≤ maxLen)
 (a2 : Cs w p css.flatten) (a5 : All2 (Rep w jaa) css l) (a6 : ∀ c ∈ css,c.length = jaa.sz) (a7 : css.length = n) :
 Calls Try.prog 35 #[.agg #[.slice p n c]] w (RetB w (modB l)) := by
 unfold maxLen at hm;unfold modB;generalize hG : modGo none l = G;have HG := hid hG;have HL := hid hn;clear hG;go_enter Try.func35,Try.ntmps35;go_wp2;go_loopw [8] (fun iv wr => ∃ (i : Nat),i ≤ n ∧ iv = .int .i64 i ∧ Hid (modGo (prevL l i) (l.drop i) = G) ∧ Ext w wr ∧ wr.cell? ⟨w.heap.size,0,none⟩ = some (.slice p n c) ∧ w.heap.size < wr.heap.size) (fun iv _ => n - (intOf iv).toNat)
 case atStart => exact ⟨0,by omega,rfl,by simpa [Hid,prevL] using HG.out,Ext.alloc _ _,by simp,by simp⟩
 case round =>
  obtain ⟨i,hi,rfl,HI,he,g0,hsz⟩ := hrel
  by_cases hlt : i < n
  · have hil : i < l.length := by rw [HL.out];exact hlt
    obtain ⟨ci,hci,ri⟩ := a5.get i l[i] (by simp);obtain ⟨pw,cw,pb,cb,rfl,l1,l2⟩ := lay_vals ri;have hst := HI.out;rw [modGo_at hil] at hst;have hs1 := a2.some_of a6 (by decide) (show 0 < css.length by omega);have hp := a2.ext he;generalize hD : l[i] = d at *;have HD := hid hD;clear hD;have C := hid (fun w1 => calls_retB (jbm d.1 d.2.1 d.2.2.1 pw pb _ cw _ cb w1 l1 l2));have hne : w.heap.size ≠ wr.heap.size := by omega
    cases hb : layD d
    · have hG : G = false := by rw [← hst,hb];rfl
      subst hG;unfold layD at hb;rw [hb] at C;clear hb hst;go_wp2_with ((with_reducible show gx2);refine wl_idxloadE (s := jaa) (j := i) rfl rfl rfl rfl (fun _ => rfl) rfl rfl rfl hp a6 a7 hlt hs1 hci ?_;simp only [ofCs,Sh.agg,if_true]);have E1 := (Ext.alloc wr (.cells #[.int .i64 d.1,.int .i64 d.2.1,.int .i64 d.2.2.1,.slice pw (List.length d.2.2.2.1) cw,.slice pb (List.length d.2.2.2.2.1) cb] 41)).trans (Ext.drew _);have gd := E1.cell g0;have hpd := hp.ext E1;obtain ⟨F,hF⟩ : ∃ F : Option Tmp → World → Value → Prop,F = fun _ _ u => u = .bool false := ⟨_,rfl⟩
      have HF := hid hF;clear hF;refine jab (F := F) (by kernel_rfl) (by kernel_rfl) (by kernel_rfl) ?_;intro wf hwf
      repeat (first
       | ((first | (refine jar rfl ?_) | (refine x_mv rfl rfl rfl ?_) | (refine x_as rfl rfl rfl ?_) | ((with_reducible show gx6);refine jay (f := 77) (args := #[.agg #[.int .i64 d.1,.int .i64 d.2.1,.int .i64 d.2.2.1,.slice pw (List.length d.2.2.2.1) cw,.slice pb (List.length d.2.2.2.2.1) cb]]) rfl rfl Try.func77 rfl (by kernel_rfl) ?_ ?_ ?_;(focus (simp [Act.eval];done));(focus (intro w1 hw1;exact (by rw [HF.out];exact C.out w1)));rintro u w3 e3 e4 hu;simp only [HF.out] at hu;subst hu));simp only [Act.put,jad,pu1,pu2,pu3,pu4,pu5])
       | (refine ja7 rfl fun K hK w1 hw1 => ?_;have k0 := hw1.cellOf (b := wr.heap.size) (by simp);have k1 := hw1.cell (gd);go_simp;refine hK _ ?_;clear hK K k0 k1 hw1 w1))
      refine ja6 ?_;go_wp2;go_ret;exact ⟨ret_bool (by simp),(he.trans E1).trans hwf⟩
    have hb2 := hb;unfold layD at hb2;rw [hb2] at C;rw [hb,Bool.true_and] at hst;clear hb hb2;rcases Nat.eq_zero_or_pos i with h0 | h0
    · subst h0
      have hst2 : modGo (prevL l 1) (l.drop 1) = G := by rw [← hst];simp [linkL,prevL]
      have Hst := hid hst2;clear hst hst2;go_wp2_with ((with_reducible show gx2);refine wl_idxloadE (s := jaa) (j := 0) rfl rfl rfl rfl (fun _ => rfl) rfl rfl rfl hp a6 a7 hlt hs1 hci ?_;simp only [ofCs,Sh.agg,if_true]);have E1 := (Ext.alloc wr (.cells #[.int .i64 d.1,.int .i64 d.2.1,.int .i64 d.2.2.1,.slice pw (List.length d.2.2.2.1) cw,.slice pb (List.length d.2.2.2.2.1) cb] 41)).trans (Ext.drew _);have gd := E1.cell g0;have hpd := hp.ext E1;obtain ⟨F,hF⟩ : ∃ F : Option Tmp → World → Value → Prop,F = fun _ _ u => u = .bool true := ⟨_,rfl⟩
      have HF := hid hF;clear hF;refine jab (F := F) (by kernel_rfl) (by kernel_rfl) (by kernel_rfl) ?_;intro wf hwf
      repeat (first
       | ((first | (refine jar rfl ?_) | (refine x_mv rfl rfl rfl ?_) | (refine x_as rfl rfl rfl ?_) | ((with_reducible show gx6);refine jay (f := 77) (args := #[.agg #[.int .i64 d.1,.int .i64 d.2.1,.int .i64 d.2.2.1,.slice pw (List.length d.2.2.2.1) cw,.slice pb (List.length d.2.2.2.2.1) cb]]) rfl rfl Try.func77 rfl (by kernel_rfl) ?_ ?_ ?_;(focus (simp [Act.eval];done));(focus (intro w1 hw1;exact (by rw [HF.out];exact C.out w1)));rintro u w3 e3 e4 hu;simp only [HF.out] at hu;subst hu));simp only [Act.put,jad,pu1,pu2,pu3,pu4,pu5])
       | (refine ja7 rfl fun K hK w1 hw1 => ?_;have k0 := hw1.cellOf (b := wr.heap.size) (by simp);have k1 := hw1.cell (gd);go_simp;refine hK _ ?_;clear hK K k0 k1 hw1 w1))
      refine ja6 ?_;go_wp2;go_roundw
      case rel => exact ⟨1,by omega,by go_num,Hst.out,(he.trans E1).trans hwf,hwf.cell gd,by have := hwf.size;simp at this;omega⟩
      case measure => simp [intOf];omega
    · obtain ⟨j,rfl⟩ : ∃ j,i = j + 1 := ⟨i - 1,by omega⟩
      obtain ⟨cj,hcj,rj⟩ := a5.get j l[j] (by simp);obtain ⟨qw,dw,qb,db,rfl,_,_⟩ := lay_vals rj;have hlk : linkL (prevL l (j + 1)) d.2.1 = decide (d.2.1 = layO l[j]) := by simp [prevL,linkL,show j < l.length by omega]
      rw [hlk] at hst;have hA : IntKind.i64.wrap (((j + 1 : Nat) : Int) - 1) = (j : Int) := by rw [show ((j + 1 : Nat) : Int) - 1 = (j : Int) by omega];exact jao _ (by omega) (by omega)
      have hB : IntKind.i64.wrap ((j : Int) + 1 - 1) = (j : Int) := by rw [show (j : Int) + 1 - 1 = (j : Int) by omega];exact jao _ (by omega) (by omega)
      have hC : IntKind.i64.wrap (j : Int) = (j : Int) := jao _ (by omega) (by omega);clear hlk
      by_cases hq : d.2.1 = layO l[j]
      · have hst2 : modGo (prevL l (j + 1 + 1)) (l.drop (j + 1 + 1)) = G := by rw [← hst];simp [hq]
        have Hst := hid hst2;have Q := bne_f hq;unfold layO at Q;clear hst hst2 hq;go_wp2_with ((with_reducible show gx2);refine wl_idxloadE (s := jaa) (j := j + 1) rfl rfl rfl rfl (fun _ => rfl) rfl rfl rfl hp a6 a7 hlt hs1 hci ?_;simp only [ofCs,Sh.agg,if_true]);have E1 := (Ext.alloc wr (.cells #[.int .i64 d.1,.int .i64 d.2.1,.int .i64 d.2.2.1,.slice pw (List.length d.2.2.2.1) cw,.slice pb (List.length d.2.2.2.2.1) cb] 41)).trans (Ext.drew _);have gd := E1.cell g0;have hpd := hp.ext E1;obtain ⟨F,hF⟩ : ∃ F : Option Tmp → World → Value → Prop,F = fun _ _ u => u = .bool true := ⟨_,rfl⟩
        have HF := hid hF;clear hF;refine jab (F := F) (by kernel_rfl) (by kernel_rfl) (by kernel_rfl) ?_;intro wf hwf
        repeat (first
         | ((first | (refine jar rfl ?_) | (refine x_mv rfl rfl rfl ?_) | (refine x_as rfl rfl rfl ?_) | ((with_reducible show gx7);refine x_ldField (f := 2) (j := j) (off := 2) rfl rfl (fun _ => rfl) rfl (fun _ _ => rfl) rfl (fun _ => rfl) (fun _ _ => rfl) jbe rfl rfl (by omega) hpd a6 a7 (by omega) hs1 hcj rfl ?_) | ((with_reducible show gx6);refine jay (f := 77) (args := #[.agg #[.int .i64 d.1,.int .i64 d.2.1,.int .i64 d.2.2.1,.slice pw (List.length d.2.2.2.1) cw,.slice pb (List.length d.2.2.2.2.1) cb]]) rfl rfl Try.func77 rfl (by kernel_rfl) ?_ ?_ ?_;(focus (simp [Act.eval];done));(focus (intro w1 hw1;exact (by rw [HF.out];exact C.out w1)));rintro u w3 e3 e4 hu;simp only [HF.out] at hu;subst hu));simp only [Act.put,jad,pu1,pu2,pu3,pu4,pu5])
         | (refine ja7 rfl fun K hK w1 hw1 => ?_;have k0 := hw1.cellOf (b := wr.heap.size) (by simp);have k1 := hw1.cell (gd);go_simp;refine hK _ ?_;clear hK K k0 k1 hw1 w1))
        refine ja6 ?_;go_wp2;go_roundw
        case rel => exact ⟨j + 1 + 1,by omega,by go_num,Hst.out,(he.trans E1).trans hwf,hwf.cell gd,by have := hwf.size;simp at this;omega⟩
        case measure => simp [intOf];omega
      · have hG : G = false := by rw [← hst];simp [hq]
        subst hG;have Q := bne_t hq;unfold layO at Q;clear hst hq;go_wp2_with ((with_reducible show gx2);refine wl_idxloadE (s := jaa) (j := j + 1) rfl rfl rfl rfl (fun _ => rfl) rfl rfl rfl hp a6 a7 hlt hs1 hci ?_;simp only [ofCs,Sh.agg,if_true]);have E1 := (Ext.alloc wr (.cells #[.int .i64 d.1,.int .i64 d.2.1,.int .i64 d.2.2.1,.slice pw (List.length d.2.2.2.1) cw,.slice pb (List.length d.2.2.2.2.1) cb] 41)).trans (Ext.drew _);have gd := E1.cell g0;have hpd := hp.ext E1;obtain ⟨F,hF⟩ : ∃ F : Option Tmp → World → Value → Prop,F = fun _ _ u => u = .bool true := ⟨_,rfl⟩
        have HF := hid hF;clear hF;refine jab (F := F) (by kernel_rfl) (by kernel_rfl) (by kernel_rfl) ?_;intro wf hwf
        repeat (first
         | ((first | (refine jar rfl ?_) | (refine x_mv rfl rfl rfl ?_) | (refine x_as rfl rfl rfl ?_) | ((with_reducible show gx7);refine x_ldField (f := 2) (j := j) (off := 2) rfl rfl (fun _ => rfl) rfl (fun _ _ => rfl) rfl (fun _ => rfl) (fun _ _ => rfl) jbe rfl rfl (by omega) hpd a6 a7 (by omega) hs1 hcj rfl ?_) | ((with_reducible show gx6);refine jay (f := 77) (args := #[.agg #[.int .i64 d.1,.int .i64 d.2.1,.int .i64 d.2.2.1,.slice pw (List.length d.2.2.2.1) cw,.slice pb (List.length d.2.2.2.2.1) cb]]) rfl rfl Try.func77 rfl (by kernel_rfl) ?_ ?_ ?_;(focus (simp [Act.eval];done));(focus (intro w1 hw1;exact (by rw [HF.out];exact C.out w1)));rintro u w3 e3 e4 hu;simp only [HF.out] at hu;subst hu));simp only [Act.put,jad,pu1,pu2,pu3,pu4,pu5])
         | (refine ja7 rfl fun K hK w1 hw1 => ?_;have k0 := hw1.cellOf (b := wr.heap.size) (by simp);have k1 := hw1.cell (gd);go_simp;refine hK _ ?_;clear hK K k0 k1 hw1 w1))
        refine ja6 ?_;go_wp2;go_ret;exact ⟨ret_bool (by simp),(he.trans E1).trans hwf⟩
  · obtain rfl : i = n := by omega
    have hst := HI.out;rw [List.drop_of_length_le (by rw [HL.out];exact Nat.le_refl _)] at hst;have hst2 : G = true := by rw [← hst];simp [modGo]
    subst hst2;have hL := HL.out
    by_cases h1 : 1 ≤ i
    · by_cases h6 : i ≤ 6
      · have h6' : (i : Int) ≤ 6 := by omega
        go_wp2;go_ret;exact ⟨ret_bool (by first | rfl | (rw [hL];simp [h1,h6,h6'])),he⟩
      · have h6' : ¬ (i : Int) ≤ 6 := by omega
        go_wp2;go_ret;exact ⟨ret_bool (by first | rfl | (rw [hL];simp [h1,h6,h6'])),he⟩
    · go_wp2
      go_ret;exact ⟨ret_bool (by first | rfl | (rw [hL];simp [h1])),he⟩
def curF (l : List jaa.T) (x : List Nat) (i : Nat) : List Nat := (l.take i).foldl (fun y d => layF d y) x
theorem curF_zero (l : List jaa.T) (x : List Nat) : curF l x 0 = x := rfl
theorem curF_succ {l : List jaa.T} (x : List Nat) {i : Nat} (h : i < l.length) : curF l x (i + 1) = layF l[i] (curF l x i) := by
 unfold curF;rw [List.take_add_one,List.getElem?_eq_getElem h,List.foldl_append];rfl
def inL (l : List jaa.T) (i : Nat) : Int := (l[i]?.map fun d => d.2.1).getD 0
def outL (l : List jaa.T) : Int := (l[l.length - 1]?.map fun d => d.2.2.1).getD 0
theorem modGo_all {l : List jaa.T} : ∀ {i : Nat} {p : Option Int},modGo p l = true → ∀ (h : i < l.length),layD l[i] = true ∧ ∀ (h' : i + 1 < l.length),l[i + 1].2.1 = l[i].2.2.1 := by
 induction l with
 | nil => intro i p _ h;simp at h
 | cons d t ih =>
   intro i p hm h;simp only [modGo,Bool.and_eq_true] at hm;obtain ⟨h1,h2,h3⟩ := hm
   cases i with
   | zero =>
     refine ⟨h1,fun h' => ?_⟩
     cases t with
     | nil => simp at h'
     | cons d2 t2 =>
       simp only [modGo,Bool.and_eq_true,linkL,decide_eq_true_eq] at h3;exact h3.2.1
   | succ i =>
     have := ih (i := i) h3 (by simpa using h)
     simpa using this
structure ModOk (l : List jaa.T) : Prop where
 pos : 1 ≤ l.length
 few : l.length ≤ 6
 lay : ∀ i (h : i < l.length),layD l[i] = true
 link : ∀ i (h : i + 1 < l.length),l[i + 1].2.1 = (l[i]'(by omega)).2.2.1
theorem modOk {l : List jaa.T} (h : modB l = true) : ModOk l := by
 unfold modB at h;simp only [Bool.and_eq_true,decide_eq_true_eq] at h;obtain ⟨h1,h2,h3⟩ := h;exact ⟨h1,h2,fun i hi => (modGo_all h3 hi).1,fun i hi => (modGo_all h3 (by omega)).2 hi⟩
theorem cur_len {l : List jaa.T} (h : ModOk l) {x : List Nat} (hx : (x.length : Int) = inL l 0) : ∀ i (hi : i < l.length),((curF l x i).length : Int) = l[i].2.1
 | 0,hi => by rw [curF_zero,hx];unfold inL;simp [hi]
 | i + 1,hi => by
   rw [curF_succ x (by omega),h.link i hi];exact layF_len (h.lay i (by omega)) (cur_len h hx i (by omega))
theorem cur_out {l : List jaa.T} (h : ModOk l) {x : List Nat} (hx : (x.length : Int) = inL l 0) : ((curF l x l.length).length : Int) = outL l := by
 have hp := h.pos;obtain ⟨n,hn⟩ : ∃ n,l.length = n + 1 := ⟨l.length - 1,by omega⟩
 have h1 : ((curF l x (n + 1)).length : Int) = (l[n]'(by omega)).2.2.1 := by
  rw [curF_succ x (by omega)];exact layF_len (h.lay n (by omega)) (cur_len h hx n (by omega))
 unfold outL;rw [hn,h1];simp [show n < l.length by omega]
def stF (l : List jaa.T) (x : List Nat) (i : Nat) : List (List Nat) := (List.range i).map fun j => curF l x (j + 1)
theorem stF_len (l : List jaa.T) (x : List Nat) (i : Nat) : (stF l x i).length = i := by simp [stF]
theorem stF_succ (l : List jaa.T) (x : List Nat) (i : Nat) : stF l x (i + 1) = stF l x i ++ [curF l x (i + 1)] := by simp [stF,List.range_succ]
theorem retFl_thing {w w' : World} {xs : List Nat} {e : Ending} (h : RetFl w xs e w') : ∃ q c bs,e = .returned (.slice q xs.length c) ∧ Own w' (.sl .flt) [.slice q xs.length c] xs bs ∧ bs.Nodup ∧ (∀ b ∈ bs,w.heap.size ≤ b) ∧ Ext w w' := by
 obtain ⟨q,c,vs,he,ho,hf,hx⟩ := h;refine ⟨q,c,jac q,he,jbv.2 ⟨q,c,vs,rfl,jbl ho,hf,(jat ho).1,(jat ho).2,rfl⟩,?_,?_,hx⟩
 · cases q <;> simp [jac]
 · intro b hb
   cases q with
   | none => simp [jac] at hb
   | some a => simp [jac] at hb;subst hb;exact jah ho _ rfl
theorem rep_flt1 {w : World} {q : Option Addr} {n c : Nat} {xs : List Nat} (h : Rep w (.sl .flt) [.slice q n c] xs) : ∃ us,xs.length = n ∧ Cs w q us ∧ F32s us xs ∧ xs.length ≤ c := by
 obtain ⟨q',c',us,h1,h2,h3,h4,_⟩ := ja5.1 h;simp only [List.cons.injEq,Value.slice.injEq,and_true] at h1;obtain ⟨rfl,rfl,rfl⟩ := h1;exact ⟨us,rfl,h2,h3,h4⟩
theorem GrowOwn.last {w : World} {B : Nat} {te : TypeId} {E : Sh} {v : Value} {l : List E.T} {css : List (List Value)} {bss : List (List Nat)} {cs : List Value} {d : E.T} {bs : List Nat} (h : GrowOwn w B te E v (l ++ [d]) (css ++ [cs]) (bss ++ [bs])) (h1 : css.length = l.length) (h2 : bss.length = l.length) : Rep w E cs d :=
 (h.els.2.2 l.length cs bs d (by rw [← h1];simp) (by rw [← h2];simp) (by simp)).rep
theorem stages_any (p q0 : Option Addr) (n c m0 c0 : Nat) (css : List (List Value)) (l : List jaa.T) (x : List Nat) (w : World) (L : Lays w p n css l) (hM : ModOk l) (hX : Rep w (.sl .flt) [.slice q0 m0 c0] x) (hx : (x.length : Int) = inL l 0) :
 Calls Try.prog 79 #[.agg #[.slice p n c],.slice q0 m0 c0] w fun e w' => ∃ v css bss,e = .returned v ∧ GrowOwn w' w.heap.size 25 (.sl .flt) v (stF l x n) css bss ∧ Ext w w' := by
 have hn : n ≤ 6 := by have := hM.few;rw [L.len] at this;exact this
 have HL := hid L.len;have Hlay := hid hM.lay;have Hlen := hid (cur_len hM hx);have Hs := hid (fun i => @curF_succ l x i);have eA := Ext.alloc w (.cells #[.slice p n c] 38);have eB := eA.trans (Ext.alloc _ (.cells #[] 25));have hstart : ((w.alloc (.cells #[.slice p n c] 38)).alloc (.cells #[] 25)).ownsRow w.heap.size 25 (Sh.sz (.sl .flt)) (.slice (some ⟨(w.alloc (.cells #[.slice p n c] 38)).heap.size,0,none⟩) 0 0) 0 [] := World.ownsRow_made (w.alloc (.cells #[.slice p n c] 38)) #[] 0 eA.size (by decide) rfl;simp only [World.size_alloc] at hstart;have l1 := L.cs;have l2 := L.all;have l3 := L.size;have l4 := L.one;have l5 := hid L.cnt;clear L hM hx;go_enter Try.func79,Try.ntmps79;go_wp2;go_loopw [1,5,12] (fun xv ov iv wr => ∃ (i : Nat) (css : List (List Value)) (bss : List (List Nat)) (q : Option Addr) (mq cq : Nat),i ≤ n ∧ iv = .int .i64 i ∧ xv = .slice q mq cq ∧ Hid (Rep wr (.sl .flt) [.slice q mq cq] (curF l x i)) ∧ GrowOwn wr w.heap.size 25 (.sl .flt) ov (stF l x i) css bss ∧ Ext w wr) (fun _ _ iv _ => n - (intOf iv).toNat)
 case atStart => exact ⟨0,[],[],q0,m0,c0,by omega,rfl,rfl,hX.ext eB,GrowOwn.empty hstart,eB⟩
 case round =>
  clear hstart eA eB;obtain ⟨i,cs,bss,q,mq,cq,hi,rfl,rfl,HX,hown,he⟩ := hrel
  by_cases hlt : i < n
  · have hil : i < l.length := by rw [HL.out];exact hlt
    obtain ⟨ci,hci,ri⟩ := l2.get i l[i] (by simp);have L1 := hid ri.size;have O1 := hid ri.one;have hs1 := l1.some_of l3 (by decide) (show 0 < css.length by rw [l5.out];omega);have hp := l1.ext he;obtain ⟨us,x1,x2,x3,_⟩ := rep_flt1 HX.out;have hlen := Hlen.out i hil;rw [x1] at hlen;have C := hid (fun W (h : Ext wr W) => run_lay ci l[i] q mq cq us (curF l x i) W (ri.ext (he.trans h)) (Hlay.out i hil) x1 hlen (x2.ext h) x3);rw [← Hs.out i hil] at C;have hrow := hown.row;rw [stF_len] at hrow;clear x1 x2 x3 hlen ri;have E1 := hid hci;clear hci;go_wp2_with (first | ((with_reducible show gx2);refine wl_idxloadE (s := jaa) (j := i) rfl rfl rfl rfl (fun _ => rfl) rfl rfl rfl hp l3 l5.out hlt hs1 E1.out ?_) | ((with_reducible show gx11);refine wl_stA (s := jaa) (cs := ci) rfl rfl rfl rfl (heap_alloc_new _ _) rfl L1.out O1.out (by decide) ?_;intro w5 c5 ch5;have E5 : Ext wr w5 := (Ext.alloc _ _).chg ch5 (fun b hb => by subst hb;exact Nat.le_refl _);clear ch5) | ((with_reducible show gx13);refine wl_ldA (s := jaa) (cs := ci) rfl rfl rfl c5 L1.out ?_;simp only [ofCs,Sh.agg,if_true]));refine (C.out _ E5).mono ?_;intro e w6 h6;obtain ⟨q6,c6,b6,rfl,o6,n6,lo6,e6⟩ := retFl_thing h6;have E6 := E5.trans e6;obtain ⟨m6,hm6⟩ : ∃ m,m = (curF l x (i + 1)).length := ⟨_,rfl⟩;rw [← hm6] at o6 ⊢;have HM6 := hid hm6;clear hm6;go_wp2_with ((with_reducible show gx9);refine ja4 (u := .slice q6 m6 c6) rfl rfl rfl rfl rfl (by rfl) (by rfl) (fun _ => rfl) (fun _ => rfl) (jak hrow E6) (by unfold maxLen;omega) (by omega) (by have := he.size;have := E6.size;omega) ?_;intro g c w7 h7 g7 hw7);go_roundw
    case rel =>
     have k1 := hown.els.1;have k2 := hown.els.2.1;have H7 := hown.snoc E6 o6 n6 (fun b hb => Nat.le_trans E5.size (lo6 b hb)) he.size (stF_len _ _ _) h7 g7 hw7;refine ⟨i + 1,cs ++ [[.slice q6 m6 c6]],bss ++ [b6],q6,m6,c6,by omega,by go_num,rfl,H7.last k1 k2,?_,(he.trans E6).grown g7 (jah hrow)⟩;rw [stF_succ];exact H7
    case measure => simp [intOf];omega
  · obtain rfl : n = i := by omega
    go_wp2;go_ret;exact ⟨_,cs,bss,rfl,hown,he⟩
end Go.Proofs.Ytmbckkcgiafagaa
