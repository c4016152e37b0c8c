/- A part of the proofs: Fwd8, Fwd10, Bits, Same, Cont, SameL, HFloat32SS, SameU, Lays. -/
import Derived.Test.YtmbckkcgiafagaaZ07FnMode
import Derived.Test.YtmbckkcgiafagaaZ06FnMode
import Derived.Test.YtmbckkcgiafagaaZ02FnMode
import Derived.Shelf.Abstract
import Derived.Test.YtmbckkcgiafagaaZ03FnMode
set_option linter.unusedSimpArgs false
set_option linter.unusedVariables false
set_option maxRecDepth 100000
set_option maxHeartbeats 16000000
namespace Go.Proofs.Ytmbckkcgiafagaa
open Go.RowKit
section
variable {P : Program} {w wf : World} {ops : Array Oper} {rest : List Oper} {o : Oper} {a : Act} {Q : Act → Prop} {F : Option Tmp → World → World → Value → Prop}
theorem x_slice {t e s b : Nat} {z : Value} [T : SlTy P t e s z b] {x lo hi : Operand} (hw : Region.wanted o (yielded ops a.tmps) = true) (ho : o.op = .slice t x (some lo) (some hi) none) {p : Option Addr} {n c : Nat} {k1 k2 : IntKind} {li ui : Int} {l u : Nat}
 (hx : a.eval x = .slice p n c) (hlo : a.eval lo = .int k1 li) (hhi : a.eval hi = .int k2 ui) (h1 : li = l) (h2 : ui = u) (h3 : l ≤ u) (h4 : u ≤ c)
 (h : wpX P ops F w wf Q rest (a.put o.dst (.slice (subp p s l c) (u - l) (c - l)))) : wpX P ops F w wf Q (o :: rest) a := by
 subst h1;subst h2;exact x_pure hw (fun w1 _ => by simp [execOp,ho,hx,hlo,hhi,run_slice h3 h4]) h
end
theorem F32s.part {us : List Value} {xs : List Nat} (h : F32s us xs) (l u : Nat) : F32s ((us.take u).drop l) ((xs.take u).drop l) := by
 refine ⟨by simp [h.1],fun i hi => ?_⟩;simp only [List.length_drop,List.length_take] at hi;obtain ⟨b,h1,h2⟩ := h.2 (l + i) (by omega);refine ⟨b,?_,?_⟩
 · rw [List.getElem?_drop,List.getElem?_take_of_lt (by omega)];exact h1
 · rw [h2,List.getD_eq_getElem?_getD,List.getD_eq_getElem?_getD,List.getElem?_drop,List.getElem?_take_of_lt (by omega)]
theorem part_get {xs : List Nat} {l u i : Nat} (h : l + i < u) : ((xs.take u).drop l).getD i 0 = xs.getD (l + i) 0 := by
 rw [List.getD_eq_getElem?_getD,List.getD_eq_getElem?_getD,List.getElem?_drop,List.getElem?_take_of_lt h]
def rO (k : Int) (n : Nat) (ws bs xs : List Nat) (j : Nat) : Nat :=
 if k = 0 then fop .add .f32 (dotG (fun t => ws.getD (j * n + t) 0) (fun t => xs.getD t 0) n) (bs.getD j 0)
 else if k = 1 then reluF (xs.getD j 0)
 else if k = 2 then fop .mul .f32 (ws.getD j 0) (xs.getD j 0)
 else tanF (xs.getD j 0)
def runF (k : Int) (n m : Nat) (ws bs xs : List Nat) : List Nat :=
 if k = 4 then softF xs else if k = 5 then normF ws bs xs else tab m (rO k n ws bs xs)
theorem lay_of {k : Int} {n m nw nb : Nat} (h : layB k n m nw nb = true) : (k = 0 ∨ k = 1 ∨ k = 2 ∨ k = 3 ∨ k = 4 ∨ k = 5) ∧ 1 ≤ n ∧ n ≤ 8 ∧ 1 ≤ m ∧ m ≤ 8 ∧ (k = 0 ∨ n = m) ∧ (k = 0 → nw = n * m ∧ nb = m) ∧ (k = 2 → n = nw) ∧ (k = 5 → n = nw ∧ n = nb) := by
 unfold layB inB at h;simp only [Bool.and_eq_true,decide_eq_true_eq,Bool.or_eq_true] at h;obtain ⟨h1,h2,h3,h4,h5,h6⟩ := h;refine ⟨by omega,by omega,by omega,by omega,by omega,by omega,?_,?_,?_⟩
 · rintro rfl
   simp only [wCnt,bCnt,if_true] at h5 h6;exact ⟨by exact_mod_cast h5,by omega⟩
 · rintro rfl
   simp [wCnt] at h5;omega
 · rintro rfl
   simp [wCnt,bCnt] at h5 h6;omega
theorem run_any (k : Int) (n m nw nb : Nat) (p pw pb : Option Addr) (c cw cb : Nat) (us uw ub : List Value) (xs ws bs : List Nat) (w : World) (hk : layB k n m nw nb = true) (hx : xs.length = n) (hw : ws.length = nw) (hb : bs.length = nb) (hp : Cs w p us) (hf : F32s us xs)
 (hpw : Cs w pw uw) (hfw : F32s uw ws) (hpb : Cs w pb ub) (hfb : F32s ub bs) (hcw : nw ≤ cw) :
 Calls Try.prog 80 #[.agg #[.int .i64 k,.int .i64 n,.int .i64 m,.slice pw nw cw,.slice pb nb cb],.slice p n c] w (RetFl w (runF k n m ws bs xs)) := by
 obtain ⟨h0,h1,h2,h3,h4,h5,h6,h7,h8⟩ := lay_of hk
 by_cases k4 : k = 4
 · subst k4
   have hs : runF 4 n m ws bs xs = softF xs := rfl;rw [hs];have C := hid (fun w1 (e1 : Ext w w1) => softmax_any p n c us xs w1 hx h1 (by omega) (hp.ext e1) hf);clear hx hw hb hk h0 h1 h2 h3 h4 h5 h6 h7 h8 hs;go_enter Try.func80,Try.ntmps80;go_wp2_with ((with_reducible show gx10);refine wl_box (s := jac) (cs := [.int .i64 4,.int .i64 n,.int .i64 m,.slice pw nw cw,.slice pb nb cb]) rfl rfl rfl rfl (by simp [Value.oneCell']) ?_;intro b v e1 hlo c1;have f0 := c1.cell 0 _ rfl;simp only [jbn] at f0);refine (C.out _ e1).mono ?_;rintro e w1 ⟨q,cq,vs,rfl,own0,HF,he⟩
   go_wp2;go_ret;exact ⟨q,cq,vs,rfl,jak own0 e1.size,HF,e1.trans he⟩
 · by_cases k5 : k = 5
   · subst k5
     obtain ⟨rfl,rfl⟩ := h8 rfl;have hs : runF 5 n m ws bs xs = normF ws bs xs := rfl;rw [hs];have C := hid (fun w1 (e1 : Ext w w1) => norm_any 5 m p pw pb n c cw cb us uw ub xs ws bs w1 hx hw hb (by omega) (hp.ext e1) hf (hpw.ext e1) hfw (hpb.ext e1) hfb);clear hx hw hb hk h0 h1 h2 h3 h4 h5 h6 h7 h8 hs k4;go_enter Try.func80,Try.ntmps80;go_wp2_with (first | ((with_reducible show gx10);refine wl_box (s := jac) (cs := [.int .i64 5,.int .i64 n,.int .i64 m,.slice pw n cw,.slice pb n cb]) rfl rfl rfl rfl (by simp [Value.oneCell']) ?_;intro b v e1 hlo c1;have f0 := c1.cell 0 _ rfl;simp only [jbn] at f0) | ((with_reducible show gx11);refine wl_ldA (s := jac) (cs := [.int .i64 5,.int .i64 n,.int .i64 m,.slice pw n cw,.slice pb n cb]) rfl rfl rfl c1 rfl ?_;simp only [ofCs,Sh.agg,if_true]));refine (C.out _ e1).mono ?_;rintro e w1 ⟨q,cq,vs,rfl,own0,HF,he⟩
     go_wp2;go_ret;exact ⟨q,cq,vs,rfl,jak own0 e1.size,HF,e1.trans he⟩
   · have hs : runF k n m ws bs xs = tab m (rO k n ws bs xs) := by unfold runF;rw [if_neg k4,if_neg k5]
     rw [hs];have X := hid hx;have HW := hid hw;have HB := hid hb;have b4 := beq_f k4;have b5 := beq_f k5;have hk4 : k = 0 ∨ k = 1 ∨ k = 2 ∨ k = 3 := by omega
     have H6 := hid h6;have H7 := hid h7;have H5 := hid h5;clear hx hw hb hk h0 hs h6 h7 h8 h5;go_enter Try.func80,Try.ntmps80;go_wp2_with ((with_reducible show gx10);refine wl_box (s := jac) (cs := [.int .i64 k,.int .i64 n,.int .i64 m,.slice pw nw cw,.slice pb nb cb]) rfl rfl rfl rfl (by simp [Value.oneCell']) ?_;intro b v e1 hlo c1;have f0 := c1.cell 0 _ rfl;have f2 := c1.cell 2 _ rfl;simp only [jbn] at f0 f2;have f2b := (Ext.alloc v (.cells #[] 33)).cell f2);have f1 := c1.cell 1 _ rfl;have f3 := c1.cell 3 _ rfl;have f4 := c1.cell 4 _ rfl;simp only [jbn] at f1 f3 f4;have hstart : (v.alloc (.cells #[] 33)).ownsRow v.heap.size 33 1 (.slice (some ⟨v.heap.size,0,none⟩) 0 0) 0 [] := World.ownsRow_made v #[] 0 (Nat.le_refl _) (by decide) rfl;have e9 := Ext.alloc v (.cells #[] 33);replace hp := hp.ext e1;replace hpw := hpw.ext e1;replace hpb := hpb.ext e1;go_loopw [5,22] (fun ov iv wr => ∃ (i : Nat) (vs : List Value) (q : Option Addr) (cq : Nat),i ≤ m ∧ iv = .int .i64 i ∧ ov = .slice q i cq ∧ wr.ownsRow v.heap.size 33 1 (.slice q i cq) i vs ∧ Hid (F32s vs (tab i (rO k n ws bs xs))) ∧ Ext v wr) (fun _ iv _ => m - (intOf iv).toNat)
     case atStart => exact ⟨0,[],_,_,by omega,rfl,rfl,hstart,F32s.nil,e9⟩
     case round =>
      clear hstart e9;obtain ⟨i,vs,q,cq,hi,rfl,rfl,own0,HF,he⟩ := hrel;have hB := he.size
      by_cases hlt : i < m
      · have g0 := he.cell f0
        have g1 := he.cell f1;have g3 := he.cell f3;have g4 := he.cell f4;have hpi := hp.ext he;rcases hk4 with rfl | rfl | rfl | rfl
        · obtain ⟨hnw,hnb⟩ := H6.out rfl
          obtain ⟨L,hL⟩ : ∃ L : Nat,L = i * n := ⟨_,rfl⟩;obtain ⟨H,hH⟩ : ∃ H : Nat,H = L + n := ⟨_,rfl⟩;have hb1 : i * n ≤ 7 * 8 := Nat.mul_le_mul (by omega) (by omega)
          have hb2 : H ≤ nw := by
           rw [hH,hL,hnw,← Nat.succ_mul,Nat.mul_comm n m];exact Nat.mul_le_mul_right _ (by omega)
          have m1 : (i : Int) * (n : Int) = (L : Int) := by rw [hL];push_cast;rfl
          have m2 : ((i : Int) + 1) * (n : Int) = (H : Int) := by rw [Int.add_mul,m1,hH];push_cast;omega
          have l1 : IntKind.i64.wrap ((i : Int) * (n : Int)) = (L : Int) := by rw [m1];exact ja2 _ (by omega) (by omega)
          have l2 : IntKind.i64.wrap (((i : Int) + 1) * (n : Int)) = (H : Int) := by rw [m2];exact ja2 _ (by omega) (by omega)
          have l3 : IntKind.i64.wrap ((i : Int) + 1) = (i : Int) + 1 := ja2 _ (by omega) (by omega);obtain ⟨DV,hDV⟩ : ∃ DV,DV = dotG (fun t => ws.getD (i * n + t) 0) (fun t => xs.getD t 0) n := ⟨_,rfl⟩;have hpw1 := hpw.ext he;have C := hid (fun w1 (e1 : Ext wr w1) => dot_any (subp pw 1 L cw) p (H - L) (cw - L) n c ((uw.take (H * 1)).drop (L * 1)) us ((ws.take (H * 1)).drop (L * 1)) xs w1 (by simp [HW.out];omega) X.out (by omega) (by unfold maxLen;omega) ((hpw1.ext e1).sub (by omega) (by omega)) (hfw.part _ _) (hpi.ext e1) hf)
          have hD2 : dotG (fun j => ((ws.take (H * 1)).drop (L * 1)).getD j 0) (fun j => xs.getD j 0) (H - L) = DV := by
           rw [hDV,show H - L = n by omega];refine dotG_congr (fun t ht => ?_) (fun t ht => rfl);rw [part_get (by omega),← hL,Nat.mul_one]
          rw [hD2] at C;have HD := hid hDV;have HH := hid hH;have HL := hid hL;have hbl : i < nb := by omega
          clear hDV hH hL m1 m2 hD2 hb1 hnw hnb;go_wp2;obtain ⟨F,hF⟩ : ∃ F : Option Tmp → World → Value → Prop,F = fun _ _ u => ∃ b,u = .float .f32 b ∧ cn .f32 b = DV := ⟨_,rfl⟩
          have HFF := hid hF;clear hF;have k0 := Ext.drew wr;replace g1 := k0.cell g1;replace g3 := k0.cell g3;replace g4 := k0.cell g4;have kb := (hpb.ext he).ext k0;refine jae (F := F) (by kernel_rfl) (by kernel_rfl) (by kernel_rfl) ?_;intro wf hwf
          repeat (first
           | ((first | (refine ja8 rfl ?_) | (refine x_mv rfl rfl rfl ?_) | (refine x_as rfl rfl rfl ?_) | ((with_reducible show wpX _ _ _ _ _ _ (Oper.mk _ (Op.slice _ _ _ _ _) _ _ _ _ :: _) _);refine x_slice rfl rfl rfl rfl rfl (l := L) (u := H) rfl rfl (by have := HH.out;omega) (by omega) ?_) | ((with_reducible show gx0);refine x_ldF rfl rfl (fun _ => rfl) rfl (fun _ => rfl) rfl rfl kb hfb HB.out (by omega) (by omega) ?_;intro r2 q2;have G2 := hid q2;clear q2) | ((with_reducible show gx1);refine x_fop rfl rfl rfl rfl rfl ?_;intro r3 q3;have G3 := hid q3;clear q3) | ((with_reducible show gx12);refine jap (f := 124) (args := #[.slice (subp pw 1 L cw) (H - L) (cw - L),.slice p n c]) rfl rfl Try.func124 rfl (by kernel_rfl) ?_ ?_ ?_;(focus (simp [Act.eval];done));(focus (intro w1 hw1;exact ((C.out w1 (k0.trans hw1)).mono fun e w3 ⟨b,h1,h2,h3⟩ => ⟨_,h1,h3,by rw [HFF.out];exact ⟨b,rfl,h2⟩⟩)));rintro u w3 e3 e4 hu;simp only [HFF.out] at hu;obtain ⟨r1,rfl,q1⟩ := hu;have G1 := hid q1;clear q1));simp only [Act.put,jab,pu1,pu2,pu3,pu4,pu5])
           | (refine jbw rfl fun K hK w1 hw1 => ?_;have k0 := hw1.cell (g1);have k1 := hw1.cell (g3);have k2 := hw1.cell (g4);go_simp;refine hK _ ?_;clear hK K k0 k1 k2 hw1 w1))
          refine jbu ?_;have hv : cn .f32 r3 = rO 0 n ws bs xs i := by rw [G3.out,G1.out,G2.out,HD.out,Int.toNat_natCast];rfl
          have HV3 := hid hv;clear hv;replace own0 := jah (jah own0 k0) hwf;replace he := (he.trans k0).trans hwf;have hB := he.size;go_wp2_with ((with_reducible show gx6);refine ja9 (u := .float .f32 r3) rfl rfl rfl rfl rfl rfl rfl (fun _ => rfl) (fun _ => rfl) own0 (by unfold maxLen;omega) (by omega) (by omega) ?_;intro g c w4 own4 g4 hg4);go_roundw
          case rel =>
           have own5 : w4.ownsRow v.heap.size 33 1 (.slice (some ⟨g,0,none⟩) (i + 1) c) (i + 1) (vs ++ [.float .f32 r3]) := own4;exact ⟨i + 1,vs ++ [.float .f32 r3],_,_,by omega,by go_num,rfl,own5,by rw [Hid];exact HF.out.push HV3.out,he.grown g4 (fun k hk => jas own0 k hk)⟩
          case measure => simp [intOf];omega
        · go_wp2_with (first | ((with_reducible show gx2);refine wl_ldF rfl rfl rfl rfl (fun _ => rfl) rfl rfl hpi hf X.out (by omega) (by have := H5.out;omega) ?_;intro r2 q2;have G2 := hid q2;clear q2) | ((with_reducible show gx5);fail))
          refine (relu_any r2 _).mono ?_;rintro e w3 ⟨r3,rfl,q3,e3⟩
          have hv : cn .f32 r3 = rO 1 n ws bs xs i := by rw [q3,G2.out,Int.toNat_natCast];rfl
          have HV3 := hid hv;clear hv q3;replace own0 := jah own0 e3;replace he := he.trans e3;have hB := he.size;go_wp2_with ((with_reducible show gx6);refine ja9 (u := .float .f32 r3) rfl rfl rfl rfl rfl rfl rfl (fun _ => rfl) (fun _ => rfl) own0 (by unfold maxLen;omega) (by omega) (by omega) ?_;intro g c w4 own4 g4 hg4);go_roundw
          case rel =>
           have own5 : w4.ownsRow v.heap.size 33 1 (.slice (some ⟨g,0,none⟩) (i + 1) c) (i + 1) (vs ++ [.float .f32 r3]) := own4;exact ⟨i + 1,vs ++ [.float .f32 r3],_,_,by omega,by go_num,rfl,own5,by rw [Hid];exact HF.out.push HV3.out,he.grown g4 (fun k hk => jas own0 k hk)⟩
          case measure => simp [intOf];omega
        · have hwl : i < nw := by have := H5.out;have := H7.out rfl;omega
          have hxl : i < n := by have := H5.out;omega
          have hpw1 := hpw.ext he;go_wp2;have k0 := Ext.drew wr;replace g3 := k0.cell g3;have ka := hpi.ext k0;have kb := hpw1.ext k0;refine jae (F := fun _ _ _ => False) (by kernel_rfl) (by kernel_rfl) (by kernel_rfl) ?_;intro wf hwf
          repeat (first
           | ((first | (refine ja8 rfl ?_) | (refine x_mv rfl rfl rfl ?_) | (refine x_as rfl rfl rfl ?_) | ((with_reducible show gx0);first | (refine x_ldF rfl rfl (fun _ => rfl) rfl (fun _ => rfl) rfl rfl kb hfw HW.out (by omega) (by omega) ?_;intro r1 q1;have G1 := hid q1;clear q1) | (refine x_ldF rfl rfl (fun _ => rfl) rfl (fun _ => rfl) rfl rfl ka hf X.out (by omega) (by omega) ?_;intro r2 q2;have G2 := hid q2;clear q2)) | ((with_reducible show gx1);refine x_fop rfl rfl rfl rfl rfl ?_;intro r3 q3;have G3 := hid q3;clear q3));simp only [Act.put,jab,pu1,pu2,pu3,pu4,pu5])
           | (refine jbw rfl fun K hK w1 hw1 => ?_;have k0 := hw1.cell (g3);go_simp;refine hK _ ?_;clear hK K k0 hw1 w1))
          refine jbu ?_;have hv : cn .f32 r3 = rO 2 n ws bs xs i := by rw [G3.out,G1.out,G2.out,Int.toNat_natCast];rfl
          have HV3 := hid hv;clear hv;replace own0 := jah (jah own0 k0) hwf;replace he := (he.trans k0).trans hwf;have hB := he.size;go_wp2_with ((with_reducible show gx6);refine ja9 (u := .float .f32 r3) rfl rfl rfl rfl rfl rfl rfl (fun _ => rfl) (fun _ => rfl) own0 (by unfold maxLen;omega) (by omega) (by omega) ?_;intro g c w4 own4 g4 hg4);go_roundw
          case rel =>
           have own5 : w4.ownsRow v.heap.size 33 1 (.slice (some ⟨g,0,none⟩) (i + 1) c) (i + 1) (vs ++ [.float .f32 r3]) := own4;exact ⟨i + 1,vs ++ [.float .f32 r3],_,_,by omega,by go_num,rfl,own5,by rw [Hid];exact HF.out.push HV3.out,he.grown g4 (fun k hk => jas own0 k hk)⟩
          case measure => simp [intOf];omega
        · go_wp2_with (first | ((with_reducible show gx2);refine wl_ldF rfl rfl rfl rfl (fun _ => rfl) rfl rfl hpi hf X.out (by omega) (by have := H5.out;omega) ?_;intro r2 q2;have G2 := hid q2;clear q2) | ((with_reducible show gx5);fail))
          refine (TanhNumber_any r2 _).mono ?_;rintro e w3 ⟨r3,rfl,q3,e3⟩
          have hv : cn .f32 r3 = rO 3 n ws bs xs i := by rw [q3,G2.out,Int.toNat_natCast];rfl
          have HV3 := hid hv;clear hv q3;replace own0 := jah own0 e3;replace he := he.trans e3;have hB := he.size;go_wp2_with ((with_reducible show gx6);refine ja9 (u := .float .f32 r3) rfl rfl rfl rfl rfl rfl rfl (fun _ => rfl) (fun _ => rfl) own0 (by unfold maxLen;omega) (by omega) (by omega) ?_;intro g c w4 own4 g4 hg4);go_roundw
          case rel =>
           have own5 : w4.ownsRow v.heap.size 33 1 (.slice (some ⟨g,0,none⟩) (i + 1) c) (i + 1) (vs ++ [.float .f32 r3]) := own4;exact ⟨i + 1,vs ++ [.float .f32 r3],_,_,by omega,by go_num,rfl,own5,by rw [Hid];exact HF.out.push HV3.out,he.grown g4 (fun k hk => jas own0 k hk)⟩
          case measure => simp [intOf];omega
      · obtain rfl : m = i := by omega
        go_wp2;go_ret;exact retFl_own (tab_len _ _) (jak own0 e1.size) HF.out rfl (e1.trans he)
def layF (d : jac.T) (xs : List Nat) : List Nat := runF d.1 d.2.1.toNat d.2.2.1.toNat d.2.2.2.1 d.2.2.2.2.1 xs
theorem layD_int {d : jac.T} (h : layD d = true) : (d.2.1.toNat : Int) = d.2.1 ∧ (d.2.2.1.toNat : Int) = d.2.2.1 ∧ d.2.1.toNat ≤ 8 ∧ 1 ≤ d.2.1.toNat ∧ d.2.2.1.toNat ≤ 8 ∧ 1 ≤ d.2.2.1.toNat := by
 unfold layD layB inB at h;simp only [Bool.and_eq_true,decide_eq_true_eq] at h;omega
theorem softF_len (xs : List Nat) : (softF xs).length = xs.length := tab_len _ _
theorem normF_len (ws bs xs : List Nat) : (normF ws bs xs).length = xs.length := tab_len _ _
theorem layF_len {d : jac.T} (h : layD d = true) {xs : List Nat} (hx : (xs.length : Int) = d.2.1) : ((layF d xs).length : Int) = d.2.2.1 := by
 obtain ⟨a1,a2,_⟩ := layD_int h;have h' : layB d.1 d.2.1.toNat d.2.2.1.toNat d.2.2.2.1.length d.2.2.2.2.1.length = true := by rw [a1,a2];exact h
 obtain ⟨b0,_,_,_,_,b5,_⟩ := lay_of h';unfold layF runF
 split
 · rw [softF_len];rcases b5 with b | b <;> omega
 · split
   · rw [normF_len];rcases b5 with b | b <;> omega
   · rw [tab_len];exact a2
theorem run_lay (cs : List Value) (d : jac.T) (p : Option Addr) (n c : Nat) (us : List Value) (xs : List Nat) (w : World) (h : Rep w jac cs d) (hv : layD d = true) (hn : xs.length = n) (hx : (n : Int) = d.2.1) (hp : Cs w p us) (hf : F32s us xs) :
 Calls Try.prog 80 #[.agg cs.toArray,.slice p n c] w (RetFl w (layF d xs)) := by
 obtain ⟨pw,cw,pb,cb,uw,ub,rfl,k1,k2,k3,k4,k5,k6⟩ := lay_nums h;obtain ⟨a1,a2,_⟩ := layD_int hv;have hk : layB d.1 d.2.1.toNat d.2.2.1.toNat d.2.2.2.1.length d.2.2.2.2.1.length = true := by rw [a1,a2];exact hv
 have := run_any d.1 d.2.1.toNat d.2.2.1.toNat _ _ p pw pb c cw cb us uw ub xs d.2.2.2.1 d.2.2.2.2.1 w hk (by omega) rfl rfl hp hf k1 k2 k4 k5 k3;rw [a1,a2,show d.2.1.toNat = n by omega] at this;unfold layF;rw [show d.2.1.toNat = n by omega];exact this
theorem run_extern {P : Program} {f : FuncId} {fn : Func} {e : Array Value → Sem Value} {args : Array Value} {v : Value} {w : World} (hf : P.funcs[f]? = some fn) (hname : (fn.name == "runtime.NumGoroutine") = false) (hb : fn.body.isNone = true)
 (hn : Extern.findNext fn = none) (he : Extern.find fn = some e) (hr : (e args).run P w = .ok v w) : (callFunc f args).run P w = .ok (.value v) w := by
 have hname' : ¬ fn.name = "runtime.NumGoroutine" := by simpa using hname
 have hb' : fn.body = none := by simpa using hb
 simp [callFunc,hf,hname',hb',hn,he,hr,program,Sem.run,mark]
theorem run_f32from (n : Int) (w : World) : (callFunc 170 #[.int .u32 n]).run Try.prog w = .ok (.value (.float .f32 n.toNat)) w :=
 run_extern (e := Extern.MathFloatBits.float32frombits) Try.func170 (by kernel_rfl) (by kernel_rfl) (by kernel_rfl) (by kernel_rfl) rfl
theorem single_sw : (Ieee.single).signWeight = 2147483648 := by decide
theorem single_ir : (Ieee.single).infRung = 2139095040 := by decide
theorem single_bi : (Ieee.single).binade = 8388608 := by decide
theorem single_lp : (Ieee.single).leastPlace = -149 := by decide
theorem read_cases {a : Nat} (ha : a < 4294967296) (na : (FloatKind.f32.decode a).isNaN = false) :
 (∃ m e,Ieee.single.read a = .number (decide (2147483648 ≤ a)) m e ∧ (a % 2147483648 < 8388608 ∧ m = a % 2147483648 ∧ e = -149 ∨ 8388608 ≤ a % 2147483648 ∧ m = 8388608 + a % 2147483648 % 8388608 ∧ e = -149 + ((a % 2147483648 / 8388608 - 1 : Nat) : Int))) ∨
 (Ieee.single.read a = .infinity (decide (2147483648 ≤ a)) ∧ a % 2147483648 = 2139095040) := by
 have hneg : (a / 2147483648 % 2 == 1) = decide (2147483648 ≤ a) := by
  rw [Bool.eq_iff_iff];simp only [beq_iff_eq,decide_eq_true_eq];omega
 have na' : (Ieee.single.read a).isNaN = false := na;unfold Ieee.Format.read at na' ⊢;simp only [single_sw,single_ir,single_bi,single_lp,hneg] at na' ⊢
 split
 · exact .inl ⟨_,_,rfl,.inl ⟨by assumption,rfl,rfl⟩⟩
 · rename_i h1
   split
   · exact .inl ⟨_,_,rfl,.inr ⟨by omega,rfl,rfl⟩⟩
   · rename_i h2
     rw [if_neg h1,if_neg h2] at na'
     split
     · rename_i h3;exact .inr ⟨rfl,h3⟩
     · rename_i h3;rw [if_neg h3] at na';simp [Ieee.Datum.isNaN] at na'
theorem shift_eq {m n : Nat} {e f : Int} (h : m <<< (e - min e f).toNat = n <<< (f - min e f).toNat) (hef : e ≤ f) : m = n * 2 ^ (f - e).toNat := by
 have h1 : min e f = e := by omega
 rw [h1,Nat.shiftLeft_eq,Nat.shiftLeft_eq] at h
 simpa using h
theorem rung_eq {r q m n : Nat} {e f : Int} (hr : r < 8388608 ∧ m = r ∧ e = -149 ∨ 8388608 ≤ r ∧ m = 8388608 + r % 8388608 ∧ e = -149 + ((r / 8388608 - 1 : Nat) : Int))
 (hq : q < 8388608 ∧ n = q ∧ f = -149 ∨ 8388608 ≤ q ∧ n = 8388608 + q % 8388608 ∧ f = -149 + ((q / 8388608 - 1 : Nat) : Int)) (h : m = n * 2 ^ (f - e).toNat) (hef : e ≤ f) : r = q := by
 obtain ⟨k,hk⟩ : ∃ k,k = (f - e).toNat := ⟨_,rfl⟩;rw [← hk] at h
 cases k with
 | zero => rw [Nat.pow_zero,Nat.mul_one] at h;omega
 | succ k =>
   exfalso
   have h2 : n * 2 ^ (k + 1) = n * 2 ^ k * 2 := by rw [Nat.pow_succ,Nat.mul_assoc]
   have h3 : n ≤ n * 2 ^ k := Nat.le_mul_of_pos_right _ (Nat.two_pow_pos k);rw [h2] at h;generalize n * 2 ^ k = z at *;omega
theorem mag_eq {r q m n : Nat} {e f : Int} (hr : r < 8388608 ∧ m = r ∧ e = -149 ∨ 8388608 ≤ r ∧ m = 8388608 + r % 8388608 ∧ e = -149 + ((r / 8388608 - 1 : Nat) : Int))
 (hq : q < 8388608 ∧ n = q ∧ f = -149 ∨ 8388608 ≤ q ∧ n = 8388608 + q % 8388608 ∧ f = -149 + ((q / 8388608 - 1 : Nat) : Int)) (h : m <<< (e - min e f).toNat = n <<< (f - min e f).toNat) : r = q := by
 rcases Int.le_total e f with hef | hef
 · exact rung_eq hr hq (shift_eq h hef) hef
 · exact (rung_eq hq hr (shift_eq (by rw [Int.min_comm] at h;exact h.symm) hef) hef).symm
theorem order_bits {a b : Nat} (ha : a < 4294967296) (hb : b < 4294967296) (na : (FloatKind.f32.decode a).isNaN = false) (nb : (FloatKind.f32.decode b).isNaN = false)
 (h : FloatKind.f32.format.order a b = some .eq) (hs : decide (2147483648 ≤ a) = decide (2147483648 ≤ b)) : a = b := by
 have h' : (Ieee.single.read a).order (Ieee.single.read b) = some .eq := h;have hss : 2147483648 ≤ a ↔ 2147483648 ≤ b := by simpa using hs
 suffices a % 2147483648 = b % 2147483648 by omega
 rcases read_cases ha na with ⟨m,e,h1,h2⟩ | ⟨h1,h2⟩
 · rcases read_cases hb nb with ⟨n,f,h3,h4⟩ | ⟨h3,h4⟩
   · rw [h1,h3] at h'
     simp only [Ieee.Datum.order,Option.some.injEq] at h'
     have h5 : Ieee.signed (decide (2147483648 ≤ a)) m (e - min e f).toNat = Ieee.signed (decide (2147483648 ≤ b)) n (f - min e f).toNat := by
      unfold compare at h';simp only [instOrdInt,compareOfLessAndEq] at h'
      split at h'
      · cases h'
      · split at h'
        · assumption
        · cases h'
     rw [hs] at h5;refine mag_eq h2 h4 ?_;unfold Ieee.signed at h5
     split at h5 <;> omega
   · rw [h1,h3] at h';simp only [Ieee.Datum.order,Option.some.injEq] at h';split at h' <;> cases h'
 · rcases read_cases hb nb with ⟨n,f,h3,h4⟩ | ⟨h3,h4⟩
   · rw [h1,h3] at h';simp only [Ieee.Datum.order,Option.some.injEq] at h';split at h' <;> cases h'
   · rw [h2,h4]
theorem word_sign (f : Ieee.Format) (neg : Bool) {r : Nat} (hr : r ≤ f.infRung) : decide (f.signWeight ≤ f.word neg r) = neg ∧ f.word neg r < 2 * f.signWeight := by
 have hlt : r < f.signWeight := Nat.lt_of_le_of_lt hr f.infRung_lt;unfold Ieee.Format.word
 cases neg
 · simp;omega
 · simp;omega
theorem write_sign (f : Ieee.Format) {d : Ieee.Datum} (hd : d.isNaN = false) : decide (f.signWeight ≤ f.write d) = d.neg ∧ f.write d < 2 * f.signWeight := by
 cases d with
 | nan s t => simp [Ieee.Datum.isNaN] at hd
 | infinity s => exact word_sign f s (Nat.le_refl _)
 | number s m e =>
   show decide (f.signWeight ≤ f.nearest s m e) = s ∧ f.nearest s m e < 2 * f.signWeight;unfold Ieee.Format.nearest;dsimp only
   split
   · exact word_sign f s (Nat.zero_le _)
   · exact word_sign f s (Nat.min_le_right _ _)
theorem widen_some {a : Nat} (na : (FloatKind.f32.decode a).isNaN = false) : floatToFloatBits .f32 a .f64 = some (jbr .f32 a .f64) := by
 have ho := jcg a;unfold fover at ho;rw [na] at ho;simp only [Bool.not_false,Bool.true_and] at ho;unfold jbr
 cases h : floatToFloatBits .f32 a .f64 with
 | none => rw [h] at ho;cases ho
 | some r => rfl
theorem widen_sign {a : Nat} (ha : a < 4294967296) (na : (FloatKind.f32.decode a).isNaN = false) : decide (9223372036854775808 ≤ jbr .f32 a .f64) = decide (2147483648 ≤ a) ∧ jbr .f32 a .f64 < 18446744073709551616 := by
 have ho := jcg a;have hsw : (Ieee.double).signWeight = 9223372036854775808 := by decide
 have key : jbr .f32 a .f64 = Ieee.double.write (Ieee.single.read a) := by
  have hne : ¬ (FloatKind.f32 = FloatKind.f64) := by decide
  unfold fover at ho;rw [na] at ho;simp only [Bool.not_false,Bool.true_and] at ho;unfold jbr
  cases h : floatToFloatBits .f32 a .f64 with
  | none => rw [h] at ho;cases ho
  | some r =>
    simp only [floatToFloatBits,hne,if_false] at h;have na' := na
    split at h
    · cases h
    · rename_i hd;cases h;show _ = Ieee.double.write (FloatKind.f32.decode a);rw [hd];rfl
    · rename_i hd
      split at h
      · cases h
      · cases h;show _ = Ieee.double.write (FloatKind.f32.decode a);rw [hd];rfl
 have na' : (Ieee.single.read a).isNaN = false := na;have hw := write_sign Ieee.double na';rw [hsw,← key] at hw;refine ⟨?_,by omega⟩;rw [hw.1];rcases read_cases ha na with ⟨m,e,h1,h2⟩ | ⟨h1,h2⟩ <;> rw [h1] <;> rfl
theorem wrap64_neg {r : Nat} (h : r < 18446744073709551616) : decide (wrap64 r < 0) = decide (9223372036854775808 ≤ r) := by
 unfold wrap64;rw [Bool.eq_iff_iff];simp only [decide_eq_true_eq];omega
theorem run_f64bits (b : Nat) (w : World) : (callFunc 95 #[.float .f64 b]).run Try.prog w = .ok (.value (.int .u64 b)) w :=
 run_extern (e := Extern.MathFloatBits.float64bits) Try.func95 (by kernel_rfl) (by kernel_rfl) (by kernel_rfl) (by kernel_rfl) rfl
theorem Signbit_any (r : Nat) (w : World) (hr : r < 18446744073709551616) : Calls Try.prog 54 #[.float .f64 r] w fun e w' => e = .returned (.bool (decide (9223372036854775808 ≤ r))) ∧ w' = w := by
 have hx := run_f64bits r;have hw := wrap64_neg hr;go_enter Try.func54,Try.ntmps54;go_wp2;go_ret;exact ⟨by first | rw [← hw];rfl | skip,rfl⟩
theorem ja1 (a b : Nat) (w : World) (ha : cn .f32 a < 4294967296) (hb : cn .f32 b < 4294967296) : Calls Try.prog 14 #[.float .f32 a,.float .f32 b] w fun e w' => e = .returned (.bool (decide (cn .f32 a = cn .f32 b))) ∧ w' = w := by
 by_cases hna : (FloatKind.f32.decode a).isNaN = true
 · have h1 : (FloatKind.f32.format.order a a != some .eq) = true := by rw [order_nan hna];rfl
   by_cases hnb : (FloatKind.f32.decode b).isNaN = true
   · have h2 : (FloatKind.f32.format.order b b != some .eq) = true := by rw [order_nan hnb];rfl
     have h3 : decide (cn .f32 a = cn .f32 b) = true := by rw [cn_nan hna,cn_nan hnb];simp
     rw [h3];clear h3 ha hb hna hnb;go_enter Try.func14,Try.ntmps14;go_wp2;go_ret;exact ⟨rfl,rfl⟩
   · have hnb' : (FloatKind.f32.decode b).isNaN = false := by simpa using hnb
     have h2 : (FloatKind.f32.format.order b b != some .eq) = false := by rw [order_self hnb'];rfl
     have h3 : decide (cn .f32 a = cn .f32 b) = false := by
      refine decide_eq_false fun h => ?_
      have := isNaN_of_cn h;rw [hna,hnb'] at this;cases this
     rw [h3];clear h3 ha hb hna hnb hnb';go_enter Try.func14,Try.ntmps14;go_wp2;go_ret;exact ⟨rfl,rfl⟩
 · have hna' : (FloatKind.f32.decode a).isNaN = false := by simpa using hna
   have h1 : (FloatKind.f32.format.order a a != some .eq) = false := by rw [order_self hna'];rfl
   by_cases hnb : (FloatKind.f32.decode b).isNaN = true
   · have h2 : (FloatKind.f32.format.order b b != some .eq) = true := by rw [order_nan hnb];rfl
     have h3 : decide (cn .f32 a = cn .f32 b) = false := by
      refine decide_eq_false fun h => ?_
      have := isNaN_of_cn h;rw [hna',hnb] at this;cases this
     rw [h3];clear h3 ha hb hna hnb hna';go_enter Try.func14,Try.ntmps14;go_wp2;go_ret;exact ⟨rfl,rfl⟩
   · have hnb' : (FloatKind.f32.decode b).isNaN = false := by simpa using hnb
     have h2 : (FloatKind.f32.format.order b b != some .eq) = false := by rw [order_self hnb'];rfl
     rw [jcs hna'] at ha ⊢;rw [jcs hnb'] at hb ⊢;have sa := widen_sign ha hna';have sb := widen_sign hb hnb';have ca := widen_some hna';have cb := widen_some hnb'
     by_cases ho : FloatKind.f32.format.order a b = some .eq
     · have h4 : (FloatKind.f32.format.order a b == some .eq) = true := by rw [ho];rfl
       have h5 : decide (a = b) = (decide (2147483648 ≤ a) == decide (2147483648 ≤ b)) := by
        by_cases hs : decide (2147483648 ≤ a) = decide (2147483648 ≤ b)
        · have := order_bits ha hb hna' hnb' ho hs
          subst this;simp
        · rw [(beq_eq_false_iff_ne).2 hs]
          refine decide_eq_false fun h => hs ?_
          rw [h]
       have va := fun w => run_convert_float_float w 33 83 .f32 .f64 a _ (by rw [jb2];rfl) jb0 ca
       have vb := fun w => run_convert_float_float w 33 83 .f32 .f64 b _ (by rw [jb2];rfl) jb0 cb
       have Ha := Signbit_any (jbr .f32 a .f64);have Hb := Signbit_any (jbr .f32 b .f64);rw [h5,← sa.1,← sb.1];generalize jbr .f32 a .f64 = x at *;generalize jbr .f32 b .f64 = y at *;have Ha := fun w => Ha w sa.2
       have Hb := fun w => Hb w sb.2
       clear h5 ha hb hna hnb hna' hnb' sa sb ho;generalize decide (9223372036854775808 ≤ x) = p at *;generalize decide (9223372036854775808 ≤ y) = q at *;go_enter Try.func14,Try.ntmps14;go_wp2_with fail;refine (Ha _).mono ?_;rintro e w1 ⟨rfl,rfl⟩
       go_wp2_with fail;refine (Hb _).mono ?_;rintro e w1 ⟨rfl,rfl⟩
       go_wp2;go_ret;exact ⟨rfl,rfl⟩
     · have h4 : (FloatKind.f32.format.order a b == some .eq) = false := by simpa using ho
       have h5 : decide (a = b) = false := by
        refine decide_eq_false fun h => ho ?_
        subst h;exact order_self hna'
       rw [h5];clear h5 ha hb hna hnb hna' hnb' sa sb ho;go_enter Try.func14,Try.ntmps14;go_wp2;go_ret;exact ⟨rfl,rfl⟩
def anyTo (q : Nat → Bool) : Nat → Bool
 | 0 => false
 | n + 1 => anyTo q n || q n
theorem anyTo_true {q : Nat → Bool} : ∀ {n : Nat},anyTo q n = true ↔ ∃ i,i < n ∧ q i = true
 | 0 => by simp [anyTo]
 | n + 1 => by
   rw [anyTo,Bool.or_eq_true,anyTo_true]
   constructor
   · rintro (⟨i,h1,h2⟩ | h)
     · exact ⟨i,by omega,h2⟩
     · exact ⟨n,by omega,h⟩
   · rintro ⟨i,h1,h2⟩
     by_cases hi : i = n
     · subst hi;exact .inr h2
     · exact .inl ⟨i,by omega,h2⟩
theorem anyTo_false {q : Nat → Bool} {n : Nat} (h : ∀ i,i < n → q i = false) : anyTo q n = false := by
 rw [← Bool.not_eq_true,anyTo_true];rintro ⟨i,h1,h2⟩;rw [h i h1] at h2;cases h2
theorem eq_of_getD {xs ys : List Nat} (hl : xs.length = ys.length) (h : ∀ j,j < xs.length → xs.getD j 0 = ys.getD j 0) : xs = ys := by
 refine List.ext_getElem hl fun i h1 h2 => ?_
 have := h i h1
 simpa [h1,h2] using this
theorem getD_lt {xs : List Nat} {B : Nat} (hB : 0 < B) (h : ∀ x ∈ xs,x < B) (j : Nat) : xs.getD j 0 < B := by
 by_cases hj : j < xs.length
 · have : xs.getD j 0 = xs[j] := by simp [hj]
   rw [this];exact h _ (by simp)
 · have : xs.getD j 0 = 0 := by simp;rw [List.getElem?_eq_none (by omega)];rfl
   rw [this];exact hB
def In32 (xs : List Nat) : Prop := ∀ x ∈ xs,x < 4294967296
def PredOk2 (fn : Nat) (us vs : List Value) (q : Nat → Bool) (w : World) : Prop :=
 ∀ (i : Nat) (u v : Value) (W : World),us[i]? = some u → vs[i]? = some v → Ext w W → Calls Try.prog fn #[u,v] W fun e w' => e = .returned (.bool (q i)) ∧ Ext W w'
theorem equalF32_any (fn : Nat) (eg : ∀ args w,(callFunc fn args).run Try.prog w = .ok (.enter fn args) w) (p q : Option Addr) (n m c d : Nat) (us vs : List Value) (f : Nat → Bool) (w : World) (hx : us.length = n) (hy : vs.length = m) (hn : n ≤ maxLen) (hp : Cs w p us) (hq : Cs w q vs) (hf : PredOk2 fn us vs f w) :
 Calls Try.prog 115 #[.slice p n c,.slice q m d,.func (.func fn) #[] #[]] w fun e w' => e = .returned (.bool (decide (n = m) && !anyTo (fun i => !f i) n)) ∧ Ext w w' := by
 unfold maxLen at hn
 by_cases hnm : n = m
 · subst hnm
   have Hx := hid hx;have Hy := hid hy;have Hf := hid hf;clear hx hy hf;go_enter Try.func115,Try.ntmps115;go_wp2;go_loopw [17] (fun iv wr => ∃ i : Nat,i ≤ n ∧ iv = .int .i64 i ∧ Hid (∀ j,j < i → f j = true) ∧ Ext w wr) (fun iv _ => n - (intOf iv).toNat)
   case atStart => exact ⟨0,by omega,rfl,hid (fun j hj => absurd hj (Nat.not_lt_zero j)),Ext.refl w⟩
   case round =>
    obtain ⟨i,hi,rfl,Hall,he⟩ := hrel
    by_cases hlt : i < n
    · have hp' := hp.ext he
      have hq' := hq.ext he;have E1 : Hid (us[i]? = some (us[i]'(by rw [Hx.out];exact hlt))) := hid (by simp);have E2 : Hid (vs[i]? = some (vs[i]'(by rw [Hy.out];exact hlt))) := hid (by simp);have hcall := Hf.out i _ _ wr E1.out E2.out he;generalize us[i]'(by rw [Hx.out];exact hlt) = u1 at *;generalize vs[i]'(by rw [Hy.out];exact hlt) = u2 at *;obtain ⟨b,hb⟩ : ∃ b,f i = b := ⟨_,rfl⟩;rw [hb] at hcall;have Hb := hid hb;clear hb
      cases b with
      | true =>
        go_wp2_with (first | (go_at_fn fn;refine hcall.mono ?_;rintro e w1 ⟨rfl,e1⟩) | (refine jbl rfl rfl rfl rfl (fun _ => rfl) rfl rfl hp' Hx.out (by omega) (by omega) ?_;intro u hu';rw [Int.toNat_natCast,E1.out] at hu';cases hu') | (refine jbl rfl rfl rfl rfl (fun _ => rfl) rfl rfl hq' Hy.out (by omega) (by omega) ?_;intro u hu';rw [Int.toNat_natCast,E2.out] at hu';cases hu'));go_roundw
        case rel =>
         refine ⟨i + 1,by omega,by go_num,hid fun j hj => ?_,he.trans e1⟩
         by_cases hji : j = i
         · subst hji;exact Hb.out
         · exact Hall.out j (by omega)
        case measure => simp [intOf];omega
      | false =>
        go_wp2_with (first | (go_at_fn fn;refine hcall.mono ?_;rintro e w1 ⟨rfl,e1⟩) | (refine jbl rfl rfl rfl rfl (fun _ => rfl) rfl rfl hp' Hx.out (by omega) (by omega) ?_;intro u hu';rw [Int.toNat_natCast,E1.out] at hu';cases hu') | (refine jbl rfl rfl rfl rfl (fun _ => rfl) rfl rfl hq' Hy.out (by omega) (by omega) ?_;intro u hu';rw [Int.toNat_natCast,E2.out] at hu';cases hu'));go_ret;refine ⟨?_,he.trans e1⟩;have : anyTo (fun i => !f i) n = true := anyTo_true.2 ⟨i,hlt,by rw [Hb.out];rfl⟩;rw [this];simp
    · obtain rfl : i = n := by omega
      go_wp2;go_ret;refine ⟨?_,he⟩;have : anyTo (fun i => !f i) i = false := anyTo_false fun j hj => by rw [Hall.out j hj];rfl
      rw [this];simp
 · have h : decide (n = m) = false := decide_eq_false hnm
   rw [h,Bool.false_and];clear h hx hy hf hp hq eg;go_enter Try.func115,Try.ntmps115;go_wp2;go_ret;exact ⟨rfl,Ext.refl w⟩
theorem sameLists_any (p q : Option Addr) (n m c d : Nat) (us vs : List Value) (xs ys : List Nat) (w : World) (hx : xs.length = n) (hy : ys.length = m) (hn : n ≤ maxLen) (hp : Cs w p us) (hq : Cs w q vs) (hu : F32s us xs) (hv : F32s vs ys) (bx : In32 xs) (bY : In32 ys) :
 Calls Try.prog 73 #[.slice p n c,.slice q m d] w fun e w' => e = .returned (.bool (decide (xs = ys))) ∧ Ext w w' := by
 have hcall := equalF32_any 14 (by intro args w;kernel_rfl) p q n m c d us vs (fun i => decide (xs.getD i 0 = ys.getD i 0)) w (by rw [hu.1,hx]) (by rw [hv.1,hy]) hn hp hq (by
  intro i u v W h1 h2 _;have l1 : i < xs.length := by rw [← hu.1];exact (List.getElem?_eq_some_iff.1 h1).1
  have l2 : i < ys.length := by rw [← hv.1];exact (List.getElem?_eq_some_iff.1 h2).1
  obtain ⟨r1,e1,c1⟩ := hu.get l1;obtain ⟨r2,e2,c2⟩ := hv.get l2;rw [h1] at e1;rw [h2] at e2
  cases e1;cases e2
  refine (ja1 r1 r2 W (by rw [c1];exact getD_lt (by decide) bx i) (by rw [c2];exact getD_lt (by decide) bY i)).mono ?_;rintro e w1 ⟨rfl,rfl⟩
  exact ⟨by rw [c1,c2],Ext.refl _⟩)
 have hb : (decide (n = m) && !anyTo (fun i => !decide (xs.getD i 0 = ys.getD i 0)) n) = decide (xs = ys) := by
  rw [Bool.eq_iff_iff];simp only [Bool.and_eq_true,decide_eq_true_eq,Bool.not_eq_true']
  constructor
  · rintro ⟨h1,h2⟩
    refine eq_of_getD (by omega) fun j hj => ?_
    by_cases hc : xs.getD j 0 = ys.getD j 0
    · exact hc
    · rw [Bool.eq_false_iff] at h2
      exact absurd (anyTo_true.2 ⟨j,by omega,by simpa using hc⟩) h2
  · rintro rfl
    exact ⟨by omega,anyTo_false fun j hj => by simp⟩
 rw [hb] at hcall;clear hb;generalize decide (xs = ys) = b at *;clear hx hy hp hq hu hv bx bY;go_enter Try.func73,Try.ntmps73;go_wp2_with fail;refine hcall.mono ?_;rintro e w1 ⟨rfl,e1⟩
 go_wp2;go_ret;exact ⟨rfl,e1⟩
-- the slice type is an instance of Ty
instance elFloat32SS : ElTy Try.prog 25 (.sl .flt) := ⟨by kernel_rfl,by kernel_rfl⟩
def Fl3 (w : World) (p : Option Addr) (xs : List Nat) : Prop := ∃ vs,Cs w p vs ∧ F32s vs xs ∧ xs.length ≤ maxLen ∧ In32 xs
theorem Fl3.ext {w w' : World} {p : Option Addr} {xs : List Nat} (h : Fl3 w p xs) (e : Ext w w') : Fl3 w' p xs := by
 obtain ⟨vs,h1,h2,h3,h4⟩ := h;exact ⟨vs,h1.ext e,h2,h3,h4⟩
structure Lays (w : World) (p : Option Addr) (n : Nat) (css : List (List Value)) (l : List jac.T) : Prop where
 cs : Cs w p css.flatten
 all : All2 (Rep w jac) css l
 size : ∀ c ∈ css,c.length = jac.sz
 one : ∀ c ∈ css,∀ u ∈ c,u.oneCell' = true
 len : l.length = n
 cnt : css.length = n
 fit : ∀ x ∈ l,Fit jac x
 le : n ≤ maxLen
theorem Lays.ext {w w' : World} {p : Option Addr} {n : Nat} {css : List (List Value)} {l : List jac.T} (h : Lays w p n css l) (e : Ext w w') : Lays w' p n css l :=
 ⟨h.cs.ext e,h.all.imp fun _ _ => Rep.ext e,h.size,h.one,h.len,h.cnt,h.fit,h.le⟩
theorem lays_of {w : World} {v : Value} {l : List jac.T} (h : Rep w (.sl jac) [v] l) (hf : Fit (.sl jac) l) : ∃ p c css,v = .slice p l.length c ∧ Lays w p l.length css l := by
 obtain ⟨p,c,css,h1,a2,a3,a4,a5⟩ := h
 cases h1
 refine ⟨p,c,css,rfl,a2,a5,fun c hc => ?_,fun c hc => ?_,rfl,a5.length,hf,Nat.le_trans a3 a4⟩
 · obtain ⟨i,hi,rfl⟩ := List.mem_iff_getElem.1 hc;obtain ⟨_,h⟩ := a5.get' i (by rw [← a5.length];exact hi);exact h.size
 · obtain ⟨i,hi,rfl⟩ := List.mem_iff_getElem.1 hc;obtain ⟨_,h⟩ := a5.get' i (by rw [← a5.length];exact hi);exact h.one
structure Slts (w : World) (p : Option Addr) (n : Nat) (us : List Value) (l : List (List Nat)) : Prop where
 cs : Cs w p us
 at' : ∀ i,i < n → ∃ q c,us[i]? = some (.slice q (l.getD i []).length c) ∧ Fl3 w q (l.getD i [])
 len : l.length = n
 cnt : us.length = n
 le : n ≤ maxLen
theorem Slts.ext {w w' : World} {p : Option Addr} {n : Nat} {us : List Value} {l : List (List Nat)} (h : Slts w p n us l) (e : Ext w w') : Slts w' p n us l :=
 ⟨h.cs.ext e,fun i hi => by obtain ⟨q,c,h1,h2⟩ := h.at' i hi;exact ⟨q,c,h1,h2.ext e⟩,h.len,h.cnt,h.le⟩
end Go.Proofs.Ytmbckkcgiafagaa
