/- A part of the proofs: SameE, WorkersLaw, RowsAloneLaw, OpenB. -/
import Derived.Test.YtmbckkcgiafagaaZ08FnRows
import Derived.Test.YtmbckkcgiafagaaZ02FnRows
import Derived.Test.YtmbckkcgiafagaaZ12FnRows
import Derived.Laws.CopyRow
import Derived.Laws.Bits128
import Derived.Laws.BytesArg
import Derived.Laws.IdiomStrings
import Derived.Test.YtmbckkcgiafagaaZ16FnRows
import Derived.Test.YtmbckkcgiafagaaZ10FnRows
import Derived.Test.YtmbckkcgiafagaaZ03FnRows
import Derived.Test.YtmbckkcgiafagaaZ07FnRows
import Derived.Test.YtmbckkcgiafagaaZ09FnRows
import Derived.Test.YtmbckkcgiafagaaZ13FnRows
import Derived.Test.YtmbckkcgiafagaaZ17FnRows
import Derived.Test.YtmbckkcgiafagaaZ06FnRows
import Derived.Test.YtmbckkcgiafagaaZ14FnRows
import Derived.Test.YtmbckkcgiafagaaZ11FnRows
set_option linter.unusedSimpArgs false
set_option linter.unusedVariables false
set_option maxRecDepth 100000
set_option maxHeartbeats 16000000
namespace Go.Proofs.Ytmbckkcgiafagaa
open Go.RowKit
theorem widen_lt {a : Nat} (na : (FloatKind.f32.decode a).isNaN = false) : jba .f32 a .f64 < 18446744073709551616 := by
 have ho := fover_widen a
 have key : jba .f32 a .f64 = Ieee.double.write (Ieee.single.read a) := by
  have hne : ¬ (FloatKind.f32 = FloatKind.f64) := by decide
  unfold fover at ho;rw [na] at ho;simp only [Bool.not_false,Bool.true_and] at ho;unfold jba
  cases h : floatToFloatBits .f32 a .f64 with
  | none => rw [h] at ho;cases ho
  | some r =>
    simp only [floatToFloatBits,hne,if_false] at h
    split at h
    · cases h
    · rename_i hd;cases h;show _ = Ieee.double.write (FloatKind.f32.decode a);rw [hd];rfl
    · rename_i hd
      split at h
      · cases h
      · cases h;show _ = Ieee.double.write (FloatKind.f32.decode a);rw [hd];rfl
 rw [key];exact Ieee.double.write_lt _
theorem same_e (a b : Nat) (w : World) (h : cn .f32 a = cn .f32 b) : Calls Try.prog 14 #[.float .f32 a,.float .f32 b] w fun e w' => e = .returned (.bool true) ∧ w' = w := by
 by_cases hna : (FloatKind.f32.decode a).isNaN = true
 · have h1 : (FloatKind.f32.format.order a a != some .eq) = true := by rw [order_nan hna];rfl
   have hnb : (FloatKind.f32.decode b).isNaN = true := (isNaN_of_cn h).symm.trans hna;have h2 : (FloatKind.f32.format.order b b != some .eq) = true := by rw [order_nan hnb];rfl
   clear h hna hnb;go_enter Try.func14,Try.ntmps14;go_wp2;go_ret;exact ⟨rfl,rfl⟩
 · have hna' : (FloatKind.f32.decode a).isNaN = false := by simpa using hna
   have hnb' : (FloatKind.f32.decode b).isNaN = false := (isNaN_of_cn h).symm.trans hna';rw [cn_not hna',cn_not hnb'] at h;subst h;have h1 : (FloatKind.f32.format.order a a != some .eq) = false := by rw [order_self hna'];rfl
   have h4 : (FloatKind.f32.format.order a a == some .eq) = true := by rw [order_self hna'];rfl
   have ca := widen_some hna';have va := fun w => run_convert_float_float w 33 83 .f32 .f64 a _ (by rw [underlying_f32];rfl) underlying_f64 ca
   have Ha := fun w => Signbit_any (jba .f32 a .f64) w (widen_lt hna')
   generalize jba .f32 a .f64 = x at *;clear hna hna' hnb' ca;generalize decide (9223372036854775808 ≤ x) = p at *;go_enter Try.func14,Try.ntmps14;go_wp2_with fail;refine (Ha _).mono ?_;rintro e w1 ⟨rfl,rfl⟩
   go_wp2_with fail;refine (Ha _).mono ?_;rintro e w1 ⟨rfl,rfl⟩
   go_wp2;go_ret;exact ⟨by simp,rfl⟩
theorem r8Same_e (p q : Option Addr) (n c d : Nat) (us vs : List Value) (xs : List Nat) (w : World) (hx : xs.length = n) (hn : n ≤ 1048576) (hp : Cs w p us) (hf : F32s us xs) (hq : Cs w q vs) (hg : F32s vs xs) :
 Calls Try.prog 15 #[.slice p n c,.slice q n d] w fun e w' => e = .returned (.bool true) ∧ Ext w w' := by
 have HU := hid (hf.1.trans hx);have HV := hid (hg.1.trans hx);have hnn := bne_f (rfl : (n : Int) = (n : Int));go_enter Try.func15,Try.ntmps15;go_wp2;go_loopw [5] (fun iv wr => ∃ i : Nat,i ≤ n ∧ iv = .int .i64 i ∧ Ext w wr) (fun iv _ => n - (intOf iv).toNat)
 case atStart => exact ⟨0,by omega,rfl,Ext.refl _⟩
 case round =>
  obtain ⟨i,hi,rfl,he⟩ := hrel
  by_cases hlt : i < n
  · have hix : i < xs.length := by omega
    obtain ⟨r1,hr1,g1⟩ := hf.get hix;obtain ⟨r2,hr2,g2⟩ := hg.get hix;have C := hid (fun W => same_e r1 r2 W (by rw [g1,g2]));have R1 := hid hr1;have R2 := hid hr2;clear hr1 hr2 g1 g2;have k1 := (hp.ext he).ext (Ext.drew wr);have k2 := (hq.ext he).ext (Ext.drew wr);go_wp2_with fail;refine jab (F := fun _ _ u => u = .bool true) (by kernel_rfl) (by kernel_rfl) (by kernel_rfl) ?_;intro wf hwf
    repeat (first
     | ((first | (refine jal rfl ?_) | (refine x_mv rfl rfl rfl ?_) | (refine x_as rfl rfl rfl ?_) | ((with_reducible show gx0);first | (refine x_idxload rfl rfl (fun _ => rfl) rfl (fun _ => rfl) rfl rfl k1 HU.out (by omega) (by omega) ?_;intro u hu;rw [Int.toNat_natCast,R1.out] at hu;cases hu) | (refine x_idxload rfl rfl (fun _ => rfl) rfl (fun _ => rfl) rfl rfl k2 HV.out (by omega) (by omega) ?_;intro u hu;rw [Int.toNat_natCast,R2.out] at hu;cases hu)) | ((with_reducible show gx6);refine jap (f := 14) (args := #[.float .f32 r1,.float .f32 r2]) rfl rfl Try.func14 rfl (by kernel_rfl) ?_ ?_ ?_;(focus (simp [Act.eval];done));(focus (intro w1 hw1;exact ((C.out w1).mono fun e w3 h => ⟨_,h.1,by rw [h.2];exact Ext.refl _,rfl⟩)));rintro u w3 e3 e4 hu;subst hu));simp only [Act.put,jad,pu1,pu2,pu3,pu4,pu5])
     | (refine ja2 rfl fun K hK w1 hw1 => ?_;go_simp;refine hK _ ?_;clear hK K  hw1 w1))
    refine ja1 ?_;have hW := (he.trans (Ext.drew wr)).trans hwf;go_wp2;go_roundw
    case rel => exact ⟨i + 1,by omega,by go_num,hW⟩
    case measure => simp [intOf];omega
  · obtain rfl : n = i := by omega
    go_wp2;go_ret;exact ⟨rfl,he⟩
theorem specSame_e (a b : Nat) (w : World) (h : cn .f32 a = cn .f32 b) : Calls Try.prog 78 #[.float .f32 a,.float .f32 b] w fun e w' => e = .returned (.bool true) ∧ w' = w := by
 have Ha := l01Bits_any a;have Hb := l01Bits_any b;rw [h] at Ha;generalize bitsOf (cn .f32 b) = y at *;clear h;go_enter Try.func78,Try.ntmps78;go_wp2_with (first | (go_at_call 121;go_in) | fail);refine (Ha _).mono ?_;rintro e w1 ⟨rfl,rfl⟩
 go_wp2_with fail;refine (Hb _).mono ?_;rintro e w1 ⟨rfl,rfl⟩
 go_wp2;go_ret;exact ⟨by simp,rfl⟩
theorem b10Same_e (p q : Option Addr) (n c d : Nat) (us vs : List Value) (xs : List Nat) (w : World) (hx : xs.length = n) (hn : n ≤ 1048576) (hp : Cs w p us) (hf : F32s us xs) (hq : Cs w q vs) (hg : F32s vs xs) :
 Calls Try.prog 36 #[.slice p n c,.slice q n d] w fun e w' => e = .returned (.bool true) ∧ Ext w w' := by
 have HU := hid (hf.1.trans hx);have HV := hid (hg.1.trans hx);have hnn := bne_f (rfl : (n : Int) = (n : Int));go_enter Try.func36,Try.ntmps36;go_wp2;go_loopw [5] (fun iv wr => ∃ i : Nat,i ≤ n ∧ iv = .int .i64 i ∧ Ext w wr) (fun iv _ => n - (intOf iv).toNat)
 case atStart => exact ⟨0,by omega,rfl,Ext.refl _⟩
 case round =>
  obtain ⟨i,hi,rfl,he⟩ := hrel
  by_cases hlt : i < n
  · have hix : i < xs.length := by omega
    obtain ⟨r1,hr1,g1⟩ := hf.get hix;obtain ⟨r2,hr2,g2⟩ := hg.get hix;have C := hid (fun W => specSame_e r1 r2 W (by rw [g1,g2]));have R1 := hid hr1;have R2 := hid hr2;clear hr1 hr2 g1 g2;have k1 := (hp.ext he).ext (Ext.drew wr);have k2 := (hq.ext he).ext (Ext.drew wr);go_wp2_with fail;refine jab (F := fun _ _ u => u = .bool true) (by kernel_rfl) (by kernel_rfl) (by kernel_rfl) ?_;intro wf hwf
    repeat (first
     | ((first | (refine jal rfl ?_) | (refine x_mv rfl rfl rfl ?_) | (refine x_as rfl rfl rfl ?_) | ((with_reducible show gx0);first | (refine x_idxload rfl rfl (fun _ => rfl) rfl (fun _ => rfl) rfl rfl k1 HU.out (by omega) (by omega) ?_;intro u hu;rw [Int.toNat_natCast,R1.out] at hu;cases hu) | (refine x_idxload rfl rfl (fun _ => rfl) rfl (fun _ => rfl) rfl rfl k2 HV.out (by omega) (by omega) ?_;intro u hu;rw [Int.toNat_natCast,R2.out] at hu;cases hu)) | ((with_reducible show gx6);refine jap (f := 78) (args := #[.float .f32 r1,.float .f32 r2]) rfl rfl Try.func78 rfl (by kernel_rfl) ?_ ?_ ?_;(focus (simp [Act.eval];done));(focus (intro w1 hw1;exact ((C.out w1).mono fun e w3 h => ⟨_,h.1,by rw [h.2];exact Ext.refl _,rfl⟩)));rintro u w3 e3 e4 hu;subst hu));simp only [Act.put,jad,pu1,pu2,pu3,pu4,pu5])
     | (refine ja2 rfl fun K hK w1 hw1 => ?_;go_simp;refine hK _ ?_;clear hK K  hw1 w1))
    refine ja1 ?_;have hW := (he.trans (Ext.drew wr)).trans hwf;go_wp2;go_roundw
    case rel => exact ⟨i + 1,by omega,by go_num,hW⟩
    case measure => simp [intOf];omega
  · obtain rfl : n = i := by omega
    go_wp2;go_ret;exact ⟨rfl,he⟩
end Go.Proofs.Ytmbckkcgiafagaa
namespace Go.Proofs.Ytmbckkcgiafagaa.lWorkers
open Go.RowKit
theorem inL_nat {l : List jaa.T} (hM : ModOk l) : ∃ m : Nat,(m : Int) = inL l 0 ∧ 1 ≤ m ∧ m ≤ 8 := by
 have hp := hM.pos;have h1 := layD_int (hM.lay 0 (by omega));have h2 : inL l 0 = (l[0]'(by omega)).2.1 := by unfold inL;rw [List.getElem?_eq_getElem (show 0 < l.length by omega)];rfl
 exact ⟨(l[0]'(by omega)).2.1.toNat,by rw [h1.1,h2],h1.2.2.2.1,h1.2.2.1⟩
end Go.Proofs.Ytmbckkcgiafagaa.lWorkers
namespace Go.Proofs.Ytmbckkcgiafagaa.lRowsAlone
open Go.RowKit
theorem rowsM_one {L : List jaa.T} {xs : List Nat} {I : Nat} (h : xs.length = I) : rowsM L xs I 1 = curF L xs L.length := by
 rw [rowsM_succ,rowsM_zero,List.nil_append]
 congr 1
 unfold rowT;rw [Nat.zero_mul,List.drop_zero,Nat.zero_add,Nat.one_mul,← h,List.take_length]
theorem RunModel_row (q rq : Option Addr) (n c I O rc : Nat) (L : List jaa.T) (xs : List Nat) (w : World) (hm : modB L = true) (hn : L.length = n) (hf : Fit (.sl jaa) L) (hr : Rep w (.sl jaa) [.slice q n c] L) (hI : (I : Int) = inL L 0) (hO : (O : Int) = outL L) (hI1 : 1 ≤ I ∧ I ≤ 16) (hx : xs.length = I) (hxb : ∀ x ∈ xs,x < 4294967296) (ht : Rep w (.sl .flt) [.slice rq I rc] xs) :
 Calls Try.prog 28 #[.agg #[.slice q n c],.agg #[.int .i64 1,.int .i64 I,.slice rq I rc]] w fun e w' => ∃ (oq : Option Addr) (oc : Nat) (us : List Value),e = .returned (.tuple #[.agg #[.int .i64 1,.int .i64 O,.slice oq O oc],.bool true]) ∧ (curF L xs n).length = O ∧ Cs w' oq us ∧ F32s us (curF L xs n) ∧ O ≤ oc ∧ oc ≤ maxLen ∧ Ext w w' := by
 have h := RunModel_yes q rq n c 1 I O rc L xs w hm hn hf hr hI hO (by omega) hI1 (by omega) hxb (by rw [Nat.one_mul];exact ht);simp only [Nat.one_mul,rowsM_one hx,hn] at h;exact h
theorem stF_get (L : List jaa.T) (x : List Nat) {n k : Nat} (h : k < n) : (stF L x n).getD k [] = curF L x (k + 1) := by
 unfold stF;rw [List.getD_eq_getElem?_getD,List.getElem?_map,List.getElem?_range h];rfl
theorem row_lt {xs : List Nat} {c i : Nat} (h : ∀ x ∈ xs,x < 4294967296) : ∀ x ∈ rowT xs c i,x < 4294967296 := fun x hx => h x (List.mem_of_mem_take (List.mem_of_mem_drop hx))
theorem law_any (p0 q0 : Option Addr) (n0 c0 m0 d0 : Nat) (bs ms : List Nat) (w : World) (hc0 : Cs w p0 (u8s bs)) (hl0 : bs.length = n0) (hb0 : ∀ b ∈ bs,b < 256) (hd0 : Cs w q0 (u8s ms)) (hm0 : ms.length = m0) (hb1 : ∀ b ∈ ms,b < 256) :
 Calls Try.prog 6 #[.slice p0 n0 c0,.slice q0 m0 d0] w fun e w' => e = .returned (.bool true) ∧ Ext w w' := by
 go_enter Try.func6,Try.ntmps6;go_wp2_with fail;refine (b10Long_any _ _ _ _ _ _ _).mono ?_;rintro e w1 ⟨rfl,rfl⟩
 by_cases hlong : 1048576 < n0 ∨ 1048576 < m0
 · have hd : (decide (1048576 < n0) || decide (1048576 < m0)) = true := by simpa using hlong
   rw [hd];go_wp2;go_ret;exact ⟨rfl,Ext.refl _⟩
 have hn0 : n0 ≤ 1048576 := by omega
 have hmm0 : m0 ≤ 1048576 := by omega
 have hd : (decide (1048576 < n0) || decide (1048576 < m0)) = false := by simp;omega
 rw [hd];clear hd hlong;go_wp2_with fail;refine (B10Model_any p0 n0 c0 bs _ hc0 hl0 hn0 hb0).mono ?_;rintro e w1 ⟨L,q,c,rfl,hmod,hfit,ho,e1⟩
 have hM := modOk hmod;obtain ⟨O,hO,hO1,hO8⟩ := outL_nat hM;obtain ⟨I,hI,hI1,hI8⟩ := lWorkers.inL_nat hM;obtain ⟨obs,ow,_⟩ := ho;obtain ⟨p',c',css,hv,LY⟩ := lays_of ow.rep hfit
 cases hv
 have HRP := hid ow.rep;have b5 := HB.new w1 #[.slice q L.length c] 38;have e2 := Ext.alloc w1 (.cells #[.slice q L.length c] 38);obtain ⟨w2,hw2⟩ : ∃ w2,w2 = w1.alloc (.cells #[.slice q L.length c] 38) := ⟨_,rfl⟩;rw [← hw2] at b5 e2;have E2 := e1.trans e2;have hL1 := hM.pos;have hLY := LY.ext e2;obtain ⟨ci,k1,_,k2,k4⟩ := hLY.at (i := L.length - 1) (by omega);rw [outL_eq rfl] at k2;obtain ⟨di,j1,j2,_,_⟩ := hLY.at (i := 0) (by omega);rw [← hO] at k2;rw [← hI] at j2;have l1 := hLY.cs;have l3 := hLY.size;have l5 := hLY.cnt;have K1 := hid k1;have K2 := hid k2;have J1 := hid j1;have J2 := hid j2;have hfL := hid hfit;have HM := hid hM;have HO := hid hO;have HI := hid hI;have hmodL := hid hmod;have HLY := hid hLY;have hL6 := hM.few;clear k1 k2 j1 j2 LY hLY ow hO hI hM hmod hfit;obtain ⟨n,hn⟩ : ∃ n,n = L.length := ⟨_,rfl⟩;rw [← hn] at l5 hL1 K1 b5 hL6 HLY hw2 HRP ⊢;have HN := hid hn;have L5 := hid l5;clear hn l5;have r5 := b5.cell 0 rfl;have hw1 : IntKind.i64.wrap ((n : Int) - 1) = (n : Int) - 1 := jat _ (by omega) (by omega);rw [hw2] at r5 l1;go_wp2_with (first | ((with_reducible show gx14);refine wl_ldField (f := 1) (off := 1) (j := 0) rfl rfl rfl rfl rfl rfl (fun _ => rfl) (fun _ _ => rfl) jbc rfl rfl rfl l1 l3 L5.out (by omega) k4 J1.out J2.out ?_) | fail);rw [← hw2] at r5 l1 ⊢;clear hw2;refine (B10Rows_any q0 m0 d0 ms I w2 (hd0.ext E2) hm0 hmm0 hb1 (by omega)).mono ?_;rintro e w4 ⟨R,hR1,hR5,xs,tq,tc,us,rfl,hxl,hxb,ot,hfx,e4⟩
 have hRI : R * I ≤ 5 * 8 := Nat.mul_le_mul hR5 hI8;have hRO : R * O ≤ 5 * 8 := Nat.mul_le_mul hR5 hO8;have b6 := HB.new w4 #[.int .i64 R,.int .i64 I,.slice tq (R * I) tc] 27;have e5 := Ext.alloc w4 (.cells #[.int .i64 R,.int .i64 I,.slice tq (R * I) tc] 27);obtain ⟨w5,hw5⟩ : ∃ w5,w5 = w4.alloc (.cells #[.int .i64 R,.int .i64 I,.slice tq (R * I) tc] 27) := ⟨_,rfl⟩;rw [← hw5] at b6 e5;have e25 := e4.trans e5;have B5 := b5.ext e25;have xcs := (own_Cs ot).ext e5;have hcx := (jay ot).1;have hcx2 := (jay ot).2;have hxr : Rep w5 (.sl .flt) [.slice tq (R * I) tc] xs := (rep_fl hxl ot hfx).ext e5;have E5 := E2.trans e25;have x0 := B5.cell 0 rfl;have y0 := b6.cell 0 rfl;have y1 := b6.cell 1 rfl;have y2 := b6.cell 2 rfl;have hRP5 : Rep w5 (.sl jaa) [.slice q n c] L := HRP.out.ext (e2.trans e25);have HLY5 := hid (HLY.out.ext e25);have HX := hid hxl;have HXB := hid hxb;have HFX := hid hfx;have HXR := hid hxr;have HRP5 := hid hRP5;have CR := hid (fun W (h : Ext w5 W) => RunModel_yes q tq n c R I O tc L xs W hmodL.out HN.out.symm hfL.out (HRP5.out.ext h) HI.out HO.out (by omega) (by omega) HX.out HXB.out (HXR.out.ext h));clear ot hxl hxb hfx hxr hRP5 HRP HLY r5 l1 b5;rw [hw5] at x0 y0 y1 y2;go_wp2_with fail;rw [← hw5] at x0 y0 y1 y2 ⊢;clear hw5;refine (CR.out w5 (Ext.refl _)).mono ?_;rintro e w6 ⟨oq,oc,ous,rfl,hyl,ocs,hfy,hcy,hcy2,e6⟩
 obtain ⟨RO,hROe⟩ : ∃ x,x = R * O := ⟨_,rfl⟩;rw [← hROe] at hyl hcy hRO ⊢;have HRO := hid hROe;have HYL := hid hyl;clear hROe hyl;have b7 := HB.new w6 #[.int .i64 R,.int .i64 O,.slice oq RO oc] 27;have e7 := Ext.alloc w6 (.cells #[.int .i64 R,.int .i64 O,.slice oq RO oc] 27);obtain ⟨w7,hw7⟩ : ∃ w7,w7 = w6.alloc (.cells #[.int .i64 R,.int .i64 O,.slice oq RO oc] 27) := ⟨_,rfl⟩;rw [← hw7] at b7 e7;have e57 := e6.trans e7;have x7 := (B5.ext e57).cell 0 rfl;rw [hw7] at x7;clear x0 y0 y1 y2;go_wp2_with fail;rw [← hw7] at x7 ⊢;clear hw7;refine (ParamsOf_any q n c L css w7 (HLY5.out.ext e57)).mono ?_;rintro e w8 (⟨hb,_⟩ | ⟨_,uq,uc,uvs,rfl,uo,uf,e8⟩)
 · exact absurd (hb.symm.trans hmodL.out) (by decide)
 obtain ⟨P,hP⟩ : ∃ P,P = (parF L).length := ⟨_,rfl⟩;have hP4 : P ≤ 432 := by rw [hP];exact parF_few HM.out
 rw [← hP] at uo ⊢;have HP := hid hP;clear hP;have e58 := e57.trans e8;have x8 := (B5.ext e58).cell 0 rfl;clear x7;go_wp2_with fail;refine (CountParams_yes q n c L css w8 (HLY5.out.ext e58) hmodL.out).mono ?_;rintro e w9 ⟨rfl,e9⟩
 rw [← HP.out];have e59 := e58.trans e9;have x9 := (B5.ext e59).cell 0 rfl;clear x8;go_wp2_with fail;refine (WithParams_yes q uq n c P uc css L uvs (parF L) w9 (HLY5.out.ext e59) hmodL.out HP.out.symm HP.out (jay uo).1 ((own_Cs uo).ext e9) uf).mono ?_;rintro e wA ⟨vq,vc,rfl,vo,eA⟩
 have hself : wthF L (parF L) n = L := by rw [HN.out,wthF_self (Nat.le_refl _),List.take_length]
 rw [hself] at vo;obtain ⟨vbs,vow,_⟩ := vo;have vrep := vow.rep;have bD := HB.new wA #[.slice vq n vc] 38;have eB := Ext.alloc wA (.cells #[.slice vq n vc] 38);obtain ⟨wB,hwB⟩ : ∃ wB,wB = wA.alloc (.cells #[.slice vq n vc] 38) := ⟨_,rfl⟩;rw [← hwB] at bD eB;have e9B := eA.trans eB;have e5B := e59.trans e9B;have HVR := hid (vrep.ext eB);have B5b := B5.ext e5B;have B6b := b6.ext e5B;have B7b := b7.ext ((e8.trans e9).trans e9B);have uvB := ((own_Cs uo).ext e9).ext e9B;clear x9 vrep vow hself uo;have X0 := B5b.cell 0 rfl;have Y0 := B6b.cell 0 rfl;have Y1 := B6b.cell 1 rfl;have Y2 := B6b.cell 2 rfl;have Z0 := B7b.cell 0 rfl;have Z1 := B7b.cell 1 rfl;have Z2 := B7b.cell 2 rfl;have V0 := bD.cell 0 rfl;rw [hwB] at X0 Y0 Y1 Y2 Z0 Z1 Z2 V0;go_wp2;rw [← hwB] at X0 Y0 Y1 Y2 Z0 Z1 Z2 V0 ⊢;clear hwB;have hv2 := lays_of HVR.out hfL.out;obtain ⟨p2,c2,vcss,hv2,VL⟩ := hv2;rw [← HN.out] at hv2 VL
 cases hv2
 have VM := hid (fun W (h : Ext wB W) => ja4 vq n vc L vcss W VL.len VL.le (VL.cs.ext h) (VL.all.imp fun _ _ => Rep.ext h) VL.size VL.cnt);have hmt := hmodL.out;rw [hmt] at VM;have CRv := hid (fun W (h : Ext wB W) => RunModel_yes vq tq n vc R I O tc L xs W hmt HN.out.symm hfL.out (HVR.out.ext h) HI.out HO.out (by omega) (by omega) HX.out HXB.out ((HXR.out.ext e5B).ext h));have eD := Ext.drew wB;have xX0 := eD.cell X0;have xY0 := eD.cell Y0;have xZ0 := eD.cell Z0;have xZ1 := eD.cell Z1;have xZ2 := eD.cell Z2;have xV0 := eD.cell V0;have L1 := (((HLY5.out.cs).ext e5B).ext eD);have hPP : ((P : Int) != (P : Int)) = false := bne_f rfl;have hRR : ((R : Int) != (R : Int)) = false := bne_f rfl;have hOO : ((O : Int) != (O : Int)) = false := bne_f rfl;have hQQ : ((RO : Int) != (RO : Int)) = false := bne_f rfl;have hRO2 : IntKind.i64.wrap ((R : Int) * (O : Int)) = ((RO : Nat) : Int) := by rw [HRO.out,← Int.natCast_mul,← HRO.out];exact jat _ (by omega) (by omega)
 clear VL hmt HVR;refine jab (F := fun _ _ u => u = .bool true) (by kernel_rfl) (by kernel_rfl) (by kernel_rfl) ?_;intro wf hwf
 repeat (first
  | ((first | (refine jal rfl ?_) | (refine x_mv rfl rfl rfl ?_) | (refine x_as rfl rfl rfl ?_) | ((with_reducible show gx7);refine x_ldField (f := 2) (off := 2) (j := n - 1) rfl rfl (fun _ => rfl) rfl (fun _ _ => rfl) rfl (fun _ => rfl) (fun _ _ => rfl) jaw rfl rfl (by omega) L1 l3 L5.out (by omega) k4 K1.out K2.out ?_) | ((with_reducible show gx6);refine jap (f := 35) (args := #[.agg #[.slice vq n vc]]) rfl rfl Try.func35 rfl (by kernel_rfl) ?_ ?_ ?_;(focus (simp [Act.eval];done));(focus (intro w1 hw1;exact ((VM.out w1 (eD.trans hw1)).mono fun e w3 h => ⟨_,h.1,h.2,rfl⟩)));rintro u w3 e3 e4 hu;subst hu));simp only [Act.put,jad,pu1,pu2,pu3,pu4,pu5])
  | (refine ja2 rfl fun K hK w1 hw1 => ?_;have k0 := hw1.cell (xX0);have k1 := hw1.cell (xY0);have k2 := hw1.cell (xZ0);have k3 := hw1.cell (xZ1);have k4 := hw1.cell (xZ2);have k5 := hw1.cell (xV0);go_simp;refine hK _ ?_;clear hK K k0 k1 k2 k3 k4 k5 hw1 w1))
 refine ja1 ?_;have eC := eD.trans hwf;clear xX0 xY0 xZ0 xZ1 xZ2 xV0 VM;have X0c := eC.cell X0;have V0c := eC.cell V0;have Y0c := eC.cell Y0;have Y1c := eC.cell Y1;have Y2c := eC.cell Y2;have Z2c := eC.cell Z2;clear X0 V0 Y0 Y1 Y2 Z0 Z1 Z2;go_wp2_with fail;refine (CRv.out wf eC).mono ?_;rintro e wE ⟨sq,sc,sus,rfl,_,scs,sf,_,_,eE⟩
 rw [← HRO.out];have eF := Ext.alloc wE (.cells #[.int .i64 R,.int .i64 O,.slice sq RO sc] 27);have bS := HB.new wE #[.int .i64 R,.int .i64 O,.slice sq RO sc] 27;obtain ⟨wF,hwF⟩ : ∃ wF,wF = wE.alloc (.cells #[.int .i64 R,.int .i64 O,.slice sq RO sc] 27) := ⟨_,rfl⟩;rw [← hwF] at eF bS;have eEF := eE.trans eF;have S2 := bS.cell 2 rfl;have T2 := eEF.cell Z2c;rw [hwF] at S2 T2;clear X0c V0c Y0c Y1c Y2c Z2c;go_wp2_with fail;rw [← hwF] at S2 T2 ⊢;clear hwF;have ocF := ocs.ext ((((e7.trans e8).trans e9).trans e9B).trans (eC.trans eEF));refine (b10Same_e sq oq RO sc oc sus ous (rowsM L xs I R) wF HYL.out (by omega) (scs.ext eF) sf ocF hfy).mono ?_;rintro e wG ⟨rfl,eG⟩
 have eBG := (eC.trans eEF).trans eG;have B5g := B5b.ext eBG;have B6g := B6b.ext eBG;have B7g := B7b.ext eBG;have ocG := ocF.ext eG;have e5G := e5B.trans eBG;clear S2 T2 scs sf ocF bS CRv B5b B6b B7b bD;go_wp2;go_loopw [17] (fun iv wr => ∃ (r : Nat) (W : World),W = wr ∧ r ≤ R ∧ iv = .int .i64 (r : Int) ∧ Ext wG wr) (fun iv _ => R - (intOf iv).toNat)
 case atStart => exact ⟨0,_,rfl,by omega,rfl,Ext.refl _⟩
 case round =>
  obtain ⟨r,W,hWe,hr,rfl,hx⟩ := hrel;subst hWe;have B5w := B5g.ext hx;have B6w := B6g.ext hx;have B7w := B7g.ext hx;have X0 := B5w.cell 0 rfl;have Y0 := B6w.cell 0 rfl;have Y1 := B6w.cell 1 rfl;have Y2 := B6w.cell 2 rfl;have Z1 := B7w.cell 1 rfl;have Z2 := B7w.cell 2 rfl
  by_cases hlt : r < R
  · have hdr : decide ((r : Int) < (R : Int)) = true := by simp;omega
    have h1 : (r + 1) * I ≤ R * I := Nat.mul_le_mul_right I hlt;have h2 : (r + 1) * I = r * I + I := by rw [Nat.add_mul,Nat.one_mul]
    obtain ⟨lo,hlo⟩ : ∃ x,x = r * I := ⟨_,rfl⟩;obtain ⟨hi,hhi⟩ : ∃ x,x = (r + 1) * I := ⟨_,rfl⟩;have hA : IntKind.i64.wrap ((r : Int) * (I : Int)) = ((lo : Nat) : Int) := by rw [hlo,← Int.natCast_mul];exact jat _ (by omega) (by omega)
    have hB : IntKind.i64.wrap ((r : Int) + 1) = (r : Int) + 1 := jat _ (by omega) (by omega);have hC : IntKind.i64.wrap (((r : Int) + 1) * (I : Int)) = ((hi : Nat) : Int) := by rw [show (r : Int) + 1 = ((r + 1 : Nat) : Int) by omega,hhi,← Int.natCast_mul];exact jat _ (by omega) (by omega)
    have hlh := hid (show hi = lo + I by omega);have hhc : hi ≤ tc := by omega
    have hrw := row_cs (C := I) (i := r) (cp := tc) (xcs.ext ((e5G.trans hx).trans (Ext.alloc W (.cells #[] 33)))) (by omega);rw [← hhi,← hlo] at hrw;have hrl : (rowT xs I r).length = I := rowT_len HX.out hlt
    have hrf : F32s ((us.take hi).drop lo) (rowT xs I r) := by
     have h := HFX.out.part lo hi;unfold rowT;rw [hlo,hhi] at *;exact h
    have hun : ((us.take hi).drop lo).length = I := hrf.1.trans hrl;have hst : (W.alloc (.cells #[] 33)).ownsRow W.heap.size 33 1 (.slice (some ⟨W.heap.size,0,none⟩) 0 0) 0 [] := World.ownsRow_made W #[] 0 (Nat.le_refl _) (by decide) rfl;have HUN := hid hun;have HRL := hid hrl;have hlo2 : lo ≤ hi := by rw [hlh.out];omega
    have hil : hi - lo = I := by rw [hlh.out];omega
    have HIL := hid hil;clear hil;have eW := Ext.alloc W (.cells #[] 33);have Y1a := eW.cell Y1;have Y2a := eW.cell Y2;clear hlo hhi h1 h2 hun hrl;go_wp2_with (first | ((with_reducible show wpList _ _ _ (Oper.mk _ (Op.slice _ _ _ _ _) _ _ _ _ :: _) _ _);refine wl_slice (l := lo) (u := hi) rfl rfl rfl rfl rfl rfl rfl (by omega) (by omega) ?_) | ((with_reducible show gx8);refine wl_appz (b := 4) (B := W.heap.size) (m := hi - lo) rfl rfl rfl rfl hst hrw (by rw [HUN.out,HIL.out,Nat.mul_one]) (by omega) (F32s.one hrf) (by rw [HIL.out];unfold maxLen;omega) (by rw [HIL.out];omega) (by simp) ?_;intro v1 wr1 own1 gr1;rw [Nat.zero_add,HIL.out,List.nil_append] at own1;obtain ⟨rq,rc,rfl⟩ := own_valZ own1;have eX := eW.grown gr1 (jaf hst);have X0a := eX.cell X0;have Y1b := eX.cell Y1) | fail);have rrep := rep_fl HRL.out own1 hrf;obtain ⟨ro,hro⟩ : ∃ x,x = rowT xs I r := ⟨_,rfl⟩;have hrob : ∀ x ∈ ro,x < 4294967296 := by rw [hro];exact row_lt HXB.out
    rw [← hro] at rrep hrf HRL;have HRO' := hid hro;have HROB := hid hrob;have e5X := (e5G.trans hx).trans eX;have CRr := hid (fun W' (h : Ext wr1 W') => RunModel_row q rq n c I O rc L ro W' hmodL.out HN.out.symm hfL.out ((HRP5.out.ext e5X).ext h) HI.out HO.out (by omega) HRL.out HROB.out (rrep.ext h));have CSr := hid (fun W' (h : Ext wr1 W') => StagesOf_yes q rq n c I rc L ro W' hmodL.out HN.out.symm hfL.out ((HRP5.out.ext e5X).ext h) HI.out HRL.out HROB.out (rrep.ext h));have B5x := B5w.ext eX;have B7x := B7w.ext eX;have RR := hid rrep;clear hst hrw own1 gr1 hro hrob rrep X0a Y1b Y1a Y2a X0 Y0 Y1 Y2 Z1 Z2 eW;refine (CRr.out wr1 (Ext.refl _)).mono ?_;rintro e wb ⟨aq,ac,aus,rfl,hal,acs,af,hac,hac2,eb⟩
    have HAL := hid hal;have eAl := Ext.alloc wb (.cells #[.int .i64 1,.int .i64 O,.slice aq O ac] 27);have bA := HB.new wb #[.int .i64 1,.int .i64 O,.slice aq O ac] 27;obtain ⟨wc,hwc⟩ : ∃ wc,wc = wb.alloc (.cells #[.int .i64 1,.int .i64 O,.slice aq O ac] 27) := ⟨_,rfl⟩;rw [← hwc] at eAl bA;have ebc := eb.trans eAl;have X0c := (B5x.ext ebc).cell 0 rfl;rw [hwc] at X0c;clear hal;go_wp2_with fail;rw [← hwc] at X0c ⊢;clear hwc;refine (CSr.out wc ebc).mono ?_;rintro e wd ⟨sp,sk,sus',rfl,SF,ed⟩
    have ecd := ebc.trans ed;have X0d := (B5x.ext ecd).cell 0 rfl;have A2d := (bA.ext ed).cell 2 rfl;have Z1d := (B7x.ext ecd).cell 1 rfl;have Z2d := (B7x.ext ecd).cell 2 rfl;have g1 : (r + 1) * O ≤ R * O := Nat.mul_le_mul_right O hlt;have g2 : (r + 1) * O = r * O + O := by rw [Nat.add_mul,Nat.one_mul]
    obtain ⟨ll,hll⟩ : ∃ x,x = r * O := ⟨_,rfl⟩;obtain ⟨hh,hhh⟩ : ∃ x,x = (r + 1) * O := ⟨_,rfl⟩;have hRO3 := HRO.out;have hD : IntKind.i64.wrap ((r : Int) * (O : Int)) = ((ll : Nat) : Int) := by rw [hll,← Int.natCast_mul];exact jat _ (by omega) (by omega)
    have hE : IntKind.i64.wrap (((r : Int) + 1) * (O : Int)) = ((hh : Nat) : Int) := by rw [show (r : Int) + 1 = ((r + 1 : Nat) : Int) by omega,hhh,← Int.natCast_mul];exact jat _ (by omega) (by omega)
    have hlo3 : ll ≤ hh := by omega
    have hhc3 : hh ≤ oc := by omega
    have HIL2 := hid (show hh - ll = O by omega);have eD2 := Ext.drew wd;have ocd := (((ocG.ext hx).ext eX).ext ecd).ext eD2;have hrw2 := row_cs (C := O) (i := r) (cp := oc) ocd (by omega);rw [← hhh,← hll] at hrw2
    have hrf2 : F32s ((ous.take hh).drop ll) (curF L ro n) := by
     have h := hfy.part ll hh;have e1 : ((rowsM L xs I R).take hh).drop ll = rowT (rowsM L xs I R) O r := by unfold rowT;rw [hll,hhh]
     rw [e1,lCountCorrect.rowT_rowsM HM.out HI.out HO.out HX.out hlt,← HRO'.out,← HN.out] at h;exact h
    obtain ⟨zq,zc,zvs,z1,z2,z3,_⟩ := SF.at' (n - 1) (by omega);rw [stF_get L ro (show n - 1 < n by omega),show n - 1 + 1 = n by omega] at z1 z3;rw [HAL.out] at z1;have Hz1 := hid z1;have z2d := z2.ext eD2;have sfd := SF.cs.ext eD2;have SFN := hid SF.cnt;have acd := ((acs.ext eAl).ext ed).ext eD2;have xX0 := eD2.cell X0d;have xA2 := eD2.cell A2d;have xZ1 := eD2.cell Z1d;have xZ2 := eD2.cell Z2d;have hnn := bne_f (rfl : (n : Int) = (n : Int));have HCO := hid (show (curF L ro n).length = O from HAL.out);have wn1 : IntKind.i64.wrap ((n : Int) - 1) = (n : Int) - 1 := jat _ (by omega) (by omega);clear hll hhh g1 g2 hRO3 z1;go_wp2_with fail;refine jab (F := fun _ _ u => u = .bool true) (by kernel_rfl) (by kernel_rfl) (by kernel_rfl) ?_;intro wf hwf
    repeat (first
     | ((first | (refine jal rfl ?_) | (refine x_mv rfl rfl rfl ?_) | (refine x_as rfl rfl rfl ?_) | ((with_reducible show wpX _ _ _ _ _ _ (Oper.mk _ (Op.slice _ _ _ _ _) _ _ _ _ :: _) _);refine x_slice (l := ll) (u := hh) rfl rfl rfl rfl rfl rfl rfl (by omega) (by omega) ?_;rw [HIL2.out]) | ((with_reducible show gx0);refine x_idxload rfl rfl (fun _ => rfl) rfl (fun _ => rfl) rfl rfl sfd SFN.out (by omega) (by omega) ?_;intro u hu;rw [show ((n : Int) - 1).toNat = n - 1 by omega,Hz1.out] at hu;cases hu) | ((with_reducible show gx6);first | (refine jap (f := 36) (args := #[.slice aq O ac,.slice (subp oq 1 ll oc) O (oc - ll)]) rfl rfl Try.func36 rfl (by kernel_rfl) ?_ ?_ ?_;(focus (simp [Act.eval];done));(focus (intro w1 hw1;exact ((b10Same_e aq (subp oq 1 ll oc) O ac (oc - ll) aus _ (curF L ro n) w1 HCO.out (by omega) (acd.ext hw1) af (hrw2.ext hw1) hrf2).mono fun e w3 h => ⟨_,h.1,h.2,rfl⟩)));rintro u w3 e3 e4 hu;subst hu) | (refine jap (f := 36) (args := #[.slice aq O ac,.slice zq O zc]) rfl rfl Try.func36 rfl (by kernel_rfl) ?_ ?_ ?_;(focus (simp [Act.eval];done));(focus (intro w1 hw1;exact ((b10Same_e aq zq O ac zc aus zvs (curF L ro n) w1 HCO.out (by omega) (acd.ext hw1) af (z2d.ext hw1) z3).mono fun e w3 h => ⟨_,h.1,h.2,rfl⟩)));rintro u w3 e3 e4 hu;subst hu)));simp only [Act.put,jad,pu1,pu2,pu3,pu4,pu5])
     | (refine ja2 rfl fun K hK w1 hw1 => ?_;have k0 := hw1.cell (xX0);have k1 := hw1.cell (xA2);have k2 := hw1.cell (xZ1);have k3 := hw1.cell (xZ2);go_simp;refine hK _ ?_;clear hK K k0 k1 k2 k3 hw1 w1))
    refine ja1 ?_;have eXf := (eX.trans ecd).trans (eD2.trans hwf);have B5f := (B5w.ext eXf);have RRf := RR.out.ext (ecd.trans (eD2.trans hwf));have SFf := SF.ext (eD2.trans hwf);clear hrw2 hrf2 z2 z3 z2d sfd acd ocd xX0 xA2 xZ1 xZ2 X0d A2d Z1d Z2d acs af SF;go_wp2;go_loopw [23,24] (fun nv kv wr' => ∃ (k : Nat) (W' : World) (nq : Option Addr) (nl nc : Nat),W' = wr' ∧ k ≤ n ∧ kv = .int .i64 (k : Int) ∧ nv = .slice nq nl nc ∧ Hid ((curF L ro k).length = nl) ∧ Rep wr' (.sl .flt) [.slice nq nl nc] (curF L ro k) ∧ Ext wf wr') (fun _ kv _ => n - (intOf kv).toNat)
    case atStart => exact ⟨0,_,rq,I,rc,rfl,by omega,rfl,rfl,HRL.out,RRf,Ext.refl _⟩
    case round =>
     obtain ⟨k,W',nq,nl,nc,hWe2,hk,rfl,rfl,HNL,NR,hy⟩ := hrel;subst hWe2;have X0k := (B5f.ext hy).cell 0 rfl
     by_cases hkn : k < n
     · have hdk : decide ((k : Int) < (n : Int)) = true := by simp;omega
       have hdk2 : decide (k < n) = true := by simp;omega
       have hkL : k < L.length := by rw [← HN.out];exact hkn
       obtain ⟨ck,hck,rck⟩ := HLY5.out.all.get k L[k] (List.getElem?_eq_getElem hkL);have e5k := ((e5G.trans hx).trans eXf).trans hy;have csk := HLY5.out.cs.ext e5k;obtain ⟨_,_,_,_,hqs⟩ := HLY5.out.at hkn;have hsuc := curF_succ (l := L) ro hkL;have hcl := cur_len HM.out (x := ro) (by rw [HRL.out];exact HI.out) k hkL;rw [HNL.out] at hcl;have CL := hid (fun W2 (h : Ext W' W2) => RunLayer_yes ck L[k] nq nl nc (curF L ro k) W2 (HM.out.lay k hkL) ((rck.ext e5k).ext h) hcl HNL.out (NR.ext h));rw [← hsuc] at CL;obtain ⟨zq,zc,zvs,z1,z2,z3,_⟩ := SFf.at' k hkn;rw [stF_get L ro hkn] at z1 z3;obtain ⟨n2,hn2⟩ : ∃ x,(curF L ro (k + 1)).length = x := ⟨_,rfl⟩;rw [hn2] at z1 CL;have HN2 := hid hn2;have HZ1 := hid z1;have HCK := hid hck;have SFN := hid SFf.cnt;have sfk := SFf.cs.ext hy;have z2k := z2.ext hy
       have hb2 : n2 ≤ 1048576 := by
        have h1 := layF_len (HM.out.lay k hkL) (xs := curF L ro k) (by rw [HNL.out];exact hcl);have h2 := layD_int (HM.out.lay k hkL);rw [← hsuc,hn2] at h1;omega
       clear hn2 z1 hck rck hsuc hcl;go_wp2_with (first | ((with_reducible show gx2);refine ja9 (s := jaa) (j := k) rfl rfl rfl rfl (fun _ => rfl) rfl rfl rfl csk HLY5.out.size HLY5.out.cnt hkn hqs HCK.out ?_) | fail);refine (CL.out W' (Ext.refl _)).mono ?_;rintro e wl ⟨lq,lc,lus,rfl,lcs,lf,lc1,lc2,el⟩
       have sfl := sfk.ext el;go_wp2_with (first | ((with_reducible show gx2);refine lReduceLists.wl_idxloadW (j := k) (by first | rfl | (go_simp;done)) rfl (fun _ => by first | rfl | (go_simp;done)) rfl (fun _ => rfl) rfl rfl rfl sfl SFN.out hkn HZ1.out ?_) | fail);refine (b10Same_e lq zq n2 lc zc lus zvs (curF L ro (k + 1)) wl HN2.out hb2 lcs lf (z2k.ext el) z3).mono ?_;rintro e wm ⟨rfl,em⟩
       go_wp2;go_roundw
       case rel => exact ⟨k + 1,_,lq,n2,lc,rfl,by omega,by go_num,rfl,HN2.out,(ja8.2 ⟨lq,lc,lus,by rw [HN2.out],lcs,lf,by rw [HN2.out];exact lc1,lc2⟩ : Rep wl (.sl .flt) [.slice lq n2 lc] (curF L ro (k + 1))).ext em,(hy.trans el).trans em⟩
       case measure => simp [intOf];omega
     · obtain rfl : n = k := by omega
       go_wp2;go_roundw
       case rel => exact ⟨r + 1,_,rfl,by omega,by go_num,(hx.trans eXf).trans hy⟩
       case measure => simp [intOf];omega
  · obtain rfl : R = r := by omega
    go_wp2;go_ret;exact ⟨rfl,(E5.trans e5G).trans hx⟩
end Go.Proofs.Ytmbckkcgiafagaa.lRowsAlone
namespace Go.Proofs.Ytmbckkcgiafagaa
open Go.RowKit Go.WideShapes Go.Deep Go.ChangeShapes
theorem open_bytes {H : Type} {enc : TypeId × Value → H} {P : Program} {w : World} {base : Nat} {spare : Nat → Bool} {held : Bool} {r : Reach} {b0 : Nat} {t e : TypeId} {v : Value} {d : DataW H} {ps : List MemPlace} (ht : P.underlying t = some (.slice e)) (he : P.underlying e = some (.int .u8)) (hce : P.cellsOf e = 1)
 (hval : Value.okWide P w r b0 t v) (hd : DataW.Trod enc P w base spare held t v d ps) :
 ∃ (p : Option Addr) (n c : Nat) (bs : List Nat),v = .slice p n c ∧ Cs w p (u8s bs) ∧ bs.length = n ∧ ∀ b ∈ bs,b < 256 := by
 obtain ⟨p0,n0,c0,rfl⟩ := okWide_slice ht hval;obtain ⟨fuel,hx⟩ := hd
 cases fuel with
 | zero => simp [DataW.trod] at hx
 | succ k =>
   rcases open_slice ht hx with ⟨hv,_⟩ | ⟨a,ln,cp,m,n',D,Pl,hv,_,hl,hm,hmm,_,hel⟩
   · cases hv
     exact ⟨none,0,0,[],rfl,Cs.nil w none,rfl,fun b hb => by simp at hb⟩
   · have hv : [Value.slice p0 n0 c0] = [.slice (some a) ln cp] := hv
     injection hv with hv _
     injection hv with e1 e2 e3
     subst e1;subst e2;subst e3;have hlm : n0 ≤ m := by rw [hmm];split <;> omega
     obtain ⟨l,hl1,hl2⟩ := choose_list (A := Nat) (R := fun i b => w.cell? (a.add i) = some (.int .u8 (b : Int)) ∧ b < 256) n0 (fun i hi => by
      obtain ⟨cs',h1,h2⟩ := hel i (by omega);obtain ⟨z,rfl,_,hw⟩ := DataW.trod_int he h2;rw [hce,Nat.mul_one] at h1;obtain ⟨_,_,h6⟩ := World.cells?_some h1;have h7 := h6 0 (by omega);rw [Go.Proofs.Ytmbckkcgiafagaa.add_add,Nat.add_zero] at h7;simp only [Lit.wf,Bool.and_eq_true,decide_eq_true_eq] at hw;have hw1 : 0 ≤ z ∧ z ≤ 255 := hw;refine ⟨z.toNat,?_,by omega⟩;rw [h7,Int.toNat_of_nonneg hw1.1];rfl)
     refine ⟨some a,n0,c0,l,rfl,⟨fun i u hu => ?_,fun _ => rfl⟩,hl1,fun b hb => ?_⟩
     · unfold u8s at hu
       rw [List.getElem?_map] at hu
       cases hli : l[i]? with
       | none => rw [hli] at hu;simp at hu
       | some b => rw [hli] at hu;simp at hu;subst hu;exact (hl2 i b hli).1
     · obtain ⟨i,hi,rfl⟩ := List.mem_iff_getElem.1 hb
       exact (hl2 i _ (by simp)).2
end Go.Proofs.Ytmbckkcgiafagaa
