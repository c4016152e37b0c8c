/- A part of the proofs: SameE, FusedLaw, OpenB. -/
import Derived.Test.YtmbckkcgiafagaaZ09FnFuse
import Derived.Test.YtmbckkcgiafagaaZ02FnFuse
import Derived.Test.YtmbckkcgiafagaaZ13FnFuse
import Derived.Test.YtmbckkcgiafagaaZ25FnFuse
import Derived.Test.YtmbckkcgiafagaaZ27FnFuse
import Derived.Test.YtmbckkcgiafagaaZ16FnFuse
import Derived.Test.YtmbckkcgiafagaaZ07FnFuse
import Derived.Test.YtmbckkcgiafagaaZ12FnFuse
set_option linter.unusedSimpArgs false
set_option linter.unusedVariables false
set_option maxRecDepth 100000
set_option maxHeartbeats 16000000
namespace Go.Proofs.Ytmbckkcgiafagaa
open Go.RowKit
theorem widen_lt {a : Nat} (na : (FloatKind.f32.decode a).isNaN = false) : jam .f32 a .f64 < 18446744073709551616 := by
 have ho := jbd a
 have key : jam .f32 a .f64 = Ieee.double.write (Ieee.single.read a) := by
  have hne : ¬ (FloatKind.f32 = FloatKind.f64) := by decide
  unfold fover at ho;rw [na] at ho;simp only [Bool.not_false,Bool.true_and] at ho;unfold jam
  cases h : floatToFloatBits .f32 a .f64 with
  | none => rw [h] at ho;cases ho
  | some r =>
    simp only [floatToFloatBits,hne,if_false] at h
    split at h
    · cases h
    · rename_i hd;cases h;show _ = Ieee.double.write (FloatKind.f32.decode a);rw [hd];rfl
    · rename_i hd
      split at h
      · cases h
      · cases h;show _ = Ieee.double.write (FloatKind.f32.decode a);rw [hd];rfl
 rw [key];exact Ieee.double.write_lt _
theorem same_e (a b : Nat) (w : World) (h : cn .f32 a = cn .f32 b) : Calls Try.prog 14 #[.float .f32 a,.float .f32 b] w fun e w' => e = .returned (.bool true) ∧ w' = w := by
 by_cases hna : (FloatKind.f32.decode a).isNaN = true
 · have h1 : (FloatKind.f32.format.order a a != some .eq) = true := by rw [order_nan hna];rfl
   have hnb : (FloatKind.f32.decode b).isNaN = true := (isNaN_of_cn h).symm.trans hna;have h2 : (FloatKind.f32.format.order b b != some .eq) = true := by rw [order_nan hnb];rfl
   clear h hna hnb;go_enter Try.func14,Try.ntmps14;go_wp2;go_ret;exact ⟨rfl,rfl⟩
 · have hna' : (FloatKind.f32.decode a).isNaN = false := by simpa using hna
   have hnb' : (FloatKind.f32.decode b).isNaN = false := (isNaN_of_cn h).symm.trans hna';rw [jba hna',jba hnb'] at h;subst h;have h1 : (FloatKind.f32.format.order a a != some .eq) = false := by rw [order_self hna'];rfl
   have h4 : (FloatKind.f32.format.order a a == some .eq) = true := by rw [order_self hna'];rfl
   have ca := widen_some hna';have va := fun w => run_convert_float_float w 33 83 .f32 .f64 a _ (by rw [jaq];rfl) jax ca
   have Ha := fun w => Signbit_any (jam .f32 a .f64) w (widen_lt hna')
   generalize jam .f32 a .f64 = x at *;clear hna hna' hnb' ca;generalize decide (9223372036854775808 ≤ x) = p at *;go_enter Try.func14,Try.ntmps14;go_wp2_with fail;refine (Ha _).mono ?_;rintro e w1 ⟨rfl,rfl⟩
   go_wp2_with fail;refine (Ha _).mono ?_;rintro e w1 ⟨rfl,rfl⟩
   go_wp2;go_ret;exact ⟨by simp,rfl⟩
theorem r8Same_e (p q : Option Addr) (n c d : Nat) (us vs : List Value) (xs : List Nat) (w : World) (hx : xs.length = n) (hn : n ≤ 1048576) (hp : Cs w p us) (hf : F32s us xs) (hq : Cs w q vs) (hg : F32s vs xs) :
 Calls Try.prog 15 #[.slice p n c,.slice q n d] w fun e w' => e = .returned (.bool true) ∧ Ext w w' := by
 have HU := hid (hf.1.trans hx);have HV := hid (hg.1.trans hx);have hnn := bne_f (rfl : (n : Int) = (n : Int));go_enter Try.func15,Try.ntmps15;go_wp2;go_loopw [5] (fun iv wr => ∃ i : Nat,i ≤ n ∧ iv = .int .i64 i ∧ Ext w wr) (fun iv _ => n - (intOf iv).toNat)
 case atStart => exact ⟨0,by omega,rfl,Ext.refl _⟩
 case round =>
  obtain ⟨i,hi,rfl,he⟩ := hrel
  by_cases hlt : i < n
  · have hix : i < xs.length := by omega
    obtain ⟨r1,hr1,g1⟩ := hf.get hix;obtain ⟨r2,hr2,g2⟩ := hg.get hix;have C := hid (fun W => same_e r1 r2 W (by rw [g1,g2]));have R1 := hid hr1;have R2 := hid hr2;clear hr1 hr2 g1 g2;have k1 := (hp.ext he).ext (Ext.drew wr);have k2 := (hq.ext he).ext (Ext.drew wr);go_wp2_with fail;refine jab (F := fun _ _ u => u = .bool true) (by kernel_rfl) (by kernel_rfl) (by kernel_rfl) ?_;intro wf hwf
    repeat (first
     | ((first | (refine jar rfl ?_) | (refine x_mv rfl rfl rfl ?_) | (refine x_as rfl rfl rfl ?_) | ((with_reducible show gx0);first | (refine x_idxload rfl rfl (fun _ => rfl) rfl (fun _ => rfl) rfl rfl k1 HU.out (by omega) (by omega) ?_;intro u hu;rw [Int.toNat_natCast,R1.out] at hu;cases hu) | (refine x_idxload rfl rfl (fun _ => rfl) rfl (fun _ => rfl) rfl rfl k2 HV.out (by omega) (by omega) ?_;intro u hu;rw [Int.toNat_natCast,R2.out] at hu;cases hu)) | ((with_reducible show gx6);refine jay (f := 14) (args := #[.float .f32 r1,.float .f32 r2]) rfl rfl Try.func14 rfl (by kernel_rfl) ?_ ?_ ?_;(focus (simp [Act.eval];done));(focus (intro w1 hw1;exact ((C.out w1).mono fun e w3 h => ⟨_,h.1,by rw [h.2];exact Ext.refl _,rfl⟩)));rintro u w3 e3 e4 hu;subst hu));simp only [Act.put,jad,pu1,pu2,pu3,pu4,pu5])
     | (refine ja7 rfl fun K hK w1 hw1 => ?_;go_simp;refine hK _ ?_;clear hK K  hw1 w1))
    refine ja6 ?_;have hW := (he.trans (Ext.drew wr)).trans hwf;go_wp2;go_roundw
    case rel => exact ⟨i + 1,by omega,by go_num,hW⟩
    case measure => simp [intOf];omega
  · obtain rfl : n = i := by omega
    go_wp2;go_ret;exact ⟨rfl,he⟩
theorem specSame_e (a b : Nat) (w : World) (h : cn .f32 a = cn .f32 b) : Calls Try.prog 78 #[.float .f32 a,.float .f32 b] w fun e w' => e = .returned (.bool true) ∧ w' = w := by
 have Ha := l01Bits_any a;have Hb := l01Bits_any b;rw [h] at Ha;generalize bitsOf (cn .f32 b) = y at *;clear h;go_enter Try.func78,Try.ntmps78;go_wp2_with (first | (go_at_call 121;go_in) | fail);refine (Ha _).mono ?_;rintro e w1 ⟨rfl,rfl⟩
 go_wp2_with fail;refine (Hb _).mono ?_;rintro e w1 ⟨rfl,rfl⟩
 go_wp2;go_ret;exact ⟨by simp,rfl⟩
theorem b10Same_e (p q : Option Addr) (n c d : Nat) (us vs : List Value) (xs : List Nat) (w : World) (hx : xs.length = n) (hn : n ≤ 1048576) (hp : Cs w p us) (hf : F32s us xs) (hq : Cs w q vs) (hg : F32s vs xs) :
 Calls Try.prog 36 #[.slice p n c,.slice q n d] w fun e w' => e = .returned (.bool true) ∧ Ext w w' := by
 have HU := hid (hf.1.trans hx);have HV := hid (hg.1.trans hx);have hnn := bne_f (rfl : (n : Int) = (n : Int));go_enter Try.func36,Try.ntmps36;go_wp2;go_loopw [5] (fun iv wr => ∃ i : Nat,i ≤ n ∧ iv = .int .i64 i ∧ Ext w wr) (fun iv _ => n - (intOf iv).toNat)
 case atStart => exact ⟨0,by omega,rfl,Ext.refl _⟩
 case round =>
  obtain ⟨i,hi,rfl,he⟩ := hrel
  by_cases hlt : i < n
  · have hix : i < xs.length := by omega
    obtain ⟨r1,hr1,g1⟩ := hf.get hix;obtain ⟨r2,hr2,g2⟩ := hg.get hix;have C := hid (fun W => specSame_e r1 r2 W (by rw [g1,g2]));have R1 := hid hr1;have R2 := hid hr2;clear hr1 hr2 g1 g2;have k1 := (hp.ext he).ext (Ext.drew wr);have k2 := (hq.ext he).ext (Ext.drew wr);go_wp2_with fail;refine jab (F := fun _ _ u => u = .bool true) (by kernel_rfl) (by kernel_rfl) (by kernel_rfl) ?_;intro wf hwf
    repeat (first
     | ((first | (refine jar rfl ?_) | (refine x_mv rfl rfl rfl ?_) | (refine x_as rfl rfl rfl ?_) | ((with_reducible show gx0);first | (refine x_idxload rfl rfl (fun _ => rfl) rfl (fun _ => rfl) rfl rfl k1 HU.out (by omega) (by omega) ?_;intro u hu;rw [Int.toNat_natCast,R1.out] at hu;cases hu) | (refine x_idxload rfl rfl (fun _ => rfl) rfl (fun _ => rfl) rfl rfl k2 HV.out (by omega) (by omega) ?_;intro u hu;rw [Int.toNat_natCast,R2.out] at hu;cases hu)) | ((with_reducible show gx6);refine jay (f := 78) (args := #[.float .f32 r1,.float .f32 r2]) rfl rfl Try.func78 rfl (by kernel_rfl) ?_ ?_ ?_;(focus (simp [Act.eval];done));(focus (intro w1 hw1;exact ((C.out w1).mono fun e w3 h => ⟨_,h.1,by rw [h.2];exact Ext.refl _,rfl⟩)));rintro u w3 e3 e4 hu;subst hu));simp only [Act.put,jad,pu1,pu2,pu3,pu4,pu5])
     | (refine ja7 rfl fun K hK w1 hw1 => ?_;go_simp;refine hK _ ?_;clear hK K  hw1 w1))
    refine ja6 ?_;have hW := (he.trans (Ext.drew wr)).trans hwf;go_wp2;go_roundw
    case rel => exact ⟨i + 1,by omega,by go_num,hW⟩
    case measure => simp [intOf];omega
  · obtain rfl : n = i := by omega
    go_wp2;go_ret;exact ⟨rfl,he⟩
end Go.Proofs.Ytmbckkcgiafagaa
namespace Go.Proofs.Ytmbckkcgiafagaa.lFused
open Go.RowKit Ex
theorem inL_nat {l : List jaa.T} (hM : ModOk l) : ∃ m : Nat,(m : Int) = inL l 0 ∧ 1 ≤ m ∧ m ≤ 8 := by
 have hp := hM.pos;have h1 := layD_int (hM.lay 0 (by omega));have h2 : inL l 0 = (l[0]'(by omega)).2.1 := by unfold inL;rw [List.getElem?_eq_getElem (show 0 < l.length by omega)];rfl
 exact ⟨(l[0]'(by omega)).2.1.toNat,by rw [h1.1,h2],h1.2.2.2.1,h1.2.2.1⟩
def denL (A C : Nat) (ws bs : List Nat) : jaa.T := (0,(A : Int),(C : Int),ws,bs,())
theorem lay_den (A C : Nat) (ws bs xs : List Nat) : layF (denL A C ws bs) xs = tab C (rO 0 A ws bs xs) := by
 unfold layF runF denL;simp
theorem lay_denlen (A C : Nat) (ws bs xs : List Nat) : (layF (denL A C ws bs) xs).length = C := by rw [lay_den,jbg]
theorem denD {A C : Nat} {ws bs : List Nat} (hA : 1 ≤ A ∧ A ≤ 4) (hC : 1 ≤ C ∧ C ≤ 4) (hw : ws.length = C * A) (hb : bs.length = C) : layD (denL A C ws bs) = true := by
 unfold layD layB denL;dsimp only;rw [jas.2 (show (1 : Int) ≤ A ∧ (A : Int) ≤ 8 by omega),jas.2 (show (1 : Int) ≤ C ∧ (C : Int) ≤ 8 by omega)];simp [inB,wCnt,bCnt,hw,hb,Int.mul_comm]
theorem near_fit (n : Int) : FloatKind.f32.nearest n < 4294967296 := by
 show Ieee.single.write (.number (decide (n < 0)) n.natAbs 0) < _;exact write_lt rfl
theorem map_fit {zs : List Int} : ∀ x ∈ zs.map FloatKind.f32.nearest,x < 4294967296 := by
 intro x hx;obtain ⟨z,_,rfl⟩ := List.mem_map.1 hx;exact near_fit z
theorem fit_nat {n : Nat} (h : n ≤ 100000) : Fit .int (n : Int) := by
 have : -9223372036854775808 ≤ (n : Int) ∧ (n : Int) ≤ 9223372036854775807 := by omega
 exact this
theorem lay_mk {w : World} {A C : Nat} {p q : Option Addr} {n m k l : Nat} {us vs : List Value} {ws bs : List Nat} (hn : ws.length = n) (hm : bs.length = m) (hp : Cs w p us) (hf : F32s us ws) (hk : n ≤ k) (hk2 : k ≤ maxLen) (hq : Cs w q vs) (hg : F32s vs bs) (hl : m ≤ l) (hl2 : l ≤ maxLen) :
 Rep w jaa [.int .i64 0,.int .i64 A,.int .i64 C,.slice p n k,.slice q m l] (denL A C ws bs) := by
 subst hn;subst hm;exact ⟨[.int .i64 0],_,rfl,rfl,[.int .i64 A],_,rfl,rfl,[.int .i64 C],_,rfl,rfl,[.slice p ws.length k],_,rfl,ja5.2 ⟨p,k,us,rfl,hp,hf,hk,hk2⟩,[.slice q bs.length l],[],rfl,ja5.2 ⟨q,l,vs,rfl,hq,hg,hl,hl2⟩,rfl⟩
theorem model_cells {w : World} {cs : List Value} {d : jag.T} (h : Rep w jag cs d) : ∃ p c,cs = [.slice p (d.1 : List jaa.T).length c] := by
 obtain ⟨c1,c2,rfl,h1,rfl⟩ := h;obtain ⟨p,c,rfl,_⟩ := rep_val h1;exact ⟨p,c,rfl⟩
theorem model_rep {w : World} {v : Value} {d : jag.T} (h : Rep w jag [v] d) : Rep w (.sl jaa) [v] d.1 := by
 obtain ⟨c1,c2,e,h1,rfl⟩ := h;rw [List.append_nil] at e;rw [e];exact h1
theorem rows_in32 {L : List jaa.T} {xs : List Nat} {I R : Nat} (h : ∀ x ∈ xs,x < 4294967296) : ∀ x ∈ rowsM L xs I R,x < 4294967296 := by
 intro x hx;unfold rowsM at hx;obtain ⟨l,hl,hxl⟩ := List.mem_flatten.1 hx;obtain ⟨i,_,rfl⟩ := List.mem_map.1 hl;exact lt_cur L (fun x hx => h x (List.mem_of_mem_take (List.mem_of_mem_drop hx))) _ x hxl
theorem law_any (p0 q0 : Option Addr) (n0 c0 m0 d0 : Nat) (bs ms : List Nat) (w : World) (hc0 : Cs w p0 (u8s bs)) (hl0 : bs.length = n0) (hb0 : ∀ b ∈ bs,b < 256) (hd0 : Cs w q0 (u8s ms)) (hm0 : ms.length = m0) (hb1 : ∀ b ∈ ms,b < 256) :
 Calls Try.prog 7 #[.slice p0 n0 c0,.slice q0 m0 d0] w fun e w' => e = .returned (.bool true) ∧ Ext w w' := by
 go_enter Try.func7,Try.ntmps7;go_wp2_with fail;refine (b10Long_any _ _ _ _ _ _ _).mono ?_;rintro e w1 ⟨rfl,rfl⟩
 by_cases hlong : 1048576 < n0 ∨ 1048576 < m0
 · have hd : (decide (1048576 < n0) || decide (1048576 < m0)) = true := by simpa using hlong
   rw [hd];go_wp2;go_ret;exact ⟨rfl,Ext.refl _⟩
 have hn0 : n0 ≤ 1048576 := by omega
 have hmm0 : m0 ≤ 1048576 := by omega
 have hd : (decide (1048576 < n0) || decide (1048576 < m0)) = false := by simp;omega
 rw [hd];clear hd hlong;go_wp2_with fail;refine (b10At_any p0 n0 c0 bs 0 4 _ hc0 hl0 hn0 hb0 (by omega) (by omega)).mono ?_;rintro e w1 ⟨x,rfl,hx,rfl⟩
 have hx := hx (by omega);obtain ⟨A,hA⟩ : ∃ A : Nat,(1 : Int) + (x : Int) = (A : Int) := ⟨1 + x,by omega⟩;have hA1 : 1 ≤ A ∧ A ≤ 4 := by omega
 clear hx;go_wp2_with fail;refine (b10At_any p0 n0 c0 bs 1 4 _ hc0 hl0 hn0 hb0 (by omega) (by omega)).mono ?_;rintro e w1 ⟨y,rfl,hy,rfl⟩
 have hy := hy (by omega);obtain ⟨C,hC⟩ : ∃ C : Nat,(1 : Int) + (y : Int) = (C : Int) := ⟨1 + y,by omega⟩;have hC1 : 1 ≤ C ∧ C ≤ 4 := by omega
 clear hy;go_wp2_with fail;refine (b10At_any p0 n0 c0 bs 2 4 _ hc0 hl0 hn0 hb0 (by omega) (by omega)).mono ?_;rintro e w1 ⟨z,rfl,hz,rfl⟩
 have hz := hz (by omega);obtain ⟨O,hO⟩ : ∃ O : Nat,(1 : Int) + (z : Int) = (O : Int) := ⟨1 + z,by omega⟩;have hO1 : 1 ≤ O ∧ O ≤ 4 := by omega
 clear hz;obtain ⟨NA,hNA⟩ : ∃ N,N = C * A := ⟨_,rfl⟩;obtain ⟨NB,hNB⟩ : ∃ N,N = O * C := ⟨_,rfl⟩;have hNA4 : NA ≤ 4 * 4 := by rw [hNA];exact Nat.mul_le_mul hC1.2 hA1.2
 have hNB4 : NB ≤ 4 * 4 := by rw [hNB];exact Nat.mul_le_mul hO1.2 hC1.2
 have hwA : IntKind.i64.wrap ((A : Int) * (C : Int)) = (NA : Int) := by rw [show (A : Int) * (C : Int) = (NA : Int) by rw [hNA,Int.mul_comm];push_cast;rfl];exact jao _ (by omega) (by omega)
 have hwB : IntKind.i64.wrap ((C : Int) * (O : Int)) = (NB : Int) := by rw [show (C : Int) * (O : Int) = (NB : Int) by rw [hNB,Int.mul_comm];push_cast;rfl];exact jao _ (by omega) (by omega)
 have HNA := hid hNA;have HNB := hid hNB;clear hNA hNB;go_wp2_with fail;refine (B10Whole_any p0 n0 c0 bs NA 8 _ hc0 hl0 hn0 hb0 (by omega) (by omega)).mono ?_;rintro e v1 ⟨za,hza,hzab,aq,ac,aus,rfl,ao,af,e1⟩
 rw [List.length_map,hza] at ao ⊢;go_wp2_with fail;refine (B10Whole_any q0 m0 d0 ms C 8 v1 (hd0.ext e1) hm0 hmm0 hb1 (by omega) (by omega)).mono ?_;rintro e v2 ⟨zb,hzb,hzbb,bq,bc,bus,rfl,bo,bf,e2⟩
 rw [List.length_map,hzb] at bo ⊢;have E2 := e1.trans e2;obtain ⟨v3,hv3⟩ : ∃ v3,v3 = v2.alloc (.cells #[.int .i64 0,.int .i64 A,.int .i64 C,.slice aq NA ac,.slice bq C bc] 41) := ⟨_,rfl⟩;have e3 : Ext v2 v3 := by rw [hv3];exact Ext.alloc _ _
 have b8 : HB v3 v2.heap.size #[.int .i64 0,.int .i64 A,.int .i64 C,.slice aq NA ac,.slice bq C bc] 41 := by rw [hv3];exact HB.new _ _ _
 have E3 := E2.trans e3;go_wp2_with fail;rw [← hv3];clear hv3;refine (B10Whole_any q0 m0 d0 ms NB 8 v3 (hd0.ext E3) hm0 hmm0 hb1 (by omega) (by omega)).mono ?_;rintro e v4 ⟨zc,hzc,hzcb,cq,cc,cus,rfl,co,cf,e4⟩
 rw [List.length_map,hzc] at co ⊢;have E4 := E3.trans e4;go_wp2_with fail;refine (B10Whole_any p0 n0 c0 bs O 8 v4 (hc0.ext E4) hl0 hn0 hb0 (by omega) (by omega)).mono ?_;rintro e v5 ⟨zd,hzd,hzdb,dq,dc,dus,rfl,dow,df,e5⟩
 rw [List.length_map,hzd] at dow ⊢;have E5 := E4.trans e5;obtain ⟨v6,hv6⟩ : ∃ v6,v6 = v5.alloc (.cells #[.int .i64 0,.int .i64 C,.int .i64 O,.slice cq NB cc,.slice dq O dc] 41) := ⟨_,rfl⟩;have e6 : Ext v5 v6 := by rw [hv6];exact Ext.alloc _ _
 have b9 : HB v6 v5.heap.size #[.int .i64 0,.int .i64 C,.int .i64 O,.slice cq NB cc,.slice dq O dc] 41 := by rw [hv6];exact HB.new _ _ _
 have E6 := E5.trans e6;go_wp2_with fail;rw [← hv6];clear hv6;refine (B10Whole_any q0 m0 d0 ms A 8 v6 (hd0.ext E6) hm0 hmm0 hb1 (by omega) (by omega)).mono ?_;rintro e v7 ⟨zx,hzx,hzxb,xq,xc,xus,rfl,xo,xf,e7⟩
 rw [List.length_map,hzx] at xo ⊢;have E7 := E6.trans e7;have la : (za.map FloatKind.f32.nearest).length = NA := by rw [List.length_map,hza]
 have lb : (zb.map FloatKind.f32.nearest).length = C := by rw [List.length_map,hzb]
 have lc : (zc.map FloatKind.f32.nearest).length = NB := by rw [List.length_map,hzc]
 have ld : (zd.map FloatKind.f32.nearest).length = O := by rw [List.length_map,hzd]
 have lx : (zx.map FloatKind.f32.nearest).length = A := by rw [List.length_map,hzx]
 have Za := zl_of (by decide) hzab;have Zb := zl_of (by decide) hzbb;have Zc := zl_of (by decide) hzcb;have Zd := zl_of (by decide) hzdb;have Zx := zl_of (by decide) hzxb;have Fa := map_fit (zs := za);have Fb := map_fit (zs := zb);have Fc := map_fit (zs := zc);have Fd := map_fit (zs := zd);have Fx := map_fit (zs := zx);generalize (fun i => za.getD i 0) = fa at *;generalize (fun i => zb.getD i 0) = fb at *;generalize (fun i => zc.getD i 0) = fc at *;generalize (fun i => zd.getD i 0) = fd at *;generalize (fun i => zx.getD i 0) = fx at *;generalize za.map FloatKind.f32.nearest = wa at *;generalize zb.map FloatKind.f32.nearest = wb at *;generalize zc.map FloatKind.f32.nearest = wc at *;generalize zd.map FloatKind.f32.nearest = wd at *;generalize zx.map FloatKind.f32.nearest = wx at *;clear hza hzb hzc hzd hzx hzab hzbb hzcb hzdb hzxb;have aC := (jbc ao).ext ((((e2.trans e3).trans e4).trans (e5.trans e6)).trans e7);have bC := (jbc bo).ext (((e3.trans e4).trans (e5.trans e6)).trans e7);have cC := (jbc co).ext ((e5.trans e6).trans e7);have dC := (jbc dow).ext (e6.trans e7);have xC := jbc xo;have ka := jat ao;have kb := jat bo;have kc := jat co;have kd := jat dow;have kx := jat xo;have RA := lay_mk (A := A) (C := C) la lb aC af ka.1 ka.2 bC bf kb.1 kb.2;have RB := lay_mk (A := C) (C := O) lc ld cC cf kc.1 kc.2 dC df kd.1 kd.2;have RX : Rep v7 (.sl .flt) [.slice xq A xc] wx := rep_fl lx xo xf;have DA := denD (ws := wa) (bs := wb) hA1 hC1 (la.trans HNA.out) lb;have DB := denD (ws := wc) (bs := wd) hC1 hO1 (lc.trans HNB.out) ld;have FU := hid (fun W (h : Ext v7 W) => FuseLinear_whole A C O aq bq cq dq ac bc cc dc aus bus cus dus wa wb wc wd fa fb fc fd W hA1 hC1 hO1 (aC.ext h) af (la.trans HNA.out) (by rw [← HNA.out];exact ka.1) Za (bC.ext h) bf lb Zb (cC.ext h) cf (lc.trans HNB.out) (by rw [← HNB.out];exact kc.1) Zc (dC.ext h) df ld Zd);rw [← HNA.out,← HNB.out] at FU;have HFE := hid (fun (wf bf : List Nat) (hw : ZF wf (O * A) (fun j => SZ (fun t => fc (j / A * C + t) * fa (t * A + j % A)) C)) (hb : ZF bf O (fun o => SZ (fun t => fc (o * C + t) * fb t) C + fd o)) => fused_eq hA1.2 hC1.2 (la.trans HNA.out) Za lb Zb (lc.trans HNB.out) Zc ld Zd lx Zx hw hb);have WA := hid (fun W (h : Ext v7 W) => lIsWhole.impl_ok _ _ 8 W (RA.ext h) ⟨fit_nat (n := 0) (by omega),fit_nat (by omega),fit_nat (by omega),Fa,Fb,trivial⟩ (fit_nat (n := 8) (by omega)));have WB := hid (fun W (h : Ext v7 W) => lIsWhole.impl_ok _ _ 8 W (RB.ext h) ⟨fit_nat (n := 0) (by omega),fit_nat (by omega),fit_nat (by omega),Fc,Fd,trivial⟩ (fit_nat (n := 8) (by omega)));rw [whole_res DA Za Zb] at WA;rw [whole_res DB Zc Zd] at WB;have LA := hid (fun W (h : Ext v7 W) => RunLayer_yes _ _ xq A xc wx W DA (RA.ext h) rfl lx (RX.ext h));have LB := hid (fun (tq : Option Addr) (tc : Nat) (ys : List Nat) W (h : Ext v7 W) (hy : ys.length = C) (hr : Rep W (.sl .flt) [.slice tq C tc] ys) => RunLayer_yes _ _ tq C tc ys W DB (RB.ext h) rfl hy hr);have HLX := hid lx;simp only [ofCs,Sh.agg,if_true] at WA WB LA LB;rw [lay_denlen] at LA;have B8 := b8.ext (((e4.trans e5).trans e6).trans e7);have B9 := b9.ext e7;have x0 := B8.cell 0 rfl;have x1 := B8.cell 1 rfl;have x2 := B8.cell 2 rfl;have x3 := B8.cell 3 rfl;have x4 := B8.cell 4 rfl;have y0 := B9.cell 0 rfl;have y1 := B9.cell 1 rfl;have y2 := B9.cell 2 rfl;have y3 := B9.cell 3 rfl;have y4 := B9.cell 4 rfl;clear ao bo co dow xo RA RB aC bC cC dC la lb lc ld Za Zb Zc Zd Zx Fa Fb Fc Fd DA DB lx b8 b9;go_wp2_with fail;refine (FU.out v7 (Ext.refl _)).mono ?_;rintro e v8 ⟨fq,fq2,fk,fk2,fus,fvs,wf,bfl,rfl,fo,ff,fz,fo2,ff2,fz2,e8⟩
 have e9 := Ext.alloc v8 (.cells #[.int .i64 0,.int .i64 A,.int .i64 O,.slice fq (O * A) fk,.slice fq2 O fk2] 41);have b11 := HB.new v8 #[.int .i64 0,.int .i64 A,.int .i64 O,.slice fq (O * A) fk,.slice fq2 O fk2] 41;have DF := denD (A := A) (C := O) (ws := wf) (bs := bfl) hA1 hO1 fz.1 fz2.1;have RF := lay_mk (A := A) (C := O) fz.1 fz2.1 ((jbc fo).ext e9) ff (jat fo).1 (jat fo).2 ((jbc fo2).ext e9) ff2 (jat fo2).1 (jat fo2).2;have HFZ := hid (HFE.out wf bfl fz fz2);have B8 := B8.ext (e8.trans e9);have B9 := B9.ext (e8.trans e9);obtain ⟨v9,hv9⟩ : ∃ v9,v9 = v8.alloc (.cells #[.int .i64 0,.int .i64 A,.int .i64 O,.slice fq (O * A) fk,.slice fq2 O fk2] 41) := ⟨_,rfl⟩;rw [← hv9] at e9 b11 RF B8 B9;have LF := hid (fun W (h : Ext v9 W) => RunLayer_yes _ _ xq A xc wx W DF (RF.ext h) rfl HLX.out (RX.ext ((e8.trans e9).trans h)));simp only [ofCs,Sh.agg,if_true] at LF;rw [lay_denlen] at LF;clear x0 x1 x2 x3 x4 y0 y1 y2 y3 y4 fo fo2 ff ff2 fz fz2 DF RF HFE RX;have x0 := B8.cell 0 rfl;have x1 := B8.cell 1 rfl;have x2 := B8.cell 2 rfl;have x3 := B8.cell 3 rfl;have x4 := B8.cell 4 rfl;have y0 := B9.cell 0 rfl;have y1 := B9.cell 1 rfl;have y2 := B9.cell 2 rfl;have y3 := B9.cell 3 rfl;have y4 := B9.cell 4 rfl;have E79 := e8.trans e9;rw [hv9] at x0 x1 x2 x3 x4 y0 y1 y2 y3 y4;go_wp2_with fail;rw [← hv9];clear hv9 x0 x1 x2 x3 x4 y0 y1 y2 y3 y4;refine (LA.out v9 E79).mono ?_;rintro e vA ⟨p1,k1,us1,rfl,cs1,f1,g1,g1',eA⟩
 have B9A := B9.ext eA;have y0 := B9A.cell 0 rfl;have y1 := B9A.cell 1 rfl;have y2 := B9A.cell 2 rfl;have y3 := B9A.cell 3 rfl;have y4 := B9A.cell 4 rfl;have ll1 := lay_denlen A C wa wb wx;have LBA := LB.out p1 k1 _ vA (E79.trans eA) ll1 (ja5.2 ⟨p1,k1,us1,by rw [ll1],cs1,f1,by rw [ll1];exact g1,g1'⟩);rw [lay_denlen] at LBA;have HLBA := hid LBA;clear LBA ll1;go_wp2_with fail;refine HLBA.out.mono ?_;rintro e vB ⟨p2,k2,us2,rfl,cs2,f2,g2,g2',eB⟩
 have b11B := b11.ext (eA.trans eB);clear y0 y1 y2 y3 y4;have z0 := b11B.cell 0 rfl;have z1 := b11B.cell 1 rfl;have z2 := b11B.cell 2 rfl;have z3 := b11B.cell 3 rfl;have z4 := b11B.cell 4 rfl;go_wp2_with fail;refine (LF.out vB (eA.trans eB)).mono ?_;rintro e vC ⟨p3,k3,us3,rfl,cs3,f3,g3,g3',eC⟩
 clear z0 z1 z2 z3 z4;have B8C := B8.ext ((eA.trans eB).trans eC);have x0 := B8C.cell 0 rfl;have x1 := B8C.cell 1 rfl;have x2 := B8C.cell 2 rfl;have x3 := B8C.cell 3 rfl;have x4 := B8C.cell 4 rfl;have hOO : ((O : Int) != (O : Int)) = false := bne_f rfl;rw [lay_den,lay_den] at f2;rw [lay_den] at f3;obtain ⟨zl,hzl⟩ : ∃ l,l = tab O (rO 0 C wc wd (tab C (rO 0 A wa wb wx))) := ⟨_,rfl⟩;obtain ⟨wl,hwl⟩ : ∃ l,l = tab O (rO 0 A wf bfl wx) := ⟨_,rfl⟩;rw [← hzl] at f2;rw [← hwl] at f3;have HZE : Hid (∀ o,o < O → ∃ z : Int,IZ .f32 (zl.getD o 0) z ∧ IZ .f32 (wl.getD o 0) z) := by rw [hzl,hwl];exact HFZ.out
 have HZL := hid (show zl.length = O by rw [hzl,jbg]);have HWL := hid (show wl.length = O by rw [hwl,jbg]);have HF2 := hid f2;have HF3 := hid f3;clear hzl hwl f1 f2 f3 HFZ;have E7C := ((E79.trans eA).trans eB).trans eC;go_wp2_with fail;refine (WA.out vC E7C).mono ?_;rintro e vD ⟨rfl,eD⟩
 clear x0 x1 x2 x3 x4;have B9D := B9.ext (((eA.trans eB).trans eC).trans eD);have y0 := B9D.cell 0 rfl;have y1 := B9D.cell 1 rfl;have y2 := B9D.cell 2 rfl;have y3 := B9D.cell 3 rfl;have y4 := B9D.cell 4 rfl;go_wp2_with fail;refine (WB.out vD (E7C.trans eD)).mono ?_;rintro e vE ⟨rfl,eE⟩
 clear y0 y1 y2 y3 y4;have c2E := cs2.ext ((eC.trans eD).trans eE);have c3E := cs3.ext (eD.trans eE);have E0E := E7.trans ((E7C.trans eD).trans eE);clear WA WB LA LB LF FU B8 B9 B8C B9A B9D b11 b11B;go_wp2_with fail;go_loopw [19] (fun iv wr => ∃ i : Nat,i ≤ O ∧ iv = .int .i64 (i : Int) ∧ Ext vE wr) (fun iv _ => O - (intOf iv).toNat)
 case atStart => exact ⟨0,by omega,rfl,Ext.refl _⟩
 case round =>
  obtain ⟨i,hi,rfl,he⟩ := hrel
  by_cases hlt : i < O
  · have hdl : decide ((i : Int) < (O : Int)) = true := by simp;omega
    obtain ⟨zz,hz1,hz2⟩ := HZE.out i hlt;go_wp2_with fail;have eD2 := Ext.drew wr;have d2 := (c2E.ext he).ext eD2;have d3 := (c3E.ext he).ext eD2;refine jab (F := fun _ _ _ => False) (by kernel_rfl) (by kernel_rfl) (by kernel_rfl) ?_;intro wf hwf
    repeat (first
     | ((first | (refine jar rfl ?_) | (refine x_mv rfl rfl rfl ?_) | (refine x_as rfl rfl rfl ?_) | ((with_reducible show gx0);first | (refine x_ldF rfl rfl (fun _ => rfl) rfl (fun _ => rfl) rfl rfl d2 HF2.out HZL.out (by omega) (by omega) ?_;intro r1 gg;have G1 := hid gg;clear gg) | (refine x_ldF rfl rfl (fun _ => rfl) rfl (fun _ => rfl) rfl rfl d3 HF3.out HWL.out (by omega) (by omega) ?_;intro r2 gg;have hne := iz_ne (iz_of_cn (show IZ .f32 (cn .f32 r1) zz by rw [G1.out,Int.toNat_natCast];exact hz1)) (iz_of_cn (show IZ .f32 (cn .f32 r2) zz by rw [gg,Int.toNat_natCast];exact hz2));clear gg)));simp only [Act.put,jad,pu1,pu2,pu3,pu4,pu5])
     | (refine ja7 rfl fun K hK w1 hw1 => ?_;go_simp;refine hK _ ?_;clear hK K  hw1 w1))
    refine ja6 ?_;go_wp2_with fail;go_roundw
    case rel => exact ⟨i + 1,by omega,by go_num,(he.trans eD2).trans hwf⟩
    case measure => simp [intOf];omega
  · have hiO : i = O := by omega
    subst hiO;have hdl : decide ((i : Int) < (i : Int)) = false := by simp
    have E0 := E0E.trans he;clear c2E c3E HF2 HF3 HZE HZL HWL hOO hwA hwB hNA4 hNB4;go_wp2_with fail;refine (B10Model_any p0 n0 c0 bs _ (hc0.ext E0) hl0 hn0 hb0).mono ?_;rintro e u1 ⟨L,q,c,rfl,hmod,hfit,ho,f1⟩
    have hM := modOk hmod;obtain ⟨OL,hOL,hOL1,hOL8⟩ := outL_nat hM;obtain ⟨I,hI,hI1,hI8⟩ := inL_nat hM;obtain ⟨obs,ow,_⟩ := ho;obtain ⟨p',c',css,hv,LY⟩ := lays_of ow.rep hfit
    cases hv
    have hL1 := hM.pos;have hL6 := hM.few;obtain ⟨n,hn⟩ : ∃ n,n = L.length := ⟨_,rfl⟩;have b20 := HB.new u1 #[.slice q L.length c] 38;have f2 := Ext.alloc u1 (.cells #[.slice q L.length c] 38);have HRP := hid (ow.rep.ext f2);have hLY := LY.ext f2;rw [← hn] at b20 f2 HRP hLY hL1 hL6 ⊢;obtain ⟨u2,hu2⟩ : ∃ u2,u2 = u1.alloc (.cells #[.slice q n c] 38) := ⟨_,rfl⟩;rw [← hu2] at b20 f2 HRP hLY;obtain ⟨di,j1,j2,_,hqs⟩ := hLY.at (i := 0) (by omega);rw [← hI] at j2;have l1 := hLY.cs;have l3 := hLY.size;have l5 := hLY.cnt;have J1 := hid j1;have J2 := hid j2;have L5 := hid l5;have HN := hid hn;have hfL := hid hfit;have HM := hid hM;have hmodL := hid hmod;have HI := hid hI;have HOL := hid hOL;have E20 := E0.trans (f1.trans f2);have r20 := b20.cell 0 rfl;have SP := hid (fun (a : Nat) (ha : a ≤ 100) W (h : Ext u2 W) => lSplitModel.impl_ok [.slice q n c] (L,()) (a : Int) W ⟨[.slice q n c],[],rfl,HRP.out.ext h,rfl⟩ ⟨hfit,trivial⟩ (fit_nat (by omega)));clear j1 j2 l5 hn hfit hM hmod hI hOL ow LY hLY;rw [hu2] at r20
    by_cases hsm : n < 2
    · have hdn : decide ((n : Int) < 2) = true := by simp;omega
      have hdn2 : decide (n < 2) = true := by simp;omega
      have hrs : lSplitModel.res (L,()) ((1 : Nat) : Int) = (([],()),([],()),false) := by
       unfold lSplitModel.res;refine if_neg ?_;rintro ⟨_,h⟩
       rw [jas] at h;have h3 : (L.length : Int) = n := by rw [HN.out]
       dsimp only at h;omega
      have SP1 := hid (SP.out 1 (by omega) u2 (Ext.refl _));rw [hrs] at SP1;simp only [ofCs,Sh.agg,if_true] at SP1;clear hrs;go_wp2_with fail;rw [← hu2];clear hu2;refine SP1.out.mono ?_;rintro e u3 ⟨k1',kb1,k2',kb2,rfl,o1,o2,_,_,f3⟩
      obtain ⟨mp,mc,rfl⟩ := model_cells o1.rep;obtain ⟨mp2,mc2,rfl⟩ := model_cells o2.rep;simp only [List.length_nil];obtain ⟨uA,huA⟩ : ∃ uA,uA = (u3.alloc (.cells #[.slice none 0 0] 38)).alloc (.cells #[.slice none 0 0] 38) := ⟨_,rfl⟩;obtain ⟨fA,szA,hbA,hbB⟩ := box2 huA;have hbA : HB uA u3.heap.size #[.slice none 0 0] 38 := hbA;have hbB : HB uA (u3.heap.size + 1) #[.slice none 0 0] 38 := hbB;subst huA
      go_wp2_with (first
       | ((with_reducible show gx11);refine wl_stHBs (s := jag) (cs := [.slice mp 0 mc]) (Z' := #[.slice mp 0 mc]) rfl rfl rfl rfl hbA rfl (by simp [Value.oneCell']) (by decide) rfl ?_;intro uB B1 ch1;have B2 := hbB.chg ch1 (fun h => by have h : u3.heap.size + 1 = u3.heap.size := h;omega))
       | ((with_reducible show gx11);refine wl_stHBs (s := jag) (cs := [.slice mp2 0 mc2]) (Z' := #[.slice mp2 0 mc2]) rfl rfl rfl rfl B2 rfl (by simp [Value.oneCell']) (by decide) rfl ?_;intro uC B2' ch2;have B1' := B1.chg ch2 (fun h => by have h : u3.heap.size = u3.heap.size + 1 := h;omega);have q1 := B1'.cell 0 rfl;have q2 := B2'.cell 0 rfl)
       | fail)
      go_ret;exact ⟨by simp,(E20.trans f3).trans ((fA.chg ch1 (fun b hb => by have hb : b = u3.heap.size := hb;omega)).chg ch2 (fun b hb => by have hb : b = u3.heap.size + 1 := hb;omega))⟩
    have hdn : decide ((n : Int) < 2) = false := by simp;omega
    have hdn2 : decide (n < 2) = false := by simp;omega
    have hw1 : IntKind.i64.wrap ((n : Int) - 1) = ((n - 1 : Nat) : Int) := by rw [show (n : Int) - 1 = ((n - 1 : Nat) : Int) by omega];exact jao _ (by omega) (by omega)
    go_wp2_with fail;rw [← hu2];rw [← hu2] at r20;clear hu2;refine (b10At_any q0 m0 d0 ms 0 (n - 1) u2 (hd0.ext E20) hm0 hmm0 hb1 (by omega) (by omega)).mono ?_;rintro e u3 ⟨y2,rfl,hy2,rfl⟩
    have hy2 := hy2 (by omega);obtain ⟨a,ha⟩ : ∃ a : Nat,(1 : Int) + (y2 : Int) = (a : Int) := ⟨1 + y2,by omega⟩;have ha1 : 1 ≤ a ∧ a < n := by omega
    clear hy2 hw1;obtain ⟨s1,s2,s3,s4,s5⟩ := split_facts HM.out ha1.1 (by rw [← HN.out];exact ha1.2)
    have hrs : lSplitModel.res (L,()) (a : Int) = ((L.take a,()),(L.drop a,()),true) := by
     unfold lSplitModel.res;rw [if_pos (show lSplitModel.okS (L,()) (a : Int) from ⟨hmodL.out,jas.2 (by dsimp only;rw [← HN.out];omega)⟩),Int.toNat_natCast]
    have SP1 := hid (SP.out a (by omega) u2 (Ext.refl _));rw [hrs] at SP1;simp only [ofCs,Sh.agg,if_true] at SP1;clear hrs SP;go_wp2_with fail;refine SP1.out.mono ?_;rintro e u4 ⟨k1',kb1,k2',kb2,rfl,o1,o2,_,_,f4⟩
    obtain ⟨mp,mc,rfl⟩ := model_cells o1.rep;obtain ⟨mp2,mc2,rfl⟩ := model_cells o2.rep;have la : (L.take a).length = a := by rw [List.length_take,← HN.out];omega
    have lb : (L.drop a).length = n - a := by rw [List.length_drop,← HN.out]
    obtain ⟨b,hb⟩ : ∃ b,b = n - a := ⟨_,rfl⟩;rw [← hb] at lb;have R1 := model_rep o1.rep;have R2 := model_rep o2.rep;dsimp only at R1 R2 ⊢;rw [la] at R1 ⊢;rw [lb] at R2 ⊢;have fit1 : Fit (.sl jaa) (L.take a) := fun d hd => hfL.out d (List.mem_of_mem_take hd)
    have fit2 : Fit (.sl jaa) (L.drop a) := fun d hd => hfL.out d (List.mem_of_mem_drop hd)
    have r20 := f4.cell r20;obtain ⟨uA,huA⟩ : ∃ uA,uA = (u4.alloc (.cells #[.slice none 0 0] 38)).alloc (.cells #[.slice none 0 0] 38) := ⟨_,rfl⟩;obtain ⟨fA,szA,hbA,hbB⟩ := box2 huA;have hbA : HB uA u4.heap.size #[.slice none 0 0] 38 := hbA;have hbB : HB uA (u4.heap.size + 1) #[.slice none 0 0] 38 := hbB;have JO := hid (fun W (h : Ext u4 W) => lJoinModels.impl_ok [.slice mp a mc] (L.take a,()) [.slice mp2 b mc2] (L.drop a,()) W ⟨[.slice mp a mc],[],rfl,R1.ext h,rfl⟩ ⟨[.slice mp2 b mc2],[],rfl,R2.ext h,rfl⟩ ⟨fit1,trivial⟩ ⟨fit2,trivial⟩ (by have := lJoinModels.tot_small (small_of (modOk s1));show tot (.sl jaa) (L.take a) + 0 ≤ _;omega) (by have := lJoinModels.tot_small (small_of (modOk s2));show tot (.sl jaa) (L.drop a) + 0 ≤ _;omega))
    rw [show lJoinModels.res (L.take a,()) (L.drop a,()) = ((L,()),true) by
     unfold lJoinModels.res lJoinModels.ok;dsimp only;rw [List.take_append_drop,s1,s2,hmodL.out];rfl] at JO
    simp only [ofCs,Sh.agg,if_true] at JO;have Hb := hid hb;clear hb;subst huA
    go_wp2_with (first
     | ((with_reducible show gx11);refine wl_stHBs (s := jag) (cs := [.slice mp a mc]) (Z' := #[.slice mp a mc]) rfl rfl rfl rfl hbA rfl (by simp [Value.oneCell']) (by decide) rfl ?_;intro uB B1 ch1;have B2 := hbB.chg ch1 (fun h => by have h : u4.heap.size + 1 = u4.heap.size := h;omega))
     | ((with_reducible show gx11);refine wl_stHBs (s := jag) (cs := [.slice mp2 b mc2]) (Z' := #[.slice mp2 b mc2]) rfl rfl rfl rfl B2 rfl (by simp [Value.oneCell']) (by decide) rfl ?_;intro uC B2' ch2;have B1' := B1.chg ch2 (fun h => by have h : u4.heap.size = u4.heap.size + 1 := h;omega);have q1 := B1'.cell 0 rfl;have q2 := B2'.cell 0 rfl)
     | fail)
    have f5 : Ext u4 uC := (fA.chg ch1 (fun b hb => by have hb : b = u4.heap.size := hb;omega)).chg ch2 (fun b hb => by have hb : b = u4.heap.size + 1 := hb;omega);refine (JO.out uC f5).mono ?_;rintro e u6 ⟨k3',kb3,rfl,o3,_,_,_,f6⟩
    obtain ⟨mp3,mc3,rfl⟩ := model_cells o3.rep;have R3 := model_rep o3.rep;dsimp only at R3 ⊢;rw [← HN.out] at R3 ⊢;simp only [ofCs,Sh.agg,if_true];have r20 := (f5.trans f6).cell r20;have b28 := HB.new u6 #[.slice mp3 n mc3] 38;have f7 := Ext.alloc u6 (.cells #[.slice mp3 n mc3] 38);obtain ⟨u7,hu7⟩ : ∃ u7,u7 = u6.alloc (.cells #[.slice mp3 n mc3] 38) := ⟨_,rfl⟩;rw [← hu7] at b28 f7;have f27 := ((f4.trans f5).trans f6).trans f7;have r20 := f7.cell r20;have l1 := l1.ext f27;rw [hu7] at r20 l1;go_wp2_with (first | ((with_reducible show gx14);refine wl_ldField (f := 1) (off := 1) (j := 0) rfl rfl rfl rfl rfl rfl (fun _ => rfl) (fun _ _ => rfl) jbn rfl rfl rfl l1 l3 L5.out (by omega) hqs J1.out J2.out ?_) | fail);rw [← hu7];clear hu7 r20 l1 q1 q2;refine (B10Rows_any q0 m0 d0 ms I u7 (hd0.ext (E20.trans f27)) hm0 hmm0 hb1 (by omega)).mono ?_;rintro e u8 ⟨R,hR1,hR5,xs,tq,tc,us,rfl,hxl,hxb,ot,hfx,f8⟩
    obtain ⟨O1,hO1',hO11,hO18⟩ := outL_nat (modOk s1);have HO1 := hid hO1';clear hO1';have hRI : R * I ≤ 5 * 8 := Nat.mul_le_mul hR5 hI8;have hRO : R * OL ≤ 5 * 8 := Nat.mul_le_mul hR5 hOL8;have hRO1 : R * O1 ≤ 5 * 8 := Nat.mul_le_mul hR5 hO18;have f9 := Ext.alloc u8 (.cells #[.int .i64 R,.int .i64 I,.slice tq (R * I) tc] 27);have B30 := HB.new u8 #[.int .i64 R,.int .i64 I,.slice tq (R * I) tc] 27;obtain ⟨u9,hu9⟩ : ∃ u9,u9 = u8.alloc (.cells #[.int .i64 R,.int .i64 I,.slice tq (R * I) tc] 27) := ⟨_,rfl⟩;rw [← hu9] at f9 B30;have RX := hid ((rep_fl hxl ot hfx).ext f9);have HX := hid hxl;have HXB := hid hxb;have f79 := f8.trans f9;have B20 := b20.ext (f27.trans f79);have B25 := B1'.ext ((f6.trans f7).trans f79);have B26 := B2'.ext ((f6.trans f7).trans f79);have B28 := b28.ext f79;have f29 := f27.trans f79;have CR0 := hid (fun W (h : Ext u9 W) => RunModel_yes q tq n c R I OL tc L xs W hmodL.out HN.out.symm hfL.out ((HRP.out.ext f29).ext h) HI.out HOL.out (by omega) (by omega) HX.out HXB.out (RX.out.ext h));have CR1 := hid (fun W (h : Ext u9 W) => RunModel_yes mp tq a mc R I O1 tc (L.take a) xs W s1 la fit1 ((R1.ext (((f5.trans f6).trans f7).trans f79)).ext h) (HI.out.trans s3.symm) HO1.out (by omega) (by omega) HX.out HXB.out (RX.out.ext h));have CR2 := hid (fun W (h : Ext u9 W) (hq : Option Addr) (hc : Nat) (hl : (rowsM (L.take a) xs I R).length = R * O1) (hr : Rep W (.sl .flt) [.slice hq (R * O1) hc] (rowsM (L.take a) xs I R)) => RunModel_yes mp2 hq b mc2 R O1 OL hc (L.drop a) (rowsM (L.take a) xs I R) W s2 lb fit2 ((R2.ext (((f5.trans f6).trans f7).trans f79)).ext h) (HO1.out.trans s4.symm) (HOL.out.trans s5.symm) (by omega) (by omega) hl (rows_in32 HXB.out) hr);rw [rowsM_split HM.out ha1.1 (by rw [← HN.out];exact ha1.2) HI.out HO1.out HX.out] at CR2;have CR3 := hid (fun W (h : Ext u9 W) => RunModel_yes mp3 tq n mc3 R I OL tc L xs W hmodL.out HN.out.symm hfL.out ((R3.ext (f7.trans f79)).ext h) HI.out HOL.out (by omega) (by omega) HX.out HXB.out (RX.out.ext h));obtain ⟨ML,hML⟩ : ∃ M,M = rowsM L xs I R := ⟨_,rfl⟩;obtain ⟨M1,hM1⟩ : ∃ M,M = rowsM (L.take a) xs I R := ⟨_,rfl⟩;rw [← hML] at CR0 CR2 CR3;rw [← hM1] at CR1 CR2;have E29 := (E20.trans f27).trans f79;clear hxl hxb ot hfx hML hM1 R1 R2 R3 s1 s2 s3 s4 s5 fit1 fit2 la lb o1 o2 o3 hbA hbB B1 B2 b20 b28 J1 J2 L5 l3 SP1 JO;have x0 := B20.cell 0 rfl;have y0 := B30.cell 0 rfl;have y1 := B30.cell 1 rfl;have y2' := B30.cell 2 rfl;rw [hu9] at x0 y0 y1 y2';go_wp2_with fail;rw [← hu9];clear hu9 x0 y0 y1 y2';refine (CR0.out u9 (Ext.refl _)).mono ?_;rintro e v1 ⟨oq,oc,ous,rfl,ol,ocs,of,ok,okm,g1⟩
    have h1 := Ext.alloc v1 (.cells #[.int .i64 R,.int .i64 OL,.slice oq (R * OL) oc] 27);have B31 := HB.new v1 #[.int .i64 R,.int .i64 OL,.slice oq (R * OL) oc] 27;obtain ⟨x1,hx1⟩ : ∃ x,x = v1.alloc (.cells #[.int .i64 R,.int .i64 OL,.slice oq (R * OL) oc] 27) := ⟨_,rfl⟩;rw [← hx1] at h1 B31;have G1 := g1.trans h1;have j0 := (B25.ext G1).cell 0 rfl;have j1 := (B30.ext G1).cell 0 rfl;have j2 := (B30.ext G1).cell 1 rfl;have j3 := (B30.ext G1).cell 2 rfl;rw [hx1] at j0 j1 j2 j3;go_wp2_with fail;rw [← hx1];clear hx1 j0 j1 j2 j3;refine (CR1.out x1 G1).mono ?_;rintro e v2 ⟨hq,hc,hus,rfl,hl,hcs,hf,hk,hkm,g2⟩
    have h2 := Ext.alloc v2 (.cells #[.int .i64 R,.int .i64 O1,.slice hq (R * O1) hc] 27);have B32 := HB.new v2 #[.int .i64 R,.int .i64 O1,.slice hq (R * O1) hc] 27;obtain ⟨x2,hx2⟩ : ∃ x,x = v2.alloc (.cells #[.int .i64 R,.int .i64 O1,.slice hq (R * O1) hc] 27) := ⟨_,rfl⟩;rw [← hx2] at h2 B32;have G2 := (G1.trans g2).trans h2;have rh := ja5.2 ⟨hq,hc,hus,by rw [hl],hcs.ext h2,hf,by rw [hl];exact hk,hkm⟩;have j0 := (B26.ext G2).cell 0 rfl;have lt26 := (B26.ext (G1.trans g2)).lt;have j5 := (B26.ext (G1.trans g2)).cell 0 rfl;have j1 := B32.cell 0 rfl;have j2 := B32.cell 1 rfl;have j3 := B32.cell 2 rfl;rw [hx2] at j0 j1 j2 j3;go_wp2_with fail;rw [← hx2];clear hx2 j0 j1 j2 j3;refine (CR2.out x2 G2 hq hc hl rh).mono ?_;rintro e v3 ⟨wq,wc,wus,rfl,wl0,wcs,wf0,wk,wkm,g3⟩
    have h3 := Ext.alloc v3 (.cells #[.int .i64 R,.int .i64 OL,.slice wq (R * OL) wc] 27);have B33 := HB.new v3 #[.int .i64 R,.int .i64 OL,.slice wq (R * OL) wc] 27;obtain ⟨x3,hx3⟩ : ∃ x,x = v3.alloc (.cells #[.int .i64 R,.int .i64 OL,.slice wq (R * OL) wc] 27) := ⟨_,rfl⟩;rw [← hx3] at h3 B33;have G3 := (G2.trans g3).trans h3;have j0 := (B28.ext G3).cell 0 rfl;have j1 := (B30.ext G3).cell 0 rfl;have j2 := (B30.ext G3).cell 1 rfl;have j3 := (B30.ext G3).cell 2 rfl;rw [hx3] at j0 j1 j2 j3;go_wp2_with fail;rw [← hx3];clear hx3 j0 j1 j2 j3;refine (CR3.out x3 G3).mono ?_;rintro e v4 ⟨nq,nc,nus,rfl,nl,ncs,nf,nk,nkm,g4⟩
    have h4 := Ext.alloc v4 (.cells #[.int .i64 R,.int .i64 OL,.slice nq (R * OL) nc] 27);have B34 := HB.new v4 #[.int .i64 R,.int .i64 OL,.slice nq (R * OL) nc] 27;obtain ⟨x4,hx4⟩ : ∃ x,x = v4.alloc (.cells #[.int .i64 R,.int .i64 OL,.slice nq (R * OL) nc] 27) := ⟨_,rfl⟩;rw [← hx4] at h4 B34;have G4 := (G3.trans g4).trans h4;have k31 := (B31.ext ((((g2.trans h2).trans g3).trans h3).trans (g4.trans h4))).cell 2 rfl;have k35 := (B33.ext (g4.trans h4)).cell 2 rfl;have haa : ((a : Int) == (a : Int)) = true := by simp
    have hol := hid ol;clear ol wl0 nl;rw [hx4] at k31 k35;go_wp2_with fail;rw [← hx4];clear hx4 k31 k35;refine (b10Same_e wq oq (R * OL) wc oc wus ous ML x4 hol.out (by omega) (wcs.ext ((h3.trans g4).trans h4)) wf0 (ocs.ext ((((h1.trans (g2.trans h2)).trans g3).trans h3).trans (g4.trans h4))) of).mono ?_;rintro e z1 ⟨rfl,i1⟩
    have k31 := (B31.ext (((((g2.trans h2).trans g3).trans h3).trans (g4.trans h4)).trans i1)).cell 2 rfl;have k37 := (B34.ext i1).cell 2 rfl;go_wp2_with fail;refine (b10Same_e nq oq (R * OL) nc oc nus ous ML z1 hol.out (by omega) (ncs.ext (h4.trans i1)) nf (ocs.ext (((((h1.trans (g2.trans h2)).trans g3).trans h3).trans (g4.trans h4)).trans i1)) of).mono ?_;rintro e z2 ⟨rfl,i2⟩
    have k25 := (B25.ext ((G4.trans i1).trans i2)).cell 0 rfl;clear k31 k37;go_wp2;go_ret;exact ⟨by simp,E29.trans ((G4.trans i1).trans i2)⟩
end Go.Proofs.Ytmbckkcgiafagaa.lFused
namespace Go.Proofs.Ytmbckkcgiafagaa
open Go.RowKit Go.WideShapes Go.Deep Go.ChangeShapes
theorem open_bytes {H : Type} {enc : TypeId × Value → H} {P : Program} {w : World} {base : Nat} {spare : Nat → Bool} {held : Bool} {r : Reach} {b0 : Nat} {t e : TypeId} {v : Value} {d : DataW H} {ps : List MemPlace} (ht : P.underlying t = some (.slice e)) (he : P.underlying e = some (.int .u8)) (hce : P.cellsOf e = 1)
 (hval : Value.okWide P w r b0 t v) (hd : DataW.Trod enc P w base spare held t v d ps) :
 ∃ (p : Option Addr) (n c : Nat) (bs : List Nat),v = .slice p n c ∧ Cs w p (u8s bs) ∧ bs.length = n ∧ ∀ b ∈ bs,b < 256 := by
 obtain ⟨p0,n0,c0,rfl⟩ := okWide_slice ht hval;obtain ⟨fuel,hx⟩ := hd
 cases fuel with
 | zero => simp [DataW.trod] at hx
 | succ k =>
   rcases open_slice ht hx with ⟨hv,_⟩ | ⟨a,ln,cp,m,n',D,Pl,hv,_,hl,hm,hmm,_,hel⟩
   · cases hv
     exact ⟨none,0,0,[],rfl,Cs.nil w none,rfl,fun b hb => by simp at hb⟩
   · have hv : [Value.slice p0 n0 c0] = [.slice (some a) ln cp] := hv
     injection hv with hv _
     injection hv with e1 e2 e3
     subst e1;subst e2;subst e3;have hlm : n0 ≤ m := by rw [hmm];split <;> omega
     obtain ⟨l,hl1,hl2⟩ := choose_list (A := Nat) (R := fun i b => w.cell? (a.add i) = some (.int .u8 (b : Int)) ∧ b < 256) n0 (fun i hi => by
      obtain ⟨cs',h1,h2⟩ := hel i (by omega);obtain ⟨z,rfl,_,hw⟩ := DataW.trod_int he h2;rw [hce,Nat.mul_one] at h1;obtain ⟨_,_,h6⟩ := World.cells?_some h1;have h7 := h6 0 (by omega);rw [Go.Proofs.Ytmbckkcgiafagaa.add_add,Nat.add_zero] at h7;simp only [Lit.wf,Bool.and_eq_true,decide_eq_true_eq] at hw;have hw1 : 0 ≤ z ∧ z ≤ 255 := hw;refine ⟨z.toNat,?_,by omega⟩;rw [h7,Int.toNat_of_nonneg hw1.1];rfl)
     refine ⟨some a,n0,c0,l,rfl,⟨fun i u hu => ?_,fun _ => rfl⟩,hl1,fun b hb => ?_⟩
     · unfold u8s at hu
       rw [List.getElem?_map] at hu
       cases hli : l[i]? with
       | none => rw [hli] at hu;simp at hu
       | some b => rw [hli] at hu;simp at hu;subst hu;exact (hl2 i b hli).1
     · obtain ⟨i,hi,rfl⟩ := List.mem_iff_getElem.1 hb
       exact (hl2 i _ (by simp)).2
end Go.Proofs.Ytmbckkcgiafagaa
