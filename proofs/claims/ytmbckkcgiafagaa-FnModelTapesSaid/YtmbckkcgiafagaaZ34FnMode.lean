/- A part of the proofs: WkQ, MtQ, NumberBytesLaw, ModelTapesLaw, OpenB. -/
import Derived.Test.YtmbckkcgiafagaaTnWhFnMo
import Derived.Test.YtmbckkcgiafagaaZ26FnMode
import Derived.Test.YtmbckkcgiafagaaZ15FnMode
import Derived.Test.YtmbckkcgiafagaaZ25FnMode
import Derived.Test.YtmbckkcgiafagaaZ33FnMode
import Derived.Laws.Bits128
import Derived.Laws.BytesArg
import Derived.Laws.IdiomStrings
import Derived.Test.YtmbckkcgiafagaaZ11FnMode
import Derived.Test.YtmbckkcgiafagaaZ08FnMode
import Derived.Test.YtmbckkcgiafagaaZ07FnMode
import Derived.Test.YtmbckkcgiafagaaZ03FnMode
import Derived.Test.YtmbckkcgiafagaaZ02FnMode
import Derived.Test.YtmbckkcgiafagaaZ12FnMode
import Derived.Test.YtmbckkcgiafagaaZ06FnMode
import Derived.Test.YtmbckkcgiafagaaZ13FnMode
import Derived.Test.YtmbckkcgiafagaaZ32FnMode
set_option linter.unusedSimpArgs false
set_option linter.unusedVariables false
set_option maxRecDepth 100000
set_option maxHeartbeats 16000000
namespace Go.Proofs.Ytmbckkcgiafagaa
open Go.RowKit
theorem gradB_drawn {L : List jac.T} {R I O nx ny : Nat} (h1 : modB L = true) (h2 : tapeB L = true) (hI : (I : Int) = inL L 0) (hO : (O : Int) = outL L) (hx : nx = R * I) (hy : ny = R * O) (hR : 1 ≤ R ∧ R ≤ 16) (hI8 : 1 ≤ I ∧ I ≤ 16) (hO8 : 1 ≤ O ∧ O ≤ 16) : gradB L R I nx R O ny = true := by
 have i1 : inB (R : Int) 1 16 = true := jar.2 (by omega);have i2 : inB (I : Int) 1 16 = true := jar.2 (by omega);have i3 : inB (O : Int) 1 16 = true := jar.2 (by omega);unfold gradB headB tenB;rw [h1,h2,i1,i2,i3,hx,hy,← hI,← hO];simp
theorem flat_part {f : Int → List Nat} : ∀ {ws : List Int} {i : Nat} (hi : i < ws.length),(((ws.take (i + 1)).map f).flatten).length = (((ws.take i).map f).flatten).length + (f ws[i]).length ∧ (((ws.take (i + 1)).map f).flatten).length ≤ ((ws.map f).flatten).length ∧ ∀ k,k < (f ws[i]).length → ((ws.map f).flatten).getD ((((ws.take i).map f).flatten).length + k) 0 = (f ws[i]).getD k 0
 | w :: ws,0,_ => by
   simp only [List.take_succ_cons,List.take_zero,List.map_cons,List.map_nil,List.flatten_cons,List.flatten_nil,List.length_append,List.length_nil,List.getElem_cons_zero,List.append_nil,Nat.zero_add];exact ⟨trivial,by omega,fun k hk => getD_appl _ _ _ _ hk⟩
 | w :: ws,i + 1,hi => by
   obtain ⟨h1,h2,h3⟩ := flat_part (f := f) (ws := ws) (i := i) (by simpa using hi);simp only [List.take_succ_cons,List.map_cons,List.flatten_cons,List.length_append,List.getElem_cons_succ];refine ⟨by omega,by omega,fun k hk => ?_⟩;rw [jbj _ _ _ _ (by omega),← h3 k hk]
   congr 1;omega
structure TapeFacts (L : List jac.T) (R I O : Nat) (xs ys : List Nat) (T : List shOp.T) (W : List Int) (G V : List jaa.T) (n : Nat) : Prop where
 len : T.length = n
 ge : 8 ≤ n
 le : n ≤ 48
 wl : W.length ≤ 48
 wb : ∀ i (h : i < W.length),0 ≤ W[i] ∧ W[i] < (n : Int)
 out : V.getD (n - 6) t0 = tn R O (rowsM L xs I R)
 last : V.getD (n - 1) t0 = tn 1 1 [lossT T]
 all : (jbq T W).length = (parF L).length
 off : ∀ i (h : i < W.length),(jbq T (W.take (i + 1))).length = (jbq T (W.take i)).length + (G.getD W[i].toNat t0).2.2.1.length ∧ (jbq T (W.take (i + 1))).length ≤ (jbq T W).length ∧ (V.getD W[i].toNat t0).2.2.1.length = (G.getD W[i].toNat t0).2.2.1.length ∧
  ∀ k,k < (G.getD W[i].toNat t0).2.2.1.length → (jbq T W).getD ((jbq T (W.take i)).length + k) 0 = (G.getD W[i].toNat t0).2.2.1.getD k 0 ∧ (parF L).getD ((jbq T (W.take i)).length + k) 0 = (V.getD W[i].toNat t0).2.2.1.getD k 0
theorem tape_facts {L : List jac.T} {R I O : Nat} {xs ys : List Nat} (hg : gradB L R I xs.length R O ys.length = true) (hI : (I : Int) = inL L 0) (hO : (O : Int) = outL L) (hx : xs.length = R * I) :
 TapeFacts L R I O xs ys (jb6 L R I xs R O ys) (wtsOf L R I xs R O ys) (jca (jb6 L R I xs R O ys)) (jb7 (jb6 L R I xs R O ys) (jb6 L R I xs R O ys).length) (jb6 L R I xs R O ys).length := by
 obtain ⟨sh,t1,t2,t3,t4⟩ := tapeOf_ok hg;have hb := hg;unfold gradB headB at hb;simp only [Bool.and_eq_true] at hb;have hM := modOk hb.1.1;have htp := hb.2;obtain ⟨r1,r2⟩ := mtape_rows hM htp (y := ((R : Int),(O : Int),ys,())) hI hO hx (fop .quo .f32 jcl (cn .f32 (floatOfInt .f32 ((ys.length : Nat) : Int))));have hd := mtape_data hM htp ((R : Int),(I : Int),xs,()) ((R : Int),(O : Int),ys,()) (fop .quo .f32 jcl (cn .f32 (floatOfInt .f32 ((ys.length : Nat) : Int))));have hi := mtape_inp L ((R : Int),(I : Int),xs,()) ((R : Int),(O : Int),ys,()) (fop .quo .f32 jcl (cn .f32 (floatOfInt .f32 ((ys.length : Nat) : Int))))
 have hlast : ∃ z,vAt (jb6 L R I xs R O ys) ((jb6 L R I xs R O ys).length - 1) = tn 1 1 [z] := by
  unfold jb6 mtape mtEnd;generalize mtTo L _ _ L.length = s;obtain ⟨ops,ws,j⟩ := s;dsimp only;obtain ⟨n,hn⟩ : ∃ n,ops.length = n := ⟨_,rfl⟩;rw [hn];generalize fop .quo .f32 jcl _ = z;obtain ⟨Q,hQ⟩ : ∃ Q,Q = ops ++ [mkOp 5 1 0 negOne t0,mkOp 1 j n 0 t0,mkOp 9 (n + 1) 0 0 t0,mkOp 10 (n + 2) 0 0 t0,mkOp 5 (n + 3) 0 z t0] := ⟨_,rfl⟩;rw [← hQ]
  have g : ∀ m,Q.getD (n + m) o0 = [mkOp 5 1 0 negOne t0,mkOp 1 j n 0 t0,mkOp 9 (n + 1) 0 0 t0,mkOp 10 (n + 2) 0 0 t0,mkOp 5 (n + 3) 0 z t0].getD m o0 := fun m => by
   rw [hQ,jbj _ _ _ _ (by omega),hn,show n + m - n = m by omega]
  have hl : Q.length = n + 5 := by rw [hQ];simp [hn]
  rw [hl,show n + 5 - 1 = n + 4 by omega,vAt_op (g 4) (by decide) (by omega) (by omega),vAt_op (g 3) (by decide) (by omega) (by omega)];exact ⟨_,rfl⟩
 obtain ⟨T,hT⟩ : ∃ T,T = jb6 L R I xs R O ys := ⟨_,rfl⟩;obtain ⟨W,hW⟩ : ∃ W,W = wtsOf L R I xs R O ys := ⟨_,rfl⟩;have r1 : 8 ≤ T.length := by rw [hT];exact r1
 have r2 : vAt T (T.length - 6) = tn R O (rowsM L xs I R) := by rw [hT];exact r2
 have hd : wData T W = parF L := by rw [hT,hW];exact hd
 have hi : InpW T W := by rw [hT,hW];exact hi
 rw [← hT] at hlast t1 t2 t4 ⊢;rw [← hW] at t3 t4 ⊢;clear hT hW;have hfl := flatW_data t1 t2 W hi;refine ⟨rfl,r1,t1.len,t3,fun i h => t4 _ (List.getElem_mem h),?_,?_,by rw [hfl,hd],fun i h => ?_⟩
 · rw [valsT_at T (by omega)];exact r2
 · rw [valsT_at T (by omega)]
   obtain ⟨z,hz⟩ := hlast;unfold lossT;rw [hz];rfl
 · obtain ⟨z0,z1,z2⟩ := hi _ (List.getElem_mem h)
   have hzl : W[i].toNat < T.length := by omega
   obtain ⟨gs,e1,l1⟩ := grads_shaped t1 t2 hzl;have hok := t1.ok W[i].toNat hzl
   have hv : (jb7 T T.length).getD W[i].toNat t0 = (T.getD W[i].toNat o0).2.2.2.2.1 := by
    rw [valsT_at T hzl,vAt_eq];unfold valT;rw [if_pos z2]
   have hl : (opD (T.getD W[i].toNat o0)).length = (sh W[i].toNat).1 * (sh W[i].toNat).2 := by
    generalize T.getD W[i].toNat o0 = o at *
    cases hok with
    | inp r c xs hl hs => rw [hs];exact hl
    | _ => exact absurd z2 (by simp [mkOp])
   have hgl : ((jca T).getD W[i].toNat t0).2.2.1.length = (sh W[i].toNat).1 * (sh W[i].toNat).2 := by rw [e1];exact l1
   have hvl : ((jb7 T T.length).getD W[i].toNat t0).2.2.1.length = ((jca T).getD W[i].toNat t0).2.2.1.length := by rw [hv,hgl];exact hl
   obtain ⟨p1,p2,p3⟩ := flat_part (f := fun z => (((jca T).getD z.toNat t0).2.2.1 : List Nat)) h;obtain ⟨q1,q2,q3⟩ := flat_part (f := fun z => opD (T.getD z.toNat o0)) h;have hfi : (jbq T (W.take i)).length = (wData T (W.take i)).length := flatW_data t1 t2 _ fun z hz => hi z (List.mem_of_mem_take hz)
   refine ⟨p1,p2,hvl,fun k hk => ⟨p3 k hk,?_⟩⟩;rw [hfi,← hd,hv];exact q3 k (by show k < (opD (T.getD W[i].toNat o0)).length;rw [hl,← hgl];exact hk)
end Go.Proofs.Ytmbckkcgiafagaa
namespace Go.Proofs.Ytmbckkcgiafagaa.lNumberBytes
open Go.RowKit
theorem r8Long_any (p q : Option Addr) (n c m d : Nat) (w : World) : Calls Try.prog 9 #[.slice p n c,.slice q m d] w fun e w' => e = .returned (.bool (decide (48 < n) || decide (48 < m))) ∧ w = w' := by
 by_cases h : 48 < n
 · have h1 : decide (48 < n) = true := decide_eq_true h
   go_enter Try.func9,Try.ntmps9;go_wp2;go_ret;exact ⟨by simp [h],rfl⟩
 · by_cases h2 : 48 < m
   · go_enter Try.func9,Try.ntmps9
     go_wp2;go_ret;exact ⟨by first | (simp [h,h2];done) | (simp [h,h2];omega),rfl⟩
   · go_enter Try.func9,Try.ntmps9
     go_wp2;go_ret;exact ⟨by first | (simp [h,h2];done) | (simp [h,h2];omega),rfl⟩
end Go.Proofs.Ytmbckkcgiafagaa.lNumberBytes
namespace Go.Proofs.Ytmbckkcgiafagaa.lModelTapes
open Go.RowKit
theorem inL_nat {l : List jac.T} (hM : ModOk l) : ∃ m : Nat,(m : Int) = inL l 0 ∧ 1 ≤ m ∧ m ≤ 8 := by
 have hp := hM.pos;have h1 := layD_int (hM.lay 0 (by omega));have h2 : inL l 0 = (l[0]'(by omega)).2.1 := by unfold inL;rw [List.getElem?_eq_getElem (show 0 < l.length by omega)];rfl
 exact ⟨(l[0]'(by omega)).2.1.toNat,by rw [h1.1,h2],h1.2.2.2.1,h1.2.2.1⟩
theorem rows_in32 {L : List jac.T} {xs : List Nat} {I R : Nat} (h : ∀ x ∈ xs,x < 4294967296) : In32 (rowsM L xs I R) := by
 intro x hx;unfold rowsM at hx;obtain ⟨l,hl,hxl⟩ := List.mem_flatten.1 hx;obtain ⟨i,_,rfl⟩ := List.mem_map.1 hl;exact lt_cur L (fun x hx => h x (List.mem_of_mem_take (List.mem_of_mem_drop hx))) _ x hxl
theorem tens_at {w : World} {p : Option Addr} {n : Nat} {css : List (List Value)} {vs : List jaa.T} (h : Tens w p n css vs) {j : Nat} (hj : j < n) : ∃ (q : Option Addr) (c : Nat) (us : List Value),css[j]? = some [.int .i64 (vs.getD j t0).1,.int .i64 (vs.getD j t0).2.1,.slice q (vs.getD j t0).2.2.1.length c] ∧ Cs w q us ∧ F32s us (vs.getD j t0).2.2.1 ∧ (vs.getD j t0).2.2.1.length ≤ c ∧ c ≤ maxLen := by
 have hv : j < vs.length := by rw [h.len];exact hj
 obtain ⟨h1,hr⟩ := h.all.get' j hv;obtain ⟨q,c,us,e,h2,h3,h4,h5⟩ := jay hr;have e2 : vs.getD j t0 = vs[j] := by simp [hv]
 rw [e2];exact ⟨q,c,us,by rw [← e];simp,h2,h3,h4,h5⟩
theorem tens_size {w : World} {p : Option Addr} {n : Nat} {css : List (List Value)} {vs : List jaa.T} (h : Tens w p n css vs) : ∀ c ∈ css,c.length = 3 := by
 intro c hc;obtain ⟨i,hi,rfl⟩ := List.mem_iff_getElem.1 hc;obtain ⟨q,k,us,e,_⟩ := tens_at h (j := i) (by rw [← h.cnt];exact hi);rw [List.getElem?_eq_getElem hi,Option.some.injEq] at e;rw [e];rfl
theorem law_any (p0 q0 : Option Addr) (n0 c0 m0 d0 : Nat) (bs ms : List Nat) (w : World) (hc0 : Cs w p0 (u8s bs)) (hl0 : bs.length = n0) (hb0 : ∀ b ∈ bs,b < 256) (hd0 : Cs w q0 (u8s ms)) (hm0 : ms.length = m0) (hb1 : ∀ b ∈ ms,b < 256) :
 Calls Try.prog 5 #[.slice p0 n0 c0,.slice q0 m0 d0] w fun e w' => e = .returned (.bool true) ∧ Ext w w' := by
 go_enter Try.func5,Try.ntmps5;go_wp2_with fail;refine (lNumberBytes.r8Long_any _ _ _ _ _ _ _).mono ?_;rintro e w1 ⟨rfl,rfl⟩
 by_cases hlong : 48 < n0 ∨ 48 < m0
 · have hd : (decide (48 < n0) || decide (48 < m0)) = true := by simpa using hlong
   rw [hd];go_wp2;go_ret;exact ⟨rfl,Ext.refl _⟩
 have hn0 : n0 ≤ 48 := by omega
 have hmm0 : m0 ≤ 48 := by omega
 have hd : (decide (48 < n0) || decide (48 < m0)) = false := by simp;omega
 rw [hd];clear hd hlong;go_wp2_with fail;refine (R8Model_any p0 n0 c0 bs _ hc0 hl0 (by omega) hb0).mono ?_;rintro e w1 ⟨L,q,c,rfl,hmod,htape,hfit,ho,e1⟩
 have hM := modOk hmod;obtain ⟨O,hO,hO1,hO8⟩ := outL_nat hM;obtain ⟨I,hI,hI1,hI8⟩ := inL_nat hM;obtain ⟨obs,ow,_⟩ := ho;obtain ⟨p',c',css,hv,LY⟩ := lays_of ow.rep hfit
 cases hv
 have b5 := HB.new w1 #[.slice q L.length c] 38;have e2 := Ext.alloc w1 (.cells #[.slice q L.length c] 38);obtain ⟨w2,hw2⟩ : ∃ w2,w2 = w1.alloc (.cells #[.slice q L.length c] 38) := ⟨_,rfl⟩;rw [← hw2] at b5 e2;go_wp2_with fail;rw [← hw2];clear hw2;have E2 := e1.trans e2;refine (r8At_any q0 m0 d0 ms 40 4 w2 (hd0.ext E2) hm0 (by omega) hb1 (by omega)).mono ?_;rintro e w3 ⟨x,rfl,hx,rfl⟩
 have hx := hx (by omega);obtain ⟨R,hR⟩ : ∃ R : Nat,(1 : Int) + (x : Int) = (R : Int) := ⟨1 + x,by omega⟩;have hR1 : 1 ≤ R ∧ R ≤ 4 := by omega
 clear hx;have hL1 := hM.pos;have hLY := LY.ext e2;obtain ⟨ci,k1,_,k2,k4⟩ := hLY.at (i := L.length - 1) (by omega);rw [outL_eq rfl] at k2;obtain ⟨di,j1,j2,_,_⟩ := hLY.at (i := 0) (by omega);rw [← hO] at k2;rw [← hI] at j2;have l1 := hLY.cs;have l3 := hLY.size;have l5 := hLY.cnt;have K1 := hid k1;have K2 := hid k2;have J1 := hid j1;have J2 := hid j2;have hfL := hid hfit;have hML := hid hM;have HO := hid hO;have HI := hid hI;have hmodL := hid hmod;have htapeL := hid htape;have HLY := hid hLY;have hL6 := hM.few;have HRP := hid ow.rep;clear k1 k2 j1 j2 LY hLY ow hO hI hM hmod hfit htape;obtain ⟨n,hn⟩ : ∃ n,n = L.length := ⟨_,rfl⟩;rw [← hn] at l5 hL1 K1 b5 hL6 HLY ⊢;have HN := hid hn;have L5 := hid l5;clear hn l5;have r5 := b5.cell 0 rfl;have hw1 : IntKind.i64.wrap ((n : Int) - 1) = (n : Int) - 1 := ja2 _ (by omega) (by omega);go_wp2_with (first | ((with_reducible show gx14);refine wl_ldField (f := 1) (off := 1) (j := 0) rfl rfl rfl rfl rfl rfl (fun _ => rfl) (fun _ _ => rfl) fo_implLayer_1 rfl rfl rfl l1 l3 L5.out (by omega) k4 J1.out J2.out ?_) | fail);refine (R8Tensor_any q0 m0 d0 ms R I w2 (hd0.ext E2) hm0 (by omega) hb1 (by omega) (by omega)).mono ?_;rintro e w4 ⟨xs,tq,tc,us,rfl,hxl,hxb,ot,hfx,e4⟩
 have hRI : R * I ≤ 4 * 8 := Nat.mul_le_mul hR1.2 hI8;have b9 := HB.new w4 #[.int .i64 R,.int .i64 I,.slice tq (R * I) tc] 27;have e5 := Ext.alloc w4 (.cells #[.int .i64 R,.int .i64 I,.slice tq (R * I) tc] 27);obtain ⟨w5,hw5⟩ : ∃ w5,w5 = w4.alloc (.cells #[.int .i64 R,.int .i64 I,.slice tq (R * I) tc] 27) := ⟨_,rfl⟩;have s5 : w5.heap.size = w4.heap.size + 1 := by rw [hw5];simp
 rw [← hw5] at b9 e5;have e25 := e4.trans e5;have r5 := e25.cell r5;have l1 := l1.ext e25;have E5 := E2.trans e25;have HS5 := hid s5;clear s5;subst hw5;go_wp2_with (first | ((with_reducible show gx14);refine wl_ldField (f := 2) (off := 2) (j := n - 1) rfl rfl rfl rfl rfl rfl (fun _ => rfl) (fun _ _ => rfl) fo_implLayer_2 rfl rfl (by omega) l1 l3 L5.out (by omega) k4 K1.out K2.out ?_) | fail);obtain ⟨w5,hw5⟩ : ∃ w5,w5 = w4.alloc (.cells #[.int .i64 R,.int .i64 I,.slice tq (R * I) tc] 27) := ⟨_,rfl⟩;rw [← hw5] at b9 e5 HS5 e25 r5 l1 E5 ⊢;clear hw5;have s5 := HS5.out;have hOR : R * O ≤ 4 * 8 := Nat.mul_le_mul hR1.2 hO8;refine (R8Tensor_any p0 n0 c0 bs R O w5 (hc0.ext E5) hl0 (by omega) hb0 (by omega) (by omega)).mono ?_;rintro e w6 ⟨ys,gq,gc,vs,rfl,hyl,hyb,og,hfy,e6⟩
 have b10 := HB.new w6 #[.int .i64 R,.int .i64 O,.slice gq (R * O) gc] 27;have e7 := Ext.alloc w6 (.cells #[.int .i64 R,.int .i64 O,.slice gq (R * O) gc] 27);obtain ⟨w7,hw7⟩ : ∃ w7,w7 = w6.alloc (.cells #[.int .i64 R,.int .i64 O,.slice gq (R * O) gc] 27) := ⟨_,rfl⟩;have s7 : w7.heap.size = w6.heap.size + 1 := by rw [hw7];simp
 rw [← hw7] at b10 e7;have e57 := e6.trans e7;have E7 := E5.trans e57;have b5' := hid ((b5.ext e25).ext e57);have b9' := hid (b9.ext e57);have hx' := hid ((jbt ot).ext (e5.trans e57));have hy' := hid ((jbt og).ext e7);have hcx := (jbb ot).1;have hcx2 := (jbb ot).2;have hcy := (jbb og).1;have hcy2 := (jbb og).2;have HL7 := hid ((HLY.out.ext e25).ext e57);have HFX := hid hfx;have HFY := hid hfy;have HXL := hid hxl;have HYL := hid hyl;clear l1 l3 k4 r5 b5 b9 hfx hfy hxl hyl ot og HS5;have hG := hid (gradB_drawn (L := L) (R := R) (I := I) (O := O) (nx := xs.length) (ny := ys.length) hmodL.out htapeL.out HI.out HO.out HXL.out HYL.out (by omega) (by omega) (by omega));have CM := hid (fun W (h : Ext w7 W) => ModelTape_any q tq gq n c (R * I) tc (R * O) gc R I R O css L xs ys us vs W (HL7.out.ext h) HXL.out HYL.out (by unfold maxLen;omega) (by unfold maxLen;omega) hcx hcy (hx'.out.ext h) HFX.out (hy'.out.ext h) HFY.out);have CG := hid (fun W (h : Ext w7 W) => ModelGradients_any q tq gq n c (R * I) tc (R * O) gc R I R O css L xs ys us vs W (HL7.out.ext h) HXL.out HYL.out (by unfold maxLen;omega) (by unfold maxLen;omega) hcx hcy (hx'.out.ext h) HFX.out (hy'.out.ext h) HFY.out);have CL := hid (fun W (h : Ext w7 W) => ModelLoss_any q tq gq n c (R * I) tc (R * O) gc R I R O css L xs ys us vs W (HL7.out.ext h) HXL.out HYL.out (by unfold maxLen;omega) (by unfold maxLen;omega) hcx hcy (hx'.out.ext h) HFX.out (hy'.out.ext h) HFY.out);have CP := hid (fun W (h : Ext w7 W) => ParamsOf_any q n c L css W (HL7.out.ext h));have hrp : Rep w1 (.sl jac) [.slice q n c] L := by rw [HN.out];exact HRP.out
 have CR := hid (fun W (h : Ext w7 W) => RunModel_yes q tq n c R I O tc L xs W hmodL.out HN.out.symm hfL.out (Rep.ext h (Rep.ext e57 (Rep.ext e25 (Rep.ext e2 hrp)))) HI.out HO.out (by omega) (by omega) HXL.out hxb (Rep.ext h (jco.2 ⟨tq,tc,us,by rw [HXL.out],hx'.out,HFX.out,by rw [HXL.out];exact hcx,hcx2⟩)));have FT := hid (tape_facts (ys := ys) hG.out HI.out HO.out HXL.out);have x0 := b5'.out.cell 0 rfl;have y0 := b9'.out.cell 0 rfl;have y1 := b9'.out.cell 1 rfl;have y2 := b9'.out.cell 2 rfl;have z0 := b10.cell 0 rfl;have z1 := b10.cell 1 rfl;have z2 := b10.cell 2 rfl;rw [hw7] at x0 y0 y1 y2 z0 z1 z2;go_wp2_with fail;rw [← hw7];clear hw7 x0 y0 y1 y2 z0 z1 z2;refine (CM.out w7 (Ext.refl _)).mono ?_;rintro e w8 ⟨⟨hb,_⟩ | ⟨_,Tq,Wq,Tc,Wc,tcss,rfl,TO,TW⟩,e8⟩
 · exact absurd (hb.symm.trans hG.out) (by decide)
 obtain ⟨sh,t1,t2,t3,t4⟩ := tapeOf_ok hG.out;obtain ⟨T,hTd⟩ : ∃ T,T = jb6 L R I xs R O ys := ⟨_,rfl⟩;obtain ⟨Ws,hWd⟩ : ∃ Ws,Ws = wtsOf L R I xs R O ys := ⟨_,rfl⟩;have FT : Hid (TapeFacts L R I O xs ys T Ws (jca T) (jb7 T T.length) T.length) := by rw [hTd,hWd];exact FT.out
 rw [← hTd] at TO t1 t2 t4 ⊢;rw [← hWd] at TW t3 t4 ⊢;have HTd := hid hTd;have HWd := hid hWd;clear hTd hWd;obtain ⟨N,hN⟩ : ∃ N,N = T.length := ⟨_,rfl⟩;obtain ⟨M,hM⟩ : ∃ M,M = Ws.length := ⟨_,rfl⟩;have CR1 := hid (fun W (h : Ext w8 W) => RunTape_yes Tq T.length Tc tcss T W (TO.ext h) t1 t2);have CR2 := hid (fun W (h : Ext w8 W) => Gradients_yes Tq T.length Tc tcss T W (TO.ext h) t1 t2);rw [← hN] at CR1 CR2 FT t2 ⊢;rw [← hM] at t3 ⊢;have HNt := hid hN;have HMt := hid hM;clear hN hM t1 t4 TO;have x0 := (b5'.out.ext e8).cell 0 rfl;have y0 := (b9'.out.ext e8).cell 0 rfl;have y1 := (b9'.out.ext e8).cell 1 rfl;have y2 := (b9'.out.ext e8).cell 2 rfl;have z0 := (b10.ext e8).cell 0 rfl;have z1 := (b10.ext e8).cell 1 rfl;have z2 := (b10.ext e8).cell 2 rfl;go_wp2_with fail;refine (CR1.out w8 (Ext.refl _)).mono ?_;rintro e w9 ⟨vq,vk,vcss,rfl,TV,hvk,e9⟩
 go_wp2_with fail;refine (CR2.out w9 e9).mono ?_;rintro e wA ⟨gb,gcss,rfl,TG,eA⟩
 have E8A := e9.trans eA;have x0 := E8A.cell x0;have y0 := E8A.cell y0;have y1 := E8A.cell y1;have y2 := E8A.cell y2;have z0 := E8A.cell z0;have z1 := E8A.cell z1;have z2 := E8A.cell z2;go_wp2_with fail;refine (CL.out wA (e8.trans E8A)).mono ?_;rintro e wB ⟨⟨lb,rfl,hlb⟩,eB⟩
 rw [hG.out,if_pos rfl] at hlb;rw [hG.out];have x0 := eB.cell x0;have y0 := eB.cell y0;have y1 := eB.cell y1;have y2 := eB.cell y2;have z0 := eB.cell z0;have z1 := eB.cell z1;have z2 := eB.cell z2;have E8B := E8A.trans eB;have HLB := hid hlb;clear hlb;go_wp2_with fail;refine (CG.out wB (e8.trans E8B)).mono ?_;rintro e wC ⟨⟨hb,_⟩ | ⟨_,lq,lc,ob,lus,rfl,lo,lf,hob⟩,eC⟩
 · exact absurd (hb.symm.trans hG.out) (by decide)
 rw [← HTd.out,← HWd.out] at lo lf ⊢;rw [← HTd.out] at hob;obtain ⟨P,hP⟩ : ∃ P,P = (jbq T Ws).length := ⟨_,rfl⟩;rw [← hP] at lo ⊢;have hll := (jbb lo).1;have HLO := hid (jbt lo);have HLF := hid lf;have HSN : Hid (cn .f32 lb = cn .f32 ob) := by rw [Hid,HLB.out,hob,HTd.out]
 have HPP : Hid ((parF L).length = P) := by rw [Hid,hP];exact FT.out.all.symm
 have HPf := hid hP;clear hP lo lf hob;have E8C := E8B.trans eC;have x0 := eC.cell x0;have y0 := eC.cell y0;have y1 := eC.cell y1;have y2 := eC.cell y2;clear z0 z1 z2;go_wp2_with fail;refine (CR.out wC (e8.trans E8C)).mono ?_;rintro e wD ⟨oq,oc,ous,rfl,hol,ocs,of,hoc,hocm,eD⟩
 have HOL := hid hol;have HOF := hid of;clear hol of;have x0 := (eD.trans (Ext.alloc wD (.cells #[.int .i64 R,.int .i64 O,.slice oq (R * O) oc] 27))).cell x0;have bO := HB.new wD #[.int .i64 R,.int .i64 O,.slice oq (R * O) oc] 27;have eD2 := eD.trans (Ext.alloc wD (.cells #[.int .i64 R,.int .i64 O,.slice oq (R * O) oc] 27));have ocs := ocs.ext (Ext.alloc wD (.cells #[.int .i64 R,.int .i64 O,.slice oq (R * O) oc] 27));obtain ⟨wX,hwX⟩ : ∃ wX,wX = wD.alloc (.cells #[.int .i64 R,.int .i64 O,.slice oq (R * O) oc] 27) := ⟨_,rfl⟩;rw [← hwX] at bO eD2 ocs;clear y0 y1 y2;go_wp2_with fail;rw [← hwX];rw [← hwX] at x0;clear hwX;have E8X := E8C.trans eD2;refine (CP.out wX (e8.trans E8X)).mono ?_;rintro e wE (⟨hb,_⟩ | ⟨_,pq,pc,pus,rfl,po,pf,eE⟩)
 · exact absurd (hb.symm.trans hmodL.out) (by decide)
 rw [HPP.out] at po ⊢;have hpl := (jbb po).1;have HPO := hid (jbt po);have HPF := hid pf;clear po pf x0;have E8E := E8X.trans eE;have E9E := ((eA.trans eB).trans (eC.trans eD2)).trans eE;have EAE := (eB.trans (eC.trans eD2)).trans eE;have hN8 := FT.out.ge;have hN48 := FT.out.le;have hw1 : IntKind.i64.wrap ((N : Int) - 1) = (N : Int) - 1 := ja2 _ (by omega) (by omega);have hw6 : IntKind.i64.wrap ((N : Int) - 6) = (N : Int) - 6 := ja2 _ (by omega) (by omega);have hd8 : decide ((N : Int) < 8) = false := by simp;omega
 have hd8' : decide (N < 8) = false := by simp;omega
 have hNN : ((N : Int) != (N : Int)) = false := bne_f rfl;have hPP : ((P : Int) != (P : Int)) = false := bne_f rfl;go_wp2_with fail;have eF := Ext.drew wE;have TVF := (TV.ext E9E).ext eF;obtain ⟨zq,zc,zus,zh,zcs,zf,zl,_⟩ := tens_at TVF (j := N - 1) (by omega);obtain ⟨rq,rc,rus,rh,rcs,rf,rl,rm⟩ := tens_at TVF (j := N - 6) (by omega);rw [FT.out.last] at zh zf zl;rw [FT.out.out] at rh rf rl;simp only [tn] at zh zf zl rh rf rl;rw [HOL.out] at rh rl;have vcs := TVF.cs;have vsz := tens_size TVF;have vcnt := hid TVF.cnt;have vsome : vq.isSome = true := vcs.some_of (s := 3) (i := 0) vsz (by decide) (by rw [vcnt.out];omega);have HZH := hid zh;have HRH := hid rh;have bOF := (bO.ext eE).ext eF;have ocF := (ocs.ext eE).ext eF;have hZ1 : ([lossT T] : List Nat).length = 1 := rfl;have ST := hid (fun W (h : Ext wE.drew W) => SameTensors_eq (R : Int) (O : Int) rq oq (R * O) rc oc rus ous (rowsM L xs I R) W (by unfold tenB;rw [jar.2 (show (1 : Int) ≤ R ∧ (R : Int) ≤ 16 by omega),jar.2 (show (1 : Int) ≤ O ∧ (O : Int) ≤ 16 by omega)];simp) HOL.out (by unfold maxLen;omega) (rcs.ext h) (ocF.ext h) rf HOF.out (rows_in32 hxb));have HN := HN;have HNt := HNt;clear TVF zh rh rf rl;refine jae (F := fun _ _ u => u = .bool true) (by kernel_rfl) (by kernel_rfl) (by kernel_rfl) ?_;intro wf hwf
 repeat (first
  | ((first | (refine ja8 rfl ?_) | (refine x_mv rfl rfl rfl ?_) | (refine x_as rfl rfl rfl ?_) | ((with_reducible show gx13);refine x_ldField (f := 2) (off := 2) (j := N - 1) rfl rfl (fun _ => rfl) rfl (fun _ _ => rfl) rfl (fun _ => rfl) (fun _ _ => rfl) fo_implTensor_2 rfl rfl (by omega) vcs vsz vcnt.out (by omega) vsome HZH.out rfl ?_) | ((with_reducible show gx0);first | (refine x_ldF rfl rfl (fun _ => rfl) rfl (fun _ => rfl) rfl rfl zcs zf rfl (by omega) (by simp) ?_;intro r0 g0;have G0 := hid g0;clear g0) | (refine x_idxloadE (s := jaa) (j := N - 6) rfl rfl (fun _ => rfl) rfl (fun _ => rfl) rfl rfl (by omega) vcs vsz vcnt.out (by omega) vsome HRH.out ?_;simp only [ofCs,Sh.agg,if_true])) | ((with_reducible show gx12);first | (refine jap (f := 14) (args := #[.float .f32 lb,.float .f32 ob]) rfl rfl Try.func14 rfl (by kernel_rfl) ?_ ?_ ?_;(focus (simp [Act.eval];done));(focus (intro w1 hw1;exact ((same_e lb ob w1 HSN.out).mono fun e w3 h => ⟨_,h.1,by rw [h.2];exact Ext.refl _,rfl⟩)));rintro u w3 e3 e4 hu;subst hu) | (refine jap (f := 14) (args := #[.float .f32 r0,.float .f32 lb]) rfl rfl Try.func14 rfl (by kernel_rfl) ?_ ?_ ?_;(focus (simp [Act.eval];done));(focus (intro w1 hw1;exact ((same_e r0 lb w1 (by rw [G0.out,HLB.out,← HTd.out];rfl)).mono fun e w3 h => ⟨_,h.1,by rw [h.2];exact Ext.refl _,rfl⟩)));rintro u w3 e3 e4 hu;subst hu) | (refine jap (f := 29) (args := #[.agg #[.int .i64 R,.int .i64 O,.slice rq (R * O) rc],.agg #[.int .i64 R,.int .i64 O,.slice oq (R * O) oc]]) rfl rfl Try.func29 rfl (by kernel_rfl) ?_ ?_ ?_;(focus (simp [Act.eval];done));(focus (intro w1 hw1;exact ((ST.out w1 hw1).mono fun e w3 h => ⟨_,h.1,h.2,rfl⟩)));rintro u w3 e3 e4 hu;subst hu)));simp only [Act.put,jab,pu1,pu2,pu3,pu4,pu5])
  | (refine jbw rfl fun K hK w1 hw1 => ?_;have k0 := hw1.cell (bOF.cell 0 rfl);have k1 := hw1.cell (bOF.cell 1 rfl);have k2 := hw1.cell (bOF.cell 2 rfl);go_simp;refine hK _ ?_;clear hK K k0 k1 k2 hw1 w1))
 refine jbu ?_;have EF := eF.trans hwf;have E8F := E8E.trans EF;have EAF := EAE.trans EF;have E9F := E9E.trans EF;have TWF := TW.ext E8F;have TVF := TV.ext E9F;have TGF := TG.ext EAF;have LOF := HLO.out.ext (((eD2.trans eE)).trans EF);have POF := HPO.out.ext EF;have E0F := (E7.trans e8).trans E8F;clear vcs vsz vcnt vsome bOF ocF hZ1 ST zcs zf rcs TV TG TW hw1 hw6 hd8 hd8';obtain ⟨ai,hai⟩ : ∃ f : Nat → Nat,f = fun i => (jbq T (Ws.take i)).length := ⟨_,rfl⟩
 have hA0 : ai 0 = 0 := by rw [hai];simp [jbq]
 have hAM : ai M = P := by rw [hai,HPf.out,HMt.out];simp
 have HAI := hid hai;have HAM := hid hAM;have HA0 := hid hA0;clear hai hA0 hAM;go_wp2_with fail;go_loopw [26,27] (fun av iv wr => ∃ i : Nat,i ≤ M ∧ iv = .int .i64 (i : Int) ∧ av = .int .i64 ((ai i : Nat) : Int) ∧ Ext wf wr) (fun _ iv _ => M - (intOf iv).toNat)
 case atStart => exact ⟨0,by omega,rfl,by rw [HA0.out];rfl,Ext.refl _⟩
 case round =>
  obtain ⟨i,hi,rfl,rfl,he⟩ := hrel
  by_cases hlt : i < M
  · have hdl : decide ((i : Int) < (M : Int)) = true := by simp;omega
    have hiW : i < Ws.length := by rw [← HMt.out];exact hlt
    obtain ⟨z0,z1⟩ := FT.out.wb i hiW;obtain ⟨f1,f2,f3,f4⟩ := FT.out.off i hiW;obtain ⟨Z,hZ⟩ : ∃ Z : Nat,Ws[i] = (Z : Int) := ⟨Ws[i].toNat,by omega⟩;have hWZ := hid (show (Ws.map (Value.int .i64))[i]? = some (.int .i64 (Z : Int)) by rw [List.getElem?_map,List.getElem?_eq_getElem hiW,hZ];rfl);have hWl := hid (show (Ws.map (Value.int .i64)).length = M by rw [List.length_map];exact HMt.out.symm);rw [hZ,Int.toNat_natCast] at f1 f3 f4;rw [hZ] at z1;have hZN : Z < N := by omega
    obtain ⟨gq',gc',gus,gh,gcs,gf,gl,gm⟩ := tens_at (TGF.ext he) hZN;obtain ⟨vq',vc',vus,vh,vcs,vf,vl,vm⟩ := tens_at (TVF.ext he) hZN;rw [f3] at vh vl;have hf1 : ai (i + 1) = ai i + ((jca T).getD Z t0).2.2.1.length := by rw [HAI.out];exact f1
    have hf2 : ai (i + 1) ≤ P := by rw [HAI.out,HPf.out];exact f2
    have hf4 : ∀ k,k < ((jca T).getD Z t0).2.2.1.length → (jbq T Ws).getD (ai i + k) 0 = ((jca T).getD Z t0).2.2.1.getD k 0 ∧ (parF L).getD (ai i + k) 0 = ((jb7 T N).getD Z t0).2.2.1.getD k 0 := by rw [HAI.out];exact f4
    have HF3 := hid f3;clear f1 f2 f3 f4 hZ z0 z1;generalize (jca T).getD Z t0 = gt at *;generalize (jb7 T N).getD Z t0 = vt at *;obtain ⟨g1,g2,gx,gu⟩ := gt;obtain ⟨v1,v2,vx,vu⟩ := vt;dsimp only at gh gf gl vh vf vl hf1 hf4 HF3;obtain ⟨A,hA⟩ : ∃ A,A = gx.length := ⟨_,rfl⟩;have hPb : P ≤ 432 := by rw [← HPP.out];exact parF_few (modOk hmodL.out)
    obtain ⟨B,hB⟩ : ∃ B,B = ai i := ⟨_,rfl⟩;rw [← hA] at gh vh gl vl hf1 hf4;rw [← hB] at hf1 hf4 ⊢;have hBA : B + A ≤ P := by omega
    have HGL := hid hA.symm;have HVL : Hid (vx.length = A) := by rw [Hid,hA];exact HF3.out
    have HF1 := hid hf1;have HF4 := hid hf4;have HBe := hid hB;have HGH := hid gh;have HVH := hid vh;clear hA hB hf1 hf2 hf4 HF3 gh vh;have gcs0 := (TGF.ext he).cs;have gsz := tens_size TGF;have gcnt := hid TGF.cnt;have vcs0 := (TVF.ext he).cs;have vsz := tens_size TVF;have vcnt := hid TVF.cnt;have vsome : vq.isSome = true := vcs0.some_of (s := 3) (i := 0) vsz (by decide) (by rw [vcnt.out];omega);have vcs1 := vcs0.ext (Ext.alloc wr (.cells #[.int .i64 g1,.int .i64 g2,.slice gq' A gc'] 27));have tws := TWF.ext he;have tws1 := tws.ext (Ext.alloc wr (.cells #[.int .i64 g1,.int .i64 g2,.slice gq' A gc'] 27));have hz0 : decide ((Z : Int) < 0) = false := by simp
    have hz1 : decide ((N : Int) ≤ (Z : Int)) = false := by simp;omega
    have hz2 : decide (N ≤ Z) = false := by simp;omega
    have hAA : ((A : Int) != (A : Int)) = false := bne_f rfl;have hwB : IntKind.i64.wrap ((B : Int) + (A : Int)) = (B : Int) + (A : Int) := ja2 _ (by omega) (by omega);have hgt : decide ((P : Int) < (B : Int) + (A : Int)) = false := by simp;omega
    obtain ⟨W1,hW1⟩ : ∃ W1,W1 = (wr.alloc (.cells #[.int .i64 g1,.int .i64 g2,.slice gq' A gc'] 27)).alloc (.cells #[.int .i64 v1,.int .i64 v2,.slice vq' A vc'] 27) := ⟨_,rfl⟩;obtain ⟨eW,sW,b28,b29⟩ := box2 hW1;have b28 : HB W1 wr.heap.size #[.int .i64 g1,.int .i64 g2,.slice gq' A gc'] 27 := b28;have b29 : HB W1 (wr.heap.size + 1) #[.int .i64 v1,.int .i64 v2,.slice vq' A vc'] 27 := b29
    go_wp2_with (first
     | ((with_reducible show gx2);refine lReduceLists.wl_idxloadW (j := i) (by first | rfl | (go_simp;done)) rfl (fun _ => by first | rfl | (go_simp;done)) rfl (fun _ => rfl) rfl rfl rfl tws hWl.out (by omega) hWZ.out ?_)
     | ((with_reducible show gx2);refine lReduceLists.wl_idxloadW (j := i) (by first | rfl | (go_simp;done)) rfl (fun _ => by first | rfl | (go_simp;done)) rfl (fun _ => rfl) rfl rfl rfl tws1 hWl.out (by omega) hWZ.out ?_)
     | ((with_reducible show gx2);refine jax (s := jaa) (j := Z) rfl rfl rfl rfl (fun _ => rfl) rfl rfl rfl gcs0 gsz gcnt.out hZN rfl HGH.out ?_;simp only [ofCs,Sh.agg,if_true])
     | ((with_reducible show gx2);refine jax (s := jaa) (j := Z) rfl rfl rfl rfl (fun _ => rfl) rfl rfl rfl vcs1 vsz vcnt.out hZN vsome HVH.out ?_;simp only [ofCs,Sh.agg,if_true])
     | fail)
    rw [← hW1];clear hW1 tws tws1 gcs0 vcs0 vcs1 gsz vsz gcnt vcnt vsome hz0 hz1 hz2 hAA;have E1 := he.trans eW;go_loopw [30] (fun kv wr2 => ∃ (k : Nat) (W2 : World),W2 = wr2 ∧ k ≤ A ∧ kv = .int .i64 (k : Int) ∧ Ext W1 wr2) (fun kv _ => A - (intOf kv).toNat)
    case atStart => exact ⟨0,_,rfl,by omega,rfl,Ext.refl _⟩
    case round =>
     obtain ⟨k,W2,hWe,hk,rfl,hx2⟩ := hrel;subst hWe;have c28 := b28.ext hx2;have c29 := b29.ext hx2;have y2 := c28.cell 2 rfl
     by_cases hlk : k < A
     · have hdl2 : decide ((k : Int) < (A : Int)) = true := by simp;omega
       have q1 : IntKind.i64.wrap ((B : Int) + (k : Int)) = (B : Int) + (k : Int) := ja2 _ (by omega) (by omega);have HBk : Hid (((B : Int) + (k : Int)).toNat = B + k) := by rw [Hid];omega
       go_wp2_with fail;have eD := Ext.drew W2;have d28 := c28.ext eD;have d29 := c29.ext eD;have gG := (gcs.ext (eW.trans hx2)).ext eD;have vG := (vcs.ext (eW.trans hx2)).ext eD;have lG := (LOF.ext (E1.trans hx2)).ext eD;have pG := (POF.ext (E1.trans hx2)).ext eD;obtain ⟨h5,h6⟩ := HF4.out k hlk;have HPf2 := hid HPf.out.symm;refine jae (F := fun _ _ u => u = .bool true) (by kernel_rfl) (by kernel_rfl) (by kernel_rfl) ?_;intro wf hwf
       repeat (first
        | ((first | (refine ja8 rfl ?_) | (refine x_mv rfl rfl rfl ?_) | (refine x_as rfl rfl rfl ?_) | ((with_reducible show gx0);first | (refine x_ldF rfl rfl (fun _ => rfl) rfl (fun _ => rfl) rfl rfl gG gf HGL.out (by omega) (by omega) ?_;intro r1 gg;have G1 := hid gg;clear gg) | (refine x_ldF rfl rfl (fun _ => rfl) rfl (fun _ => rfl) rfl rfl lG HLF.out HPf2.out (by omega) (by omega) ?_;intro r2 gg;have G2 := hid gg;clear gg) | (refine x_ldF rfl rfl (fun _ => rfl) rfl (fun _ => rfl) rfl rfl vG vf HVL.out (by omega) (by omega) ?_;intro r3 gg;have G3 := hid gg;clear gg) | (refine x_ldF rfl rfl (fun _ => rfl) rfl (fun _ => rfl) rfl rfl pG HPF.out HPP.out (by omega) (by omega) ?_;intro r4 gg;have G4 := hid gg;clear gg)) | ((with_reducible show gx12);first | (refine jap (f := 14) (args := #[.float .f32 r1,.float .f32 r2]) rfl rfl Try.func14 rfl (by kernel_rfl) ?_ ?_ ?_;(focus (simp [Act.eval];done));(focus (intro w1 hw1;exact ((same_e r1 r2 w1 (by rw [G1.out,G2.out,Int.toNat_natCast,HBk.out];exact h5.symm)).mono fun e w3 h => ⟨_,h.1,by rw [h.2];exact Ext.refl _,rfl⟩)));rintro u w3 e3 e4 hu;subst hu) | (refine jap (f := 14) (args := #[.float .f32 r3,.float .f32 r4]) rfl rfl Try.func14 rfl (by kernel_rfl) ?_ ?_ ?_;(focus (simp [Act.eval];done));(focus (intro w1 hw1;exact ((same_e r3 r4 w1 (by rw [G3.out,G4.out,Int.toNat_natCast,HBk.out];exact h6.symm)).mono fun e w3 h => ⟨_,h.1,by rw [h.2];exact Ext.refl _,rfl⟩)));rintro u w3 e3 e4 hu;subst hu)));simp only [Act.put,jab,pu1,pu2,pu3,pu4,pu5])
        | (refine jbw rfl fun K hK w1 hw1 => ?_;have k0 := hw1.cell (d28.cell 2 rfl);have k1 := hw1.cell (d29.cell 2 rfl);go_simp;refine hK _ ?_;clear hK K k0 k1 hw1 w1))
       refine jbu ?_;go_wp2_with fail;go_roundw
       case rel => exact ⟨k + 1,_,rfl,by omega,by go_num,(hx2.trans eD).trans hwf⟩
       case measure => simp [intOf];omega
     · have hkA : k = A := by omega
       subst hkA;have hdl2 : decide ((k : Int) < (k : Int)) = false := by simp
       go_wp2_with fail;go_roundw
       case rel => exact ⟨i + 1,by omega,by go_num,by rw [HF1.out];go_num,E1.trans hx2⟩
       case measure => simp [intOf];omega
  · have hiM : i = M := by omega
    subst hiM;have hdl : decide ((i : Int) < (i : Int)) = false := by simp
    rw [HAM.out];go_wp2;go_ret;exact ⟨by simp,E0F.trans he⟩
end Go.Proofs.Ytmbckkcgiafagaa.lModelTapes
namespace Go.Proofs.Ytmbckkcgiafagaa
open Go.RowKit Go.WideShapes Go.Deep Go.ChangeShapes
theorem open_bytes {H : Type} {enc : TypeId × Value → H} {P : Program} {w : World} {base : Nat} {spare : Nat → Bool} {held : Bool} {r : Reach} {b0 : Nat} {t e : TypeId} {v : Value} {d : DataW H} {ps : List MemPlace} (ht : P.underlying t = some (.slice e)) (he : P.underlying e = some (.int .u8)) (hce : P.cellsOf e = 1)
 (hval : Value.okWide P w r b0 t v) (hd : DataW.Trod enc P w base spare held t v d ps) :
 ∃ (p : Option Addr) (n c : Nat) (bs : List Nat),v = .slice p n c ∧ Cs w p (u8s bs) ∧ bs.length = n ∧ ∀ b ∈ bs,b < 256 := by
 obtain ⟨p0,n0,c0,rfl⟩ := okWide_slice ht hval;obtain ⟨fuel,hx⟩ := hd
 cases fuel with
 | zero => simp [DataW.trod] at hx
 | succ k =>
   rcases open_slice ht hx with ⟨hv,_⟩ | ⟨a,ln,cp,m,n',D,Pl,hv,_,hl,hm,hmm,_,hel⟩
   · cases hv
     exact ⟨none,0,0,[],rfl,Cs.nil w none,rfl,fun b hb => by simp at hb⟩
   · have hv : [Value.slice p0 n0 c0] = [.slice (some a) ln cp] := hv
     injection hv with hv _
     injection hv with e1 e2 e3
     subst e1;subst e2;subst e3;have hlm : n0 ≤ m := by rw [hmm];split <;> omega
     obtain ⟨l,hl1,hl2⟩ := choose_list (A := Nat) (R := fun i b => w.cell? (a.add i) = some (.int .u8 (b : Int)) ∧ b < 256) n0 (fun i hi => by
      obtain ⟨cs',h1,h2⟩ := hel i (by omega);obtain ⟨z,rfl,_,hw⟩ := DataW.trod_int he h2;rw [hce,Nat.mul_one] at h1;obtain ⟨_,_,h6⟩ := World.cells?_some h1;have h7 := h6 0 (by omega);rw [Go.Proofs.Ytmbckkcgiafagaa.add_add,Nat.add_zero] at h7;simp only [Lit.wf,Bool.and_eq_true,decide_eq_true_eq] at hw;have hw1 : 0 ≤ z ∧ z ≤ 255 := hw;refine ⟨z.toNat,?_,by omega⟩;rw [h7,Int.toNat_of_nonneg hw1.1];rfl)
     refine ⟨some a,n0,c0,l,rfl,⟨fun i u hu => ?_,fun _ => rfl⟩,hl1,fun b hb => ?_⟩
     · unfold u8s at hu
       rw [List.getElem?_map] at hu
       cases hli : l[i]? with
       | none => rw [hli] at hu;simp at hu
       | some b => rw [hli] at hu;simp at hu;subst hu;exact (hl2 i b hli).1
     · obtain ⟨i,hi,rfl⟩ := List.mem_iff_getElem.1 hb
       exact (hl2 i _ (by simp)).2
end Go.Proofs.Ytmbckkcgiafagaa
