/- A part of the proofs: IsW, IsV, IsX, IsT, OutLt, FusP. -/
import Derived.Test.YtmbckkcgiafagaaZ24FnFuse
import Derived.Test.YtmbckkcgiafagaaZ12FnFuse
import Derived.Test.YtmbckkcgiafagaaZ02FnFuse
import Derived.Test.YtmbckkcgiafagaaZ09FnFuse
import Derived.Test.YtmbckkcgiafagaaZ15FnFuse
import Derived.Test.YtmbckkcgiafagaaZ16FnFuse
import Derived.Test.YtmbckkcgiafagaaZ06FnFuse
import Derived.Test.YtmbckkcgiafagaaZ03FnFuse
import Derived.Test.YtmbckkcgiafagaaZ10FnFuse
import Derived.Test.YtmbckkcgiafagaaZ07FnFuse
import Derived.Test.YtmbckkcgiafagaaZ23FnFuse
set_option linter.unusedSimpArgs false
set_option linter.unusedVariables false
set_option maxRecDepth 100000
set_option maxHeartbeats 16000000
namespace Go.Proofs.Ytmbckkcgiafagaa
open Go.RowKit Go.Proofs.Ytmbckkcgiafagaa.Ex
section
variable {P : Program} {w : World} {ops : Array Oper} {rest : List Oper} {o : Oper} {a : Act} {Q : Exit → Act → World → Prop}
theorem nan_lt64 (t : Nat) : (t % 2) * 2 ^ 63 + 0x7ff0000000000000 + 1 + (t / 2) % (2 ^ 52 - 1) < 18446744073709551616 := by
 have h1 : t % 2 < 2 := Nat.mod_lt _ (by decide);have h2 : (t / 2) % (2 ^ 52 - 1) < 2 ^ 52 - 1 := Nat.mod_lt _ (by decide);omega
theorem wl_widenN {src dst : TypeId} {x : Operand} {b : Nat} (hg : o.guard = none) (ho : o.op = .convert src dst x) (hx : a.eval x = .float .f32 b) (hs : (P.underlying src).isSome = true) (hd : P.underlying dst = some (.float .f64)) (hn : (FloatKind.f32.decode b).isNaN = true)
 (h : ∀ r w',Ext w w' → (FloatKind.f64.decode r).isNaN = true → r < 18446744073709551616 → wpList P ops Q rest (a.put o.dst (.float .f64 r)) w') : wpList P ops Q (o :: rest) a w := by
 obtain ⟨g,f,hgf⟩ := jaf hn;obtain ⟨u,hs'⟩ := Option.isSome_iff_exists.1 hs
 have hrun : (convert src dst (.float .f32 b)).run P w = .ok (.float .f64 ((Question.nanConv .f64 b).cut (w.tape w.drawn (.nanConv .f64 b)))) (w.drewN 1) := by
  cases u <;> simp [convert,run_underlying hs',run_underlying hd,Conv.floatToFloat,hgf,choose,Sem.run,Question.forced,World.drewN]
 exact jbi (v := .float .f64 ((Question.nanConv .f64 b).cut (w.tape w.drawn (.nanConv .f64 b)))) hg (by simp [execOp,ho,hx,hrun]) (h _ _ (Ext.drewN w 1) (cut_nan64 _) (nan_lt64 _))
end
theorem conv_lt {s k : FloatKind} {b r : Nat} (hsk : s ≠ k) (h : floatToFloatBits s b k = some r) : r < 2 ^ k.format.width := by
 unfold floatToFloatBits at h;rw [if_neg hsk] at h
 split at h
 · cases h
 · cases h;exact k.format.write_lt _
 · split at h
   · cases h
   · cases h;exact k.format.write_lt _
theorem run_f64from (n : Int) (w : World) : (callFunc 156 #[.int .u64 n]).run Try.prog w = .ok (.value (.float .f64 n.toNat)) w :=
 run_extern (e := Extern.MathFloatBits.float64frombits) Try.func156 (by kernel_rfl) (by kernel_rfl) (by kernel_rfl) (by kernel_rfl) rfl
theorem run_trunc {x : Nat} (h : (FloatKind.f64.decode x).isNaN = false) (w : World) : (callFunc 131 #[.float .f64 x]).run Try.prog w = .ok (.value (.float .f64 (truncB x))) w := by
 refine run_extern (e := Extern.MathFloor.toIntegral "math.archTrunc" .zero) Try.func131 (by kernel_rfl) (by kernel_rfl) (by kernel_rfl) (by kernel_rfl) ?_;unfold truncB
 have key : Extern.MathFloor.toIntegral "math.archTrunc" .zero #[.float .f64 x] = pure (.float .f64 (FloatKind.f64.encode ((FloatKind.f64.decode x).integral .zero))) := by
  conv => lhs;whnf
  cases hd : FloatKind.f64.decode x with
  | nan s f => rw [hd] at h;cases h
  | infinity s => rfl
  | number s m e => rfl
 rw [key];rfl
theorem Abs_any (r : Nat) (w : World) (hr : r < 18446744073709551616) : Calls Try.prog 130 #[.float .f64 r] w fun e w' => e = .returned (.float .f64 (absB r)) ∧ w' = w := by
 have hx := run_f64bits r;have hy := run_f64from
 have hz : bits .andNot .u64 (r : Int) 9223372036854775808 = ((absB r : Nat) : Int) := by
  rw [u64_andNot _ _ (by omega) (by omega) (by omega) (by omega)];unfold absB;rw [Int.toNat_natCast,show (18446744073709551615 - (9223372036854775808 : Int).toNat) = 2 ^ 63 - 1 by decide,Nat.and_two_pow_sub_one_eq_mod]
 generalize absB r = q at *;go_enter Try.func130,Try.ntmps130;go_wp2;go_ret;exact ⟨by simp,rfl⟩
theorem Trunc_any (x : Nat) (w : World) (h : (FloatKind.f64.decode x).isNaN = false) : Calls Try.prog 86 #[.float .f64 x] w fun e w' => e = .returned (.float .f64 (truncB x)) ∧ w' = w := by
 have hx := run_trunc h;generalize truncB x = q at *;clear h;go_enter Try.func86,Try.ntmps86;go_wp2;go_ret;exact ⟨rfl,rfl⟩
end Go.Proofs.Ytmbckkcgiafagaa
namespace Go.Proofs.Ytmbckkcgiafagaa
open Go.RowKit Go.Proofs.Ytmbckkcgiafagaa.Ex
theorem cn_num {k : FloatKind} {r x : Nat} (h : cn k r = x) (hx : (k.decode x).isNaN = false) : r = x := by
 by_cases hn : (k.decode r).isNaN = true
 · rw [cn_nan hn] at h
   rw [← h,jav] at hx;cases hx
 · rw [jba (by simpa using hn)] at h
   exact h
theorem isNaN_of_num {b : Nat} (hn : (FloatKind.f32.decode b).isNaN = false) : (FloatKind.f64.decode (jam .f32 b .f64)).isNaN = false := by
 cases hd : FloatKind.f32.decode b with
 | nan s f => rw [hd] at hn;cases hn
 | infinity s => rw [widen_inf hd];rfl
 | number s m e => obtain ⟨k,p,g1,_,_⟩ := wide hd;rw [g1];rfl
theorem order_cn1 (x y : Nat) : FloatKind.f32.format.order (cn .f32 x) (FloatKind.f32.nearest y) = FloatKind.f32.format.order x (FloatKind.f32.nearest y) := by
 have := order_cn .f32 x (FloatKind.f32.nearest y)
 rwa [cn_nearest] at this
theorem size_any (b : Nat) (w : World) : Calls Try.prog 85 #[.float .f32 b] w fun e w' => ∃ u,e = .returned (.float .f32 u) ∧ sizeR b u ∧ Ext w w' := by
 by_cases hn : (FloatKind.f32.decode b).isNaN = true
 · have A := hid (fun r W hr => Abs_any r W hr)
   have N1 := hid (fun r => @abs64_nan r);have N2 := hid (fun u => @size_nan b u hn);go_enter Try.func85,Try.ntmps85;go_wp2_with ((with_reducible show gx4);refine wl_widenN rfl rfl rfl (by rw [jaq];rfl) jax hn ?_;intro r w1 e1 h1 h2);refine (A.out r _ h2).mono ?_;rintro e w2 ⟨rfl,rfl⟩
   have h3 := N1.out r h1;have h4 := fover_nan (k' := .f32) (x := cn .f64 (absB r)) (k := .f64) (by rw [jbj];exact h3);go_wp2_with ((with_reducible show gx4);refine wl_conv rfl rfl rfl (by rw [jax];rfl) jaq h4 ?_;intro u w3 e3 h5);go_ret;refine ⟨u,rfl,N2.out u ?_,e1.trans e3⟩;have h6 : (FloatKind.f64.decode (cn .f64 (absB r))).isNaN = true := by rw [jbj];exact h3
   have h7 : (FloatKind.f32.decode (cn .f32 u)).isNaN = true := by
    rw [h5];obtain ⟨s,f,h8⟩ := jaf h6;unfold jam floatToFloatBits;rw [if_neg (by decide),h8];exact jav .f32
   rwa [jbj] at h7
 · have hn' : (FloatKind.f32.decode b).isNaN = false := by simpa using hn
   obtain ⟨s1,s2,s3⟩ := size_num hn';have hlt : jam .f32 b .f64 < 18446744073709551616 := conv_lt (by decide) (widen_some hn');have A := hid (fun W => Abs_any (jam .f32 b .f64) W hlt);have S3 := hid s3;have hx : (FloatKind.f64.decode (jam .f32 b .f64)).isNaN = false := isNaN_of_num hn';have HX := hid (fun r (h : cn .f64 r = jam .f32 (cn .f32 b) .f64) => show r = jam .f32 b .f64 from by rw [jba hn'] at h;exact cn_num h hx)
   have HU := hid (fun r (h : cn .f32 r = jam .f64 (cn .f64 (absB (jam .f32 b .f64))) .f32) => show sizeR b r from by
    rw [jba s2] at h;intro M hM;have := s3 M hM;rw [← h] at this;unfold leqB at this ⊢
    rwa [order_cn1] at this)
   have S1 := hid (show fover .f64 (cn .f64 (absB (jam .f32 b .f64))) .f32 = false by rw [jba s2];exact s1);clear s1 s2 s3 hn hn' hlt hx;go_enter Try.func85,Try.ntmps85;go_wp2_with ((with_reducible show gx4);refine wl_conv rfl rfl rfl (by rw [jaq];rfl) jax (jbd _) ?_;intro r w1 e1 h1;have h2 := HX.out r h1;subst h2;clear h1);refine (A.out _).mono ?_;rintro e w2 ⟨rfl,rfl⟩
   go_wp2_with ((with_reducible show gx4);refine wl_conv rfl rfl rfl (by rw [jax];rfl) jaq S1.out ?_;intro u w3 e3 h5;have HU2 := hid (HU.out u h5);clear h5);go_ret;exact ⟨u,rfl,HU2.out,e1.trans e3⟩
end Go.Proofs.Ytmbckkcgiafagaa
namespace Go.Proofs.Ytmbckkcgiafagaa
open Go.RowKit Go.Proofs.Ytmbckkcgiafagaa.Ex
theorem wholeClos_any (b M : Nat) (q : Addr) (w : World) (hM : M ≤ 1000) (hq : w.cell? q = some (.int .i64 (M : Int))) : Calls Try.prog 84 #[.float .f32 b,.pointer (some q)] w (RetB w (!wB b M)) := by
 have C := hid (fun W => size_any b W);have d1 := (Ext.drew w).cell hq
 cases hl : leS b M
 · rw [wB_le hl]
   have H1 := hid (fun u (h : sizeR b u) => show (FloatKind.f32.format.order u (floatOfInt .f32 (M : Int)) == some .lt || FloatKind.f32.format.order u (floatOfInt .f32 (M : Int)) == some .eq) = false from by
    have := h M hM;rw [hl] at this;exact this)
   obtain ⟨F,hF⟩ : ∃ F : Option Tmp → World → Value → Prop,F = fun _ _ u => ∃ r,u = .float .f32 r ∧ (FloatKind.f32.format.order r (floatOfInt .f32 (M : Int)) == some .lt || FloatKind.f32.format.order r (floatOfInt .f32 (M : Int)) == some .eq) = false := ⟨_,rfl⟩
   have HF := hid hF;clear hF hl hM hq;go_enter Try.func84,Try.ntmps84;go_wp2;refine jab (F := F) (by kernel_rfl) (by kernel_rfl) (by kernel_rfl) ?_;intro wf hwf
   repeat (first
    | ((first | (refine jar rfl ?_) | (refine x_mv rfl rfl rfl ?_) | (refine x_as rfl rfl rfl ?_) | ((with_reducible show gx6);refine jay (f := 85) (args := #[.float .f32 b]) rfl rfl Try.func85 rfl (by kernel_rfl) ?_ ?_ ?_;(focus (simp [Act.eval];done));(focus (intro w1 hw1;exact (by rw [HF.out];exact (C.out w1).mono fun e w3 ⟨u,g1,g2,g3⟩ => ⟨_,g1,g3,u,rfl,H1.out u g2⟩)));rintro u w3 e3 e4 hu;simp only [HF.out] at hu;obtain ⟨r,rfl,hr⟩ := hu));simp only [Act.put,jad,pu1,pu2,pu3,pu4,pu5])
    | (refine ja7 rfl fun K hK w1 hw1 => ?_;have k0 := hw1.cell (d1);go_simp;refine hK _ ?_;clear hK K k0 hw1 w1))
   refine ja6 ?_;go_wp2;go_ret;exact ⟨rfl,(Ext.drew w).trans hwf⟩
 · have H1 := hid (fun u (h : sizeR b u) => show (FloatKind.f32.format.order u (floatOfInt .f32 (M : Int)) == some .lt || FloatKind.f32.format.order u (floatOfInt .f32 (M : Int)) == some .eq) = true from by
    have := h M hM;rw [hl] at this;exact this)
   obtain ⟨t1,t2⟩ := trunc_num hM hl
   have hn' : (FloatKind.f32.decode b).isNaN = false := by
    unfold leS at hl
    cases hd : FloatKind.f32.decode b with
    | nan s f => rw [hd] at hl;cases hl
    | infinity s => rfl
    | number s m e => rfl
   have HX := hid (fun r (h : cn .f64 r = jam .f32 (cn .f32 b) .f64) => show r = jam .f32 b .f64 from by rw [jba hn'] at h;exact cn_num h t1);have T := hid (fun W => Trunc_any (jam .f32 b .f64) W t1);generalize wB b M = wb at *;obtain ⟨F,hF⟩ : ∃ F : Option Tmp → World → Value → Prop,F = fun d _ u => match d with | some 5 => ∃ r,u = .float .f32 r ∧ (FloatKind.f32.format.order r (floatOfInt .f32 (M : Int)) == some .lt || FloatKind.f32.format.order r (floatOfInt .f32 (M : Int)) == some .eq) = true | _ => u = .float .f64 (truncB (jam .f32 b .f64)) := ⟨_,rfl⟩
   have HF := hid hF;have T2 := hid t2;clear hF hl hM hq t1 t2 hn';go_enter Try.func84,Try.ntmps84;go_wp2;refine jab (F := F) (by kernel_rfl) (by kernel_rfl) (by kernel_rfl) ?_;intro wf hwf
   repeat (first
    | ((first | (refine jar rfl ?_) | (refine x_mv rfl rfl rfl ?_) | (refine x_as rfl rfl rfl ?_) | ((refine x_conv rfl rfl rfl (by rw [jaq];rfl) jax (jbd _) ?_;intro r1 hr1;have h2 := HX.out r1 hr1;subst h2;clear hr1)) | ((with_reducible show gx6);first | (refine jay (f := 86) (args := #[.float .f64 (jam .f32 b .f64)]) rfl rfl Try.func86 rfl (by kernel_rfl) ?_ ?_ ?_;(focus (simp [Act.eval];done));(focus (intro w1 hw1;exact (by rw [HF.out];exact (T.out w1).mono fun e w3 ⟨g1,g2⟩ => ⟨_,g1,by rw [g2];exact Ext.refl _,rfl⟩)));rintro u w3 e3 e4 hu;simp only [HF.out] at hu;subst hu) | (refine jay (f := 85) (args := #[.float .f32 b]) rfl rfl Try.func85 rfl (by kernel_rfl) ?_ ?_ ?_;(focus (simp [Act.eval];done));(focus (intro w1 hw1;exact (by rw [HF.out];exact (C.out w1).mono fun e w3 ⟨u,g1,g2,g3⟩ => ⟨_,g1,g3,u,rfl,H1.out u g2⟩)));rintro u w3 e3 e4 hu;simp only [HF.out] at hu;obtain ⟨r,rfl,hr⟩ := hu)));simp only [Act.put,jad,pu1,pu2,pu3,pu4,pu5])
    | (refine ja7 rfl fun K hK w1 hw1 => ?_;have k0 := hw1.cell (d1);go_simp;refine hK _ ?_;clear hK K k0 hw1 w1))
   refine ja6 ?_;have t3 := T2.out;go_wp2;go_ret;exact ⟨by rw [← t3];rfl,(Ext.drew w).trans hwf⟩
end Go.Proofs.Ytmbckkcgiafagaa
namespace Go.Proofs.Ytmbckkcgiafagaa.lIsWhole
open Go.RowKit Go.Proofs.Ytmbckkcgiafagaa.Ex
def res (d : jaa.T) (m : Int) : Bool := layD d && (inB m 1 1000 && ((d.2.2.2.1 : List Nat).all (fun x => wB x m.toNat) && (d.2.2.2.2.1 : List Nat).all (fun x => wB x m.toNat)))
theorem any_app {ws bs : List Nat} {M : Nat} : anyTo (fun i => !wB ((ws ++ bs).getD i 0) M) (ws.length + bs.length) = !(ws.all (fun x => wB x M) && bs.all (fun x => wB x M)) := by
 rw [← List.all_append,← List.length_append];generalize ws ++ bs = xs
 cases h : xs.all (fun x => wB x M)
 · rw [Bool.not_false,anyTo_true]
   rw [List.all_eq_false] at h;obtain ⟨x,hx,hf⟩ := h;obtain ⟨i,hi,rfl⟩ := List.mem_iff_getElem.1 hx;exact ⟨i,hi,by simpa [hi] using hf⟩
 · rw [Bool.not_true]
   refine anyTo_false fun i hi => ?_
   rw [List.all_eq_true] at h;have := h xs[i] (by simp);simp [hi,this]
theorem f32s_app {u v : List Value} {a b : List Nat} (h : F32s u a) (k : F32s v b) : F32s (u ++ v) (a ++ b) := by
 refine ⟨by simp [h.1,k.1],fun i hi => ?_⟩
 by_cases hl : i < a.length
 · obtain ⟨r,h1,h2⟩ := h.2 i hl
   exact ⟨r,by rw [List.getElem?_append_left (by rw [h.1];exact hl)];exact h1,by rw [h2,List.getD_eq_getElem?_getD,List.getD_eq_getElem?_getD,List.getElem?_append_left hl]⟩
 · have hi2 : i - a.length < b.length := by rw [List.length_append] at hi;omega
   obtain ⟨r,h1,h2⟩ := k.2 (i - a.length) hi2;exact ⟨r,by rw [List.getElem?_append_right (by rw [h.1];omega),h.1];exact h1,by rw [h2,List.getD_eq_getElem?_getD,List.getD_eq_getElem?_getD,List.getElem?_append_right (by omega)]⟩
theorem layB_len {k i o : Int} {nw nb : Nat} (h : layB k i o nw nb = true) : nw ≤ 64 ∧ nb ≤ 64 := by
 unfold layB at h;simp only [Bool.and_eq_true,decide_eq_true_eq,jas,Bool.or_eq_true] at h;obtain ⟨h1,h2,h3,h4,h5,h6⟩ := h;have hm := mul_bd h2 h3;unfold wCnt at h5;unfold bCnt at h6
 constructor
 · revert h5;repeat' split
   all_goals omega
 · revert h6;repeat' split
   all_goals omega
theorem impl_ok (cs0 : List Value) (D0 : jaa.T) (m : Int) (w : World) (h0 : Rep w jaa cs0 D0) (f0 : Fit jaa D0) (_ : Fit .int m) : Calls Try.prog 42 #[ofCs jaa cs0,.int .i64 m] w (RetB w (res D0 m)) := by
 obtain ⟨pw,cw,pb,cb,uw,ub,rfl,⟨x1,x2,x3⟩,⟨y1,y2,y3⟩⟩ := lay_full h0;obtain ⟨_,_,_,_,hcs,l1,l2⟩ := lay_vals h0;clear hcs;obtain ⟨d1,d2,d3,ws,bs,du⟩ := D0;dsimp only at *;simp only [ofCs,Sh.agg,if_true];have C0 := hid (fun W => jbm d1 d2 d3 pw pb _ cw _ cb W l1 l2);unfold res layD;dsimp only;obtain ⟨W0,hW⟩ : ∃ W0,W0 = (w.alloc (.cells #[.int .i64 d1,.int .i64 d2,.int .i64 d3,.slice pw ws.length cw,.slice pb bs.length cb] 41)).alloc (.cells #[.int .i64 m] 2) := ⟨_,rfl⟩;obtain ⟨E0,s0,b0,b1⟩ := box2 hW;have b0 : HB W0 w.heap.size #[.int .i64 d1,.int .i64 d2,.int .i64 d3,.slice pw ws.length cw,.slice pb bs.length cb] 41 := b0;have b1 : HB W0 (w.heap.size + 1) #[.int .i64 m] 2 := b1;have k0 := b0.cell 0 rfl;have k1 := b0.cell 1 rfl;have k2 := b0.cell 2 rfl;have k3 := b0.cell 3 rfl;have k4 := b0.cell 4 rfl;have k5 := b1.cell 0 rfl
 by_cases hb : layB d1 d2 d3 ws.length bs.length = true
 rotate_left
 · have hb : layB d1 d2 d3 ws.length bs.length = false := by simpa using hb
   rw [hb,Bool.false_and];rw [hb] at C0;clear x1 x2 x3 y1 y2 y3 hb;generalize ws.length = nw at *;generalize bs.length = nb at *;go_enter Try.func42,Try.ntmps42;go_wp2_with fail;rw [← hW];clear hW;refine (C0.out _).mono ?_;rintro e w1 ⟨rfl,e1⟩
   go_wp2;go_ret;exact ⟨rfl,E0.trans e1⟩
 rw [hb] at C0;rw [hb,Bool.true_and]
 cases hi : inB m 1 1000
 · rw [Bool.false_and]
   clear x1 x2 x3 y1 y2 y3 hb;generalize ws.length = nw at *;generalize bs.length = nb at *;go_enter Try.func42,Try.ntmps42;go_wp2_with fail;rw [← hW];clear hW;refine (C0.out _).mono ?_;rintro e w1 ⟨rfl,e1⟩
   have k6 := (b1.ext e1).cell 0 rfl;go_wp2_with fail;refine (jau _ _ _ _).mono ?_;rintro e w2 ⟨rfl,rfl⟩
   rw [hi];go_wp2;go_ret;exact ⟨rfl,E0.trans e1⟩
 have hm := jas.1 hi;obtain ⟨M,rfl⟩ : ∃ M : Nat,m = M := ⟨m.toNat,by omega⟩;rw [Int.toNat_natCast,Bool.true_and];have hw1 := layB_len hb;have G := hid (fun W (b : Nat) (h : Ext w W) z0 z1 => concatF_any b pw pb _ cw _ cb uw ub W (x1.ext h) (y1.ext h) x2.1 y2.1 x2.one y2.one x3 y3 (by omega) z0 z1)
 have C := hid (fun W (q k : _) (h1 : Cs W q (uw ++ ub)) (h2 : W.cell? ⟨w.heap.size + 1,0,none⟩ = some (.int .i64 (M : Int))) => containsFuncF32_any 84 #[.pointer (some ⟨w.heap.size + 1,0,none⟩)] (by intro args w;kernel_rfl) q (ws.length + bs.length) k (uw ++ ub) (fun i => !wB ((ws ++ bs).getD i 0) M) W (by rw [List.length_append,x2.1,y2.1]) (by unfold maxLen;omega) h1 (by
  intro i u W2 hu h2';have hf := f32s_app x2 y2;have hi : i < (ws ++ bs).length := by rw [← hf.1];exact (List.getElem?_eq_some_iff.1 hu).1
  obtain ⟨b,h3,h4⟩ := hf.2 i hi;rw [hu] at h3
  cases h3
  have := wholeClos_any b M ⟨w.heap.size + 1,0,none⟩ W2 (by omega) (h2'.cell h2);rw [← wB_cn b,h4] at this;exact this))
 rw [any_app] at C;clear x1 x2 x3 y1 y2 y3 hb hw1;generalize ((ws.all fun x => wB x M) && (bs.all fun x => wB x M)) = r at *;generalize ws.length = nw at *;generalize bs.length = nb at *;go_enter Try.func42,Try.ntmps42;go_wp2_with fail;rw [← hW];clear hW;refine (C0.out _).mono ?_;rintro e w1 ⟨rfl,e1⟩
 have k6 := (b1.ext e1).cell 0 rfl;have k7 := (b0.ext e1).cell 3 rfl;have k8 := (b0.ext e1).cell 4 rfl;go_wp2_with fail;refine (jau _ _ _ _).mono ?_;rintro e w2 ⟨rfl,rfl⟩
 rw [hi];go_wp2_with fail;have eG := e1.trans (Ext.alloc w1 (.cells #[.slice pw nw cw,.slice pb nb cb] 25));refine (G.out _ _ (E0.trans eG) ((HB.new w1 #[.slice pw nw cw,.slice pb nb cb] 25).cell 0 rfl) ((HB.new w1 #[.slice pw nw cw,.slice pb nb cb] 25).cell 1 rfl)).mono ?_;rintro e w3 ⟨q,k,rfl,own3,e3⟩
 go_wp2_with fail;refine (C.out _ q k (jbl own3).cs ((b1.ext (eG.trans e3)).cell 0 rfl)).mono ?_;rintro e w4 ⟨rfl,e4⟩
 go_wp2;go_ret;exact ⟨by simp,E0.trans (eG.trans (e3.trans e4))⟩
end Go.Proofs.Ytmbckkcgiafagaa.lIsWhole
namespace Go.Proofs.Ytmbckkcgiafagaa
open Go.RowKit
theorem fconv_lt (x : Nat) : jam .f64 x .f32 < 4294967296 := by
 unfold jam
 cases h : floatToFloatBits .f64 x .f32 with
 | none => decide
 | some r =>
   show r < 4294967296;unfold floatToFloatBits at h;rw [if_neg (by decide)] at h
   cases hd : FloatKind.f64.decode x with
   | nan s f => rw [hd] at h;simp at h
   | infinity s =>
     rw [hd] at h;have h2 : r = FloatKind.f32.encode (.infinity s) := by simpa using h.symm
     rw [h2];exact write_lt (d := .infinity s) rfl
   | number s m e =>
     rw [hd] at h
     have h2 : r = (Ieee.single).write (.number s m e) := by
      simp only at h
      split at h
      · cases h
      · injection h with h;exact h.symm
     rw [h2];exact write_lt rfl
theorem lt_tab {n : Nat} {f : Nat → Nat} (h : ∀ i,f i < 4294967296) : ∀ x ∈ tab n f,x < 4294967296 := by
 intro x hx;unfold tab at hx;obtain ⟨i,_,rfl⟩ := List.mem_map.1 hx;exact h i
theorem lt_getD {xs : List Nat} (h : ∀ x ∈ xs,x < 4294967296) (i : Nat) : xs.getD i 0 < 4294967296 := by
 by_cases hi : i < xs.length
 · rw [show xs.getD i 0 = xs[i] by simp [hi]];exact h _ (List.getElem_mem hi)
 · rw [List.getD_eq_getElem?_getD,List.getElem?_eq_none (by omega)];decide
theorem lt_lay (d : jaa.T) {xs : List Nat} (h : ∀ x ∈ xs,x < 4294967296) : ∀ x ∈ layF d xs,x < 4294967296 := by
 unfold layF runF
 split
 · exact lt_tab fun i => fop_lt _ _ _
 · split
   · exact lt_tab fun i => fop_lt _ _ _
   · refine lt_tab fun i => ?_
     unfold rO
     split
     · exact fop_lt _ _ _
     · split
       · unfold reluF
         split
         · exact lt_getD h i
         · decide
       · split
         · exact fop_lt _ _ _
         · unfold tanF
           split
           · decide
           · split
             · decide
             · exact fconv_lt _
theorem lt_cur (l : List jaa.T) {x : List Nat} (h : ∀ y ∈ x,y < 4294967296) : ∀ i,∀ y ∈ curF l x i,y < 4294967296 := by
 intro i;unfold curF;generalize l.take i = t
 induction t generalizing x with
 | nil => exact h
 | cons d t ih => exact ih (lt_lay d h)
end Go.Proofs.Ytmbckkcgiafagaa
namespace Go.Proofs.Ytmbckkcgiafagaa
open Go.RowKit Ex
theorem iz0_32 : IZ .f32 0 0 := ⟨false,0,-149,by decide +kernel,by decide,.inl rfl,by rw [vs_zero,Int.zero_mul]⟩
theorem iz_of_cn {k : FloatKind} {b : Nat} {n : Int} (h : IZ k (cn k b) n) : IZ k b n := by
 have h1 := iz_notNaN h;rw [jbj] at h1
 rwa [jba h1] at h
theorem SZ_zero : ∀ n,SZ (fun _ => 0) n = 0
 | 0 => rfl
 | n + 1 => by simp [SZ,SZ_zero n]
theorem SZ_add (f g : Nat → Int) : ∀ n,SZ (fun t => f t + g t) n = SZ f n + SZ g n
 | 0 => rfl
 | n + 1 => by simp only [SZ];rw [SZ_add f g n];omega
theorem SZ_mul (c : Int) (f : Nat → Int) : ∀ n,SZ (fun t => c * f t) n = c * SZ f n
 | 0 => by simp [SZ]
 | n + 1 => by simp only [SZ];rw [SZ_mul c f n,Int.mul_add]
theorem SZ_swap (c g : Nat → Int) (a : Nat → Nat → Int) (x : Nat → Int) (n : Nat) : ∀ m,SZ (fun k => c k * (SZ (fun i => a k i * x i) n + g k)) m = SZ (fun i => SZ (fun k => c k * a k i) m * x i) n + SZ (fun k => c k * g k) m
 | 0 => by
   have h : SZ (fun i => SZ (fun k => c k * a k i) 0 * x i) n = 0 := by
    rw [← SZ_zero n];exact SZ_congr n fun i _ => by simp [SZ]
   rw [h];rfl
 | m + 1 => by
   have h : SZ (fun i => SZ (fun k => c k * a k i) (m + 1) * x i) n = SZ (fun i => SZ (fun k => c k * a k i) m * x i) n + c m * SZ (fun i => a m i * x i) n := by
    rw [← SZ_mul,← SZ_add];exact SZ_congr n fun i _ => by simp only [SZ];rw [Int.add_mul,Int.mul_assoc]
   rw [h];simp only [SZ];rw [SZ_swap c g a x n m,Int.mul_add];omega
theorem dotG_iz {f g : Nat → Nat} {F G : Nat → Int} {B : Nat} : ∀ {n : Nat},(∀ t,t < n → IZ .f32 (f t) (F t) ∧ IZ .f32 (g t) (G t) ∧ (F t * G t).natAbs ≤ B) → n * B < 16777216 → IZ .f32 (dotG f g n) (SZ (fun t => F t * G t) n)
 | 0,_,_ => iz0_32
 | n + 1,h,hB => by
   have hn : n * B + B < 16777216 := by rw [Nat.succ_mul] at hB;exact hB
   obtain ⟨a,b,c⟩ := h n (by omega);have hs : (SZ (fun t => F t * G t) n).natAbs ≤ n * B := SZ_bd n fun t ht => (h t (by omega)).2.2
   refine iz_add (dotG_iz (fun t ht => h t (by omega)) (by omega)) (iz_mul a b (by omega)) ?_;show (SZ (fun t => F t * G t) n + F n * G n).natAbs < 2 ^ 24;have : (2 : Nat) ^ 24 = 16777216 := by decide
   omega
def denZ (fa ga fx : Nat → Int) (n o : Nat) : Int := SZ (fun t => fa (o * n + t) * fx t) n + ga o
theorem dense_iz {n m B G : Nat} {ws bs xs : List Nat} {fa ga fx : Nat → Int} (hw : ∀ i,i < m * n → IZ .f32 (ws.getD i 0) (fa i)) (hb : ∀ i,i < m → IZ .f32 (bs.getD i 0) (ga i) ∧ (ga i).natAbs ≤ G) (hx : ∀ t,t < n → IZ .f32 (xs.getD t 0) (fx t)) (hB : ∀ i,i < m * n → ∀ t,t < n → (fa i * fx t).natAbs ≤ B) (hlt : n * B + G < 16777216) :
 ∀ o,o < m → IZ .f32 ((tab m (rO 0 n ws bs xs)).getD o 0) (denZ fa ga fx n o) ∧ (denZ fa ga fx n o).natAbs ≤ n * B + G := by
 intro o ho;rw [tab_get _ ho];unfold rO;rw [if_pos rfl];obtain ⟨h1,h2⟩ := hb o ho;have hs : (SZ (fun t => fa (o * n + t) * fx t) n).natAbs ≤ n * B := SZ_bd n fun t ht => hB _ (row_lt ho ht) t ht
 have : (2 : Nat) ^ 24 = 16777216 := by decide
 have hz : (denZ fa ga fx n o).natAbs ≤ n * B + G := by unfold denZ;omega
 refine ⟨?_,hz⟩;unfold denZ at hz ⊢;exact iz_add (dotG_iz (fun t ht => ⟨hw _ (row_lt ho ht),hx t ht,hB _ (row_lt ho ht) t ht⟩) (by omega)) h1 (by omega)
theorem zl_of {zs : List Int} {M : Nat} (hM : M ≤ 1000) (h : ∀ z ∈ zs,-(M : Int) ≤ z ∧ z ≤ M) : ZL (zs.map FloatKind.f32.nearest) (fun i => zs.getD i 0) M := by
 intro i hi;rw [List.length_map] at hi;have h1 := h zs[i] (List.getElem_mem hi);have e : zs.getD i 0 = zs[i] := by simp [hi]
 have e2 : (zs.map FloatKind.f32.nearest).getD i 0 = FloatKind.f32.nearest zs[i] := by simp [hi]
 have : (2 : Nat) ^ 24 = 16777216 := by decide
 rw [e2];simp only [e];exact ⟨iz_near .f32 (by omega),by omega⟩
theorem wb_iz {b M : Nat} {n : Int} (h : IZ .f32 b n) (hn : n.natAbs ≤ M) : wB b M = true := by
 obtain ⟨s,m,i,h1,_,_,h4⟩ := h;have h5 := vs_abs s m i;rw [h4,Int.natAbs_mul] at h5;have h6 : vm m i = n.natAbs * U := h5.symm;unfold wB;rw [h1];simp only [h6,Bool.and_eq_true,decide_eq_true_eq];exact ⟨Nat.mul_le_mul_right _ hn,by rw [Nat.mul_div_cancel _ U_pos]⟩
theorem whole_res {d : jaa.T} {f g : Nat → Int} (hd : layD d = true) (h1 : ZL d.2.2.2.1 f 8) (h2 : ZL d.2.2.2.2.1 g 8) : lIsWhole.res d 8 = true := by
 have all : ∀ {xs : List Nat} {f : Nat → Int},ZL xs f 8 → xs.all (fun x => wB x (8 : Int).toNat) = true := fun {xs f} h => by
  rw [List.all_eq_true];intro x hx;obtain ⟨i,hi,rfl⟩ := List.mem_iff_getElem.1 hx;obtain ⟨a,b⟩ := h i hi;rw [show xs.getD i 0 = xs[i] by simp [hi]] at a;exact wb_iz a b
 unfold lIsWhole.res;rw [hd,all h1,all h2];rfl
theorem fused_eq {A C O : Nat} (hA : A ≤ 4) (hC : C ≤ 4) {wa ba wb bb xs wf bf : List Nat} {fa ga fb gb fx : Nat → Int}
 (l1 : wa.length = C * A) (z1 : ZL wa fa 8) (l2 : ba.length = C) (z2 : ZL ba ga 8) (l3 : wb.length = O * C) (z3 : ZL wb fb 8) (l4 : bb.length = O) (z4 : ZL bb gb 8) (lx : xs.length = A) (zx : ZL xs fx 8)
 (zw : ZF wf (O * A) (fun j => SZ (fun t => fb (j / A * C + t) * fa (t * A + j % A)) C)) (zb : ZF bf O (fun o => SZ (fun t => fb (o * C + t) * ga t) C + gb o)) :
 ∀ o,o < O → ∃ z : Int,IZ .f32 ((tab O (rO 0 C wb bb (tab C (rO 0 A wa ba xs)))).getD o 0) z ∧ IZ .f32 ((tab O (rO 0 A wf bf xs)).getD o 0) z := by
 have mul8 : ∀ {a b : Int} {m n : Nat},a.natAbs ≤ m → b.natAbs ≤ n → (a * b).natAbs ≤ m * n := fun {a b m n} ha hb => by rw [Int.natAbs_mul];exact Nat.mul_le_mul ha hb
 have bA : A * 64 ≤ 256 := by omega
 have hy := dense_iz (n := A) (m := C) (B := 64) (G := 8) (fa := fa) (ga := ga) (fx := fx) (ws := wa) (bs := ba) (xs := xs) (fun i hi => (z1 i (by rw [l1];exact hi)).1) (fun i hi => z2 i (by rw [l2];exact hi)) (fun t ht => (zx t (by rw [lx];exact ht)).1) (fun i hi t ht => mul8 (z1 i (by rw [l1];exact hi)).2 (zx t (by rw [lx];exact ht)).2) (by omega);have bC : C * 2112 ≤ 8448 := by omega
 have hz := dense_iz (n := C) (m := O) (B := 2112) (G := 8) (fa := fb) (ga := gb) (fx := denZ fa ga fx A) (ws := wb) (bs := bb) (xs := tab C (rO 0 A wa ba xs)) (fun i hi => (z3 i (by rw [l3];exact hi)).1) (fun i hi => z4 i (by rw [l4];exact hi)) (fun t ht => (hy t ht).1) (fun i hi t ht => Nat.le_trans (mul8 (m := 8) (n := 264) (z3 i (by rw [l3];exact hi)).2 (Nat.le_trans (hy t ht).2 (by omega))) (by decide)) (by omega)
 have bW : ∀ j,j < O * A → (SZ (fun t => fb (j / A * C + t) * fa (t * A + j % A)) C).natAbs ≤ C * 64 := fun j hj => SZ_bd C fun t ht => by
  have hA0 : 0 < A := by
   rcases Nat.eq_zero_or_pos A with h | h
   · rw [h,Nat.mul_zero] at hj;omega
   · exact h
  have hd : j / A < O := by rw [Nat.div_lt_iff_lt_mul hA0];exact hj
  exact mul8 (z3 _ (by rw [l3];exact row_lt hd ht)).2 (z1 _ (by rw [l1];exact row_lt ht (Nat.mod_lt _ hA0))).2
 have bG : ∀ o,o < O → (SZ (fun t => fb (o * C + t) * ga t) C + gb o).natAbs ≤ 264 := fun o ho => by
  have h1 : (SZ (fun t => fb (o * C + t) * ga t) C).natAbs ≤ C * 64 := SZ_bd C fun t ht => mul8 (z3 _ (by rw [l3];exact row_lt ho ht)).2 (z2 t (by rw [l2];exact ht)).2
  have h2 := (z4 o (by rw [l4];exact ho)).2;omega
 have bA2 : A * 2048 ≤ 8192 := by omega
 have hf := dense_iz (n := A) (m := O) (B := 2048) (G := 264) (fa := fun j => SZ (fun t => fb (j / A * C + t) * fa (t * A + j % A)) C) (ga := fun o => SZ (fun t => fb (o * C + t) * ga t) C + gb o) (fx := fx) (ws := wf) (bs := bf) (xs := xs) (fun i hi => zw.2 i hi) (fun i hi => ⟨zb.2 i hi,bG i hi⟩) (fun t ht => (zx t (by rw [lx];exact ht)).1) (fun i hi t ht => Nat.le_trans (mul8 (m := 256) (n := 8) (Nat.le_trans (bW i hi) (by omega)) (zx t (by rw [lx];exact ht)).2) (by omega)) (by omega);intro o ho;refine ⟨_,(hz o ho).1,?_⟩
 have e : denZ (fun j => SZ (fun t => fb (j / A * C + t) * fa (t * A + j % A)) C) (fun o => SZ (fun t => fb (o * C + t) * ga t) C + gb o) fx A o = denZ fb gb (denZ fa ga fx A) C o := by
  unfold denZ;rw [SZ_swap (fun k => fb (o * C + k)) ga (fun k i => fa (k * A + i)) fx A C]
  have h : SZ (fun t => SZ (fun t_1 => fb ((o * A + t) / A * C + t_1) * fa (t_1 * A + (o * A + t) % A)) C * fx t) A = SZ (fun i => SZ (fun k => fb (o * C + k) * fa (k * A + i)) C * fx i) A := SZ_congr A fun i hi => by
   obtain ⟨h1,h2⟩ := div_mod_at (i := o) hi;rw [h1,h2]
  rw [h];dsimp only;omega
 rw [← e];exact (hf o ho).1
/-! A model that is split. -/
theorem modGo_mk : ∀ {l : List jaa.T} {p : Option Int},(∀ i (h : i < l.length),layD l[i] = true) → (∀ i (h : i + 1 < l.length),l[i + 1].2.1 = (l[i]'(by omega)).2.2.1) → (∀ (h : 0 < l.length),linkL p l[0].2.1 = true) → modGo p l = true
 | [],_,_,_,_ => rfl
 | d :: t,p,h1,h2,h3 => by
   simp only [modGo,Bool.and_eq_true];refine ⟨h1 0 (by simp),h3 (by simp),modGo_mk (fun i hi => h1 (i + 1) (by simpa using hi)) (fun i hi => h2 (i + 1) (by simpa using hi)) fun h => ?_⟩;simp only [linkL,decide_eq_true_eq];exact h2 0 (by simpa using h)
theorem modB_mk {l : List jaa.T} (h0 : 1 ≤ l.length) (h6 : l.length ≤ 6) (h1 : ∀ i (h : i < l.length),layD l[i] = true) (h2 : ∀ i (h : i + 1 < l.length),l[i + 1].2.1 = (l[i]'(by omega)).2.2.1) : modB l = true := by
 unfold modB;rw [modGo_mk h1 h2 fun _ => rfl,decide_eq_true h0,decide_eq_true h6];rfl
theorem split_facts {L : List jaa.T} (hM : ModOk L) {a : Nat} (h1 : 1 ≤ a) (h2 : a < L.length) :
 modB (L.take a) = true ∧ modB (L.drop a) = true ∧ inL (L.take a) 0 = inL L 0 ∧ inL (L.drop a) 0 = outL (L.take a) ∧ outL (L.drop a) = outL L := by
 have h6 := hM.few;have lt : (L.take a).length = a := by rw [List.length_take];omega
 have ld : (L.drop a).length = L.length - a := by rw [List.length_drop]
 refine ⟨modB_mk (by omega) (by omega) (fun i hi => ?_) (fun i hi => ?_),modB_mk (by omega) (by omega) (fun i hi => ?_) (fun i hi => ?_),?_,?_,?_⟩
 · rw [List.getElem_take];exact hM.lay i (by omega)
 · rw [List.getElem_take,List.getElem_take];exact hM.link i (by omega)
 · rw [List.getElem_drop];exact hM.lay (a + i) (by omega)
 · rw [List.getElem_drop,List.getElem_drop];exact hM.link (a + i) (by omega)
 · unfold inL
   rw [List.getElem?_take_of_lt (by omega)]
 · unfold inL outL
   rw [lt,List.getElem?_take_of_lt (by omega),List.getElem?_drop,List.getElem?_eq_getElem (by omega),List.getElem?_eq_getElem (by omega)];have := hM.link (a - 1) (by omega);simp only [Option.map_some,Option.getD_some,Nat.add_zero];have e : a - 1 + 1 = a := by omega
   simp only [e] at this;exact this
 · unfold outL
   rw [ld,List.getElem?_drop,show a + (L.length - a - 1) = L.length - 1 by omega]
theorem curF_split (L : List jaa.T) (x : List Nat) (a : Nat) : curF (L.drop a) (curF (L.take a) x (L.take a).length) (L.drop a).length = curF L x L.length := by
 unfold curF;rw [List.take_length,List.take_length,List.take_length,← List.foldl_append,List.take_append_drop]
theorem rowsM_split {L : List jaa.T} (hM : ModOk L) {a : Nat} (h1 : 1 ≤ a) (h2 : a < L.length) {xs : List Nat} {I O1 R : Nat} (hI : (I : Int) = inL L 0) (hO : (O1 : Int) = outL (L.take a)) (hx : xs.length = R * I) :
 rowsM (L.drop a) (rowsM (L.take a) xs I R) O1 R = rowsM L xs I R := by
 obtain ⟨k1,k2,k3,k4,k5⟩ := split_facts hM h1 h2;unfold rowsM
 congr 1
 refine List.map_congr_left fun i hi => ?_
 have hi : i < R := by simpa using hi
 have h := lCountCorrect.rowT_rowsM (modOk k1) (hI.trans k3.symm) hO hx hi;unfold rowsM at h;rw [h,curF_split]
end Go.Proofs.Ytmbckkcgiafagaa
