/- A part of the proofs: TnL10, TnM, TnN, TnO. -/
import Derived.Test.YtmbckkcgiafagaaZ19FnMode
import Derived.Test.YtmbckkcgiafagaaZ20FnMode
import Derived.Test.YtmbckkcgiafagaaZ21FnMode
set_option linter.unusedSimpArgs false
set_option linter.unusedVariables false
set_option maxRecDepth 100000
set_option maxHeartbeats 16000000
namespace Go.Proofs.Ytmbckkcgiafagaa
open Go.RowKit
theorem parts_10 (fg : List Nat) (a b z : Nat) (oc : List Value) (cg' cv' cw' : List Value) (sg sv sw : Nat × Nat) (g v u : jaa.T) (w : World) (hg : TenAtB fg w cg' sg g) (hv : jbg w cv' sv v) (hw : jbg w cw' sw u) (hsg : jam sg) (hsv : jam sv) (hsw : jam sw)  (ho : Rep w shOp oc (mkOp 10 a b z t0)) :
 Calls Try.prog 112 #[ofCs shOp oc,ofCs jaa cg',ofCs jaa cv',ofCs jaa cw'] w (jba fg w (partA 10 z g v u) (partB 10 g v u)) := by
 obtain ⟨zb,ct,rfl,hz,ht⟩ := ja3 ho;obtain ⟨qt,ct',ut,rfl,hpt,_⟩ := jay ht;obtain ⟨qg,kg,ug,gs,rfl,rfl,lg,h1B,h2,h3,h4⟩ := hg;have h1 : Cs w qg ug := h1B w (fun _ => False) (fun _ _ h => h.elim) (Chg.refl _ _);obtain ⟨qv,kv,uv,xs,rfl,rfl,lv,g1,g2,g3,g4⟩ := hv;obtain ⟨qw,kw,uw,ys,rfl,rfl,lw,f1,f2,f3,f4⟩ := hw;obtain ⟨rg,cg⟩ := sg;obtain ⟨rv,cv⟩ := sv;obtain ⟨rw,cw⟩ := sw;obtain ⟨i1,i2,i3,i4⟩ := hsg;obtain ⟨j1,j2,j3,j4⟩ := hsv;obtain ⟨l1,l2,l3,l4⟩ := hsw;dsimp only at lg lv lw h3 g3 f3 i1 i2 i3 i4 j1 j2 j3 j4 l1 l2 l3 l4 ⊢;obtain ⟨Ng,hNg⟩ : ∃ N,N = rg * cg := ⟨_,rfl⟩;obtain ⟨Nv,hNv⟩ : ∃ N,N = rv * cv := ⟨_,rfl⟩;obtain ⟨Nw,hNw⟩ : ∃ N,N = rw * cw := ⟨_,rfl⟩;have hNg2 : Ng ≤ 256 := by rw [hNg];exact Nat.mul_le_mul i2 i4
 have hNv2 : Nv ≤ 256 := by rw [hNv];exact Nat.mul_le_mul j2 j4
 have hNw2 : Nw ≤ 256 := by rw [hNw];exact Nat.mul_le_mul l2 l4
 have hNg1 : 1 ≤ Ng := by rw [hNg];exact Nat.mul_le_mul i1 i3
 have hNw1 : 1 ≤ Nw := by rw [hNw];exact Nat.mul_le_mul l1 l3
 rw [← hNg] at lg h3;rw [← hNv] at lv g3;rw [← hNw] at lw f3;simp only [ofCs,Sh.agg,if_true,List.cons_append,List.nil_append,t0,List.length_nil,← hNg,← hNv,← hNw];obtain ⟨b0,hb0,hb1⟩ := h2.2 0 (by omega);obtain ⟨fl,hfl⟩ : ∃ l,l = List.replicate (rv * cv) ((gs : List Nat).getD 0 0) := ⟨_,rfl⟩;have HLfl : Hid (fl.length = Nv) := hid (by rw [hfl,List.length_replicate,hNv]);have HEfl := hid hfl;have HB0 := hid hb0;have hisg : qg.isSome = true := h1.isS (by intro h0;have := h2.1;rw [h0] at this;simp at this;omega);have KF : Hid (∀ W,Calls Try.prog 111 #[.int .i64 rv,.int .i64 cv,.float .f32 b0] W (jao W rv cv fl)) := hid (fun W => by have h := filledN_any rv cv b0 W j1 j2 j3 j4;rw [hb1] at h;rw [hfl];exact h);obtain ⟨W0,hW0⟩ : ∃ W0,W0 = (((((w.alloc (.cells #[.int .i64 10,.int .i64 a,.int .i64 b,.float .f32 zb,.int .i64 0,.int .i64 0,.slice qt 0 ct'] 98)).alloc (.cells #[.int .i64 rg,.int .i64 cg,.slice qg Ng kg] 27)).alloc (.cells #[.int .i64 rv,.int .i64 cv,.slice qv Nv kv] 27)).alloc (.cells #[.int .i64 rw,.int .i64 cw,.slice qw Nw kw] 27)).alloc (.cells #[.int .i64 0,.int .i64 0,.slice none 0 0] 27)).alloc (.cells #[.int .i64 0,.int .i64 0,.slice none 0 0] 27) := ⟨_,rfl⟩;obtain ⟨W3,hW3⟩ : ∃ W3,W3 = ((w.alloc (.cells #[.int .i64 10,.int .i64 a,.int .i64 b,.float .f32 zb,.int .i64 0,.int .i64 0,.slice qt 0 ct'] 98)).alloc (.cells #[.int .i64 rg,.int .i64 cg,.slice qg Ng kg] 27)).alloc (.cells #[.int .i64 rv,.int .i64 cv,.slice qv Nv kv] 27) := ⟨_,rfl⟩;obtain ⟨E3,s3,b0,b1,b2⟩ := box3 hW3;have hW6 : W0 = ((W3.alloc (.cells #[.int .i64 rw,.int .i64 cw,.slice qw Nw kw] 27)).alloc (.cells #[.int .i64 0,.int .i64 0,.slice none 0 0] 27)).alloc (.cells #[.int .i64 0,.int .i64 0,.slice none 0 0] 27) := by rw [hW0,← hW3]
 obtain ⟨E6,s6,b3,b4,b5⟩ := box3 hW6;rw [s3] at b3 b4 b5;have B0 : HB W0 w.heap.size #[.int .i64 10,.int .i64 a,.int .i64 b,.float .f32 zb,.int .i64 0,.int .i64 0,.slice qt 0 ct'] 98 := HB.ext b0 E6;have B1 : HB W0 (w.heap.size + 1) #[.int .i64 rg,.int .i64 cg,.slice qg Ng kg] 27 := HB.ext b1 E6;have B2 : HB W0 (w.heap.size + 1 + 1) #[.int .i64 rv,.int .i64 cv,.slice qv Nv kv] 27 := HB.ext b2 E6;have B3 : HB W0 (w.heap.size + 1 + 1 + 1) #[.int .i64 rw,.int .i64 cw,.slice qw Nw kw] 27 := b3;have B4 : HB W0 (w.heap.size + 1 + 1 + 1 + 1) #[.int .i64 0,.int .i64 0,.slice none 0 0] 27 := b4;have B5 : HB W0 (w.heap.size + 1 + 1 + 1 + 1 + 1) #[.int .i64 0,.int .i64 0,.slice none 0 0] 27 := b5;have E0 := E3.trans E6;clear hW3 hW6 E3 E6 s3 s6 b0 b1 b2 b3 b4 b5;have HZ := hid hz;have HNg := hid hNg;have HNv := hid hNv;have HNw := hid hNw;clear ho ht hpt hz hNg hNv hNw hb0 hb1 hfl;go_enter Try.func112,Try.ntmps112;have z0 := B0.cell 0 rfl;go_wp2_with fail;rw [← hW0];clear hW0 z0;generalize hH5 : w.heap.size + 1 + 1 + 1 + 1 + 1 = H5 at *;generalize hH4 : w.heap.size + 1 + 1 + 1 + 1 = H4 at *;generalize hH3 : w.heap.size + 1 + 1 + 1 = H3 at *;generalize hH2 : w.heap.size + 1 + 1 = H2 at *;generalize hH1 : w.heap.size + 1 = H1 at *;obtain ⟨H0,hH0⟩ : ∃ H,H = w.heap.size := ⟨_,rfl⟩;rw [← hH0] at B0 ⊢;have P0 : w.heap.size ≤ H0 := by omega
 have P1 : H0 < H1 := by omega
 have P2 : H1 < H2 := by omega
 have P3 : H2 < H3 := by omega
 have P4 : H3 < H4 := by omega
 have P5 : H4 < H5 := by omega
 clear hH0 hH1 hH2 hH3 hH4 hH5;have eD := Ext.drew W0;have B1 := B1.ext eD;have B2 := B2.ext eD;have B3 := B3.ext eD;have B4 := B4.ext eD;have B5 := B5.ext eD;have E0 := E0.trans eD;clear B0;refine jal (n := 11) (S := fun W => HB W H1 #[.int .i64 rg,.int .i64 cg,.slice qg Ng kg] 27 ∧ HB W H2 #[.int .i64 rv,.int .i64 cv,.slice qv Nv kv] 27 ∧ HB W H3 #[.int .i64 rw,.int .i64 cw,.slice qw Nw kw] 27 ∧ W.cell? (adr qg (0 * 1)) = some (.float .f32 b0)) (by kernel_rfl) rfl ?_;clear eD;generalize W0.drew = W0 at *;have hS : HB W0 H1 #[.int .i64 rg,.int .i64 cg,.slice qg Ng kg] 27 ∧ HB W0 H2 #[.int .i64 rv,.int .i64 cv,.slice qv Nv kv] 27 ∧ HB W0 H3 #[.int .i64 rw,.int .i64 cw,.slice qw Nw kw] 27 ∧ W0.cell? (adr qg (0 * 1)) = some (.float .f32 b0) := ⟨B1,B2,B3,(h1.ext E0).cell 0 _ HB0.out⟩;refine jad (k := 0) (.pointer (some ⟨H2,0,none⟩)) (by kernel_rfl) rfl rfl (fun _ _ _ h => h) hS (fun W hW => by go_simp) ?_
 (try simp only [pv1,pv2,pv3])
 simp only [Act.put,jab,pu1,pu2,pu3,pu4,pu5];refine jad (k := 1) (.int .i64 (rv : Int)) (by kernel_rfl) rfl rfl (fun _ _ _ h => h) hS (fun W hW => by have y := (hW.2.1).cell 0 rfl;go_simp) ?_
 (try simp only [pv1,pv2,pv3])
 simp only [Act.put,jab,pu1,pu2,pu3,pu4,pu5];refine jad (k := 2) (.pointer (some ⟨H2,1,none⟩)) (by kernel_rfl) rfl rfl (fun _ _ _ h => h) hS (fun W hW => by go_simp) ?_
 (try simp only [pv1,pv2,pv3])
 simp only [Act.put,jab,pu1,pu2,pu3,pu4,pu5];refine jad (k := 3) (.int .i64 (cv : Int)) (by kernel_rfl) rfl rfl (fun _ _ _ h => h) hS (fun W hW => by have y := (hW.2.1).cell 1 rfl;go_simp) ?_
 (try simp only [pv1,pv2,pv3])
 simp only [Act.put,jab,pu1,pu2,pu3,pu4,pu5];refine jad (k := 4) (.pointer (some ⟨H1,2,none⟩)) (by kernel_rfl) rfl rfl (fun _ _ _ h => h) hS (fun W hW => by go_simp) ?_
 (try simp only [pv1,pv2,pv3])
 simp only [Act.put,jab,pu1,pu2,pu3,pu4,pu5];refine jad (k := 5) (.slice qg Ng kg) (by kernel_rfl) rfl rfl (fun _ _ _ h => h) hS (fun W hW => by have y := (hW.1).cell 2 rfl;go_simp) ?_
 (try simp only [pv1,pv2,pv3])
 simp only [Act.put,jab,pu1,pu2,pu3,pu4,pu5];refine jbi (k := 6) (p := qg) (m := Ng) (c := kg) (kk := .i64) (j := 0) (i := 0) (by kernel_rfl) rfl rfl (fun _ _ _ h => h) hS rfl (by simp [Act.eval]) (by simp [Act.eval]) rfl hisg (by omega) ?_
 (try simp only [pv1,pv2,pv3])
 simp only [Act.put,jab,pu1,pu2,pu3,pu4,pu5];refine jad (k := 7) (.float .f32 b0) (by kernel_rfl) rfl rfl (fun _ _ _ h => h) hS (fun W hW => by have y := hW.2.2.2;simp [execOp,Act.eval,jce y]) ?_
 (try simp only [pv1,pv2,pv3])
 simp only [Act.put,jab,pu1,pu2,pu3,pu4,pu5];refine jad (k := 9) (.agg #[.int .i64 0,.int .i64 0,.slice none 0 0]) (by kernel_rfl) rfl rfl (fun _ _ _ h => h) hS (fun W hW => by go_simp) ?_
 (try simp only [pv1,pv2,pv3])
 simp only [Act.put,jab,pu1,pu2,pu3,pu4,pu5];refine jan (k := 8) (by kernel_rfl) ?_;refine jav (f := 111) (args := #[.int .i64 rv,.int .i64 cv,.float .f32 b0]) rfl rfl rfl Try.func111 rfl (by kernel_rfl) (by simp [Act.eval]) (KF.out W0) ?_;rintro e w1 ⟨q0,k0,vs0,rfl,own0,hf0,eX⟩
 rw [HLfl.out] at own0 ⊢;have hb0 : H5 < W0.heap.size := B5.lt;have B4 := B4.ext eX;have B5 := B5.ext eX;have E0 := E0.trans eX;have hS := And.intro (hS.1.ext eX) (And.intro (hS.2.1.ext eX) (And.intro (hS.2.2.1.ext eX) (eX.cell hS.2.2.2)));refine ⟨_,rfl,hS,?_⟩;clear eX
 (try simp only [pv1,pv2,pv3])
 simp only [Act.put,jab,pu1,pu2,pu3,pu4,pu5];refine jan (k := 10) (by kernel_rfl) ?_;obtain ⟨V1,hr1,B4',ch1⟩ := jaq (y0 := .int .i64 rv) (y1 := .int .i64 cv) (y2 := .slice q0 Nv k0) B4 rfl rfl rfl;refine jaz (w' := V1) rfl rfl (by simp [execOp,Act.eval,ofCs,Sh.agg,hr1]) ?_;refine ⟨⟨hS.1.chg ch1 (fun h => by have h : H1 = H4 := h;omega),hS.2.1.chg ch1 (fun h => by have h : H2 = H4 := h;omega),hS.2.2.1.chg ch1 (fun h => by have h : H3 = H4 := h;omega),(h1.ext (E0.chg ch1 (fun k hk => by have hk : k = H4 := hk;omega))).cell 0 _ HB0.out⟩,?_⟩;have B5' := B5.chg ch1 (fun h => by have h : H5 = H4 := h;omega)
 (try simp only [pv1,pv2,pv3])
 simp only [Act.put,jab,pu1,pu2,pu3,pu4,pu5];refine ja7 (k := 11) (by kernel_rfl) rfl ?_;obtain ⟨V2,hr2,B5'',ch2⟩ := jaq (y0 := .int .i64 0) (y1 := .int .i64 0) (y2 := .slice none 0 0) B5' rfl rfl rfl;refine ja4 rfl (w' := V2) (by simp [execOp,Act.eval,ofCs,Sh.agg,hr2]) ?_;have B4'' := B4'.chg ch2 (fun h => by have h : H4 = H5 := h;omega);have EF : Ext w V2 := (E0.chg ch1 (fun k hk => by have hk : k = H4 := hk;omega)).chg ch2 (fun k hk => by have hk : k = H5 := hk;omega);have n0 := B4''.cell 0 rfl;have n1 := B4''.cell 1 rfl;have n2 := B4''.cell 2 rfl;have n3 := B5''.cell 0 rfl;have n4 := B5''.cell 1 rfl;have n5 := B5''.cell 2 rfl;have own0 := jag (jag own0 ch1 (fun k hk => by have hk : k = H4 := hk;omega)) ch2 (fun k hk => by have hk : k = H5 := hk;omega);have RA := hid (RepF.own (w := V2) (r := rv) (c := cv) HLfl.out own0 hf0);have RB := hid (RepF.nil (w := V2));clear hr1 hr2 B4 B5 B4' B5' B4'' B5'' ch1 ch2;go_wp2;refine bodyPost_ret (v := .tuple #[.agg #[.int .i64 rv,.int .i64 cv,.slice q0 Nv k0],.agg #[.int .i64 0,.int .i64 0,.slice none 0 0]]) (by simp [results,Try.results112,go_sem,n0,n1,n2,n3,n4,n5]) rfl ?_;exact jba.of rfl RA.out RB.out (by simp only [partA,tFill,tn,Int.toNat_natCast];rw [HEfl.out]) (rfl) (fun b hb => .inr (by have := own_fs own0 b hb;omega)) (fun b hb => by simp at hb) EF
theorem tenAtB_of {w : World} {cs : List Value} {bs : List Nat} {s : Nat × Nat} {d : jaa.T} (h : Own w jaa cs d bs) (hs : jbk s d) : TenAtB bs w cs s d := by
 obtain ⟨xs,rfl,l⟩ := hs;obtain ⟨c1,c2,b1,b2,rfl,⟨rfl,rfl⟩,⟨c3,c4,b3,b4,rfl,⟨rfl,rfl⟩,⟨c5,c6,b5,b6,rfl,h5,⟨rfl,rfl⟩,rfl⟩,rfl⟩,rfl⟩ := h;obtain ⟨p,c,vs,rfl,h6,h7,h8,h9,rfl⟩ := own_flts.1 h5;simp only [tn] at h6 h7 h8 ⊢;rw [l] at h6 h8 ⊢;exact ⟨p,c,vs,xs,rfl,rfl,l,fun W S hS ch => (h6.chg ch fun b hb => hS b (by simp [hb])).cs,h7,h8,h9⟩
theorem TenAtB.at' {fg : List Nat} {w : World} {cs : List Value} {s : Nat × Nat} {d : jaa.T} (h : TenAtB fg w cs s d) : jbg w cs s d := by
 obtain ⟨q,c,us,xs,h1,h2,h3,h4,h5,h6,h7⟩ := h;exact ⟨q,c,us,xs,h1,h2,h3,h4 w (fun _ => False) (fun _ _ h => h.elim) (Chg.refl _ _),h5,h6,h7⟩
theorem parts_any {sh : Nat → Nat × Nat} {i : Nat} {o : shOp.T} (h : OpOk sh i o) (hk : o.1 ≠ 0) (hs : ∀ j,j ≤ i → jam (sh j)) (fg : List Nat) (oc cg' cv' cw' : List Value) (g v u : jaa.T) (w : World) (hg : TenAtB fg w cg' (sh i) g) (hv : jbg w cv' (sh o.2.1.toNat) v) (hw : jbg w cw' (sh o.2.2.1.toNat) u) (ho : Rep w shOp oc o) :
 Calls Try.prog 112 #[ofCs shOp oc,ofCs jaa cg',ofCs jaa cv',ofCs jaa cw'] w (jba fg w (partA o.1.toNat o.2.2.2.1 g v u) (partB o.1.toNat g v u)) := by
 have hi := hs i (Nat.le_refl _)
 cases h with
 | inp => exact absurd rfl hk
 | add a b ha hb h1 h2 => exact parts_1 fg a b 0 oc cg' cv' cw' _ _ _ g v u w hg hv hw hi (hs a (by omega)) (hs b (by omega)) ho
 | addR a b ha hb h1 h2 => exact parts_2 fg a b 0 oc cg' cv' cw' _ _ _ g v u w hg hv hw hi (hs a (by omega)) (hs b (by omega)) ho
 | mul a b ha hb h1 h2 => exact parts_3 fg a b 0 oc cg' cv' cw' _ _ _ g v u w hg hv hw hi (hs a (by omega)) (hs b (by omega)) h2 (h2.trans h1.symm) ho
 | mulR a b ha hb h1 h2 => exact parts_4 fg a b 0 oc cg' cv' cw' _ _ _ g v u w hg hv hw hi (hs a (by omega)) (hs b (by omega)) h2 (by rw [h2];exact h1) ho
 | scl a z ha h2 => exact parts_5 fg a 0 z oc cg' cv' cw' _ _ _ g v u w hg hv hw hi (hs a (by omega)) (hs 0 (by omega)) ho
 | mm a b ha hb h1 h2 => exact parts_6 fg a b 0 oc cg' cv' cw' _ _ _ g v u w hg hv hw hi (hs a (by omega)) (hs b (by omega)) (by rw [h2];rfl) (by rw [h2];rfl) ho
 | turn a ha h2 => exact parts_7 fg a 0 0 oc cg' cv' cw' _ _ _ g v u w hg hv hw hi (hs a (by omega)) (hs 0 (by omega)) ho
 | relu a ha h2 => exact parts_8 fg a 0 0 oc cg' cv' cw' _ _ _ g v u w hg hv hw hi (hs a (by omega)) (hs 0 (by omega)) h2 ho
 | sqr a ha h2 => exact parts_9 fg a 0 0 oc cg' cv' cw' _ _ _ g v u w hg hv hw hi (hs a (by omega)) (hs 0 (by omega)) h2 ho
 | sum a ha h2 => exact parts_10 fg a 0 0 oc cg' cv' cw' _ _ _ g v u w hg hv hw hi (hs a (by omega)) (hs 0 (by omega)) ho
theorem jbh (k : Nat) (w : World) : Calls Try.prog 113 #[.int .i64 k] w fun e w' => e = .returned (.bool (twoK k)) ∧ w = w' := by
 by_cases h1 : k = 1
 · subst h1
   go_enter Try.func113,Try.ntmps113;go_wp2;go_ret;exact ⟨rfl,rfl⟩
 by_cases h2 : k = 2
 · subst h2
   go_enter Try.func113,Try.ntmps113;go_wp2;go_ret;exact ⟨rfl,rfl⟩
 by_cases h3 : k = 3
 · subst h3
   go_enter Try.func113,Try.ntmps113;go_wp2;go_ret;exact ⟨rfl,rfl⟩
 by_cases h4 : k = 4
 · subst h4
   go_enter Try.func113,Try.ntmps113;go_wp2;go_ret;exact ⟨rfl,rfl⟩
 by_cases h6 : k = 6
 · subst h6
   go_enter Try.func113,Try.ntmps113;go_wp2;go_ret;exact ⟨rfl,rfl⟩
 have hd : twoK k = false := by simp [twoK,h1,h2,h3,h4,h6]
 rw [hd];have e1 : ((k : Int) == 1) = false := by simp;omega
 have e2 : ((k : Int) == 2) = false := by simp;omega
 have e3 : ((k : Int) == 3) = false := by simp;omega
 have e4 : ((k : Int) == 4) = false := by simp;omega
 have e6 : ((k : Int) == 6) = false := by simp;omega
 clear hd;go_enter Try.func113,Try.ntmps113;go_wp2;go_ret;exact ⟨rfl,rfl⟩
instance slBool : SlTy Try.prog 146 4 1 (.bool false) 1 := ⟨by kernel_rfl,by kernel_rfl,by kernel_rfl,by decide,by decide⟩
instance c1Bools : Cell1 Try.prog 146 := ⟨by kernel_rfl,by kernel_rfl⟩
theorem run_stE {w : World} {g j : Nat} {css : List (List Value)} {y0 y1 y2 : Value} (h : HB w g css.flatten.toArray 27) (hall : ∀ c ∈ css,c.length = jaa.sz) (hj : j < css.length) (h0 : y0.oneCell' = true) (h1 : y1.oneCell' = true) (h2 : y2.oneCell' = true) :
 ∃ w',(Instr.storeAt 27 (.pointer (some ⟨g,j * jaa.sz,none⟩)) (.agg #[y0,y1,y2])).run Try.prog w = .ok () w' ∧ HB w' g (css.set j [y0,y1,y2]).flatten.toArray 27 ∧ Chg (fun k => k = g) w w' := by
 have hb' : w.heap[g]? = some (.cells css.flatten.toArray 27 (0,0)) := h;have hlen := flat_len hall
 have hfit : j * jaa.sz + 0 + [y0,y1,y2].length ≤ css.flatten.toArray.size := by
  have : (j + 1) * jaa.sz ≤ css.length * jaa.sz := Nat.mul_le_mul_right _ hj;rw [Nat.add_mul] at this;simp only [List.size_toArray,hlen];have h3 : jaa.sz = 3 := rfl;simp only [h3,List.length_cons,List.length_nil] at this ⊢;omega
 have hst := run_storeCells_at Try.prog g (j * jaa.sz) 27 [y0,y1,y2] 0 css.flatten.toArray w hb' hfit (by intro v hv;simp at hv;rcases hv with rfl | rfl | rfl <;> assumption);obtain ⟨i,hi,hz⟩ := Option.map_eq_some_iff.1 (ElTy.inf (P := Try.prog) (t := 27) (s := jaa));have hcells : (Value.agg #[y0,y1,y2]).cells = #[y0,y1,y2] := rfl
 have hsp : (css.flatten.toArray.toList.take (j * jaa.sz + 0) ++ [y0,y1,y2] ++ css.flatten.toArray.toList.drop (j * jaa.sz + 0 + [y0,y1,y2].length)) = (css.set j [y0,y1,y2]).flatten := by
  rw [← flat_splice hall hj (cs := [y0,y1,y2]) rfl];unfold splice;simp
 rw [hsp] at hst;refine ⟨_,?_,setRow_heap w g css.flatten.toArray _ 27 (0,0) hb',⟨rfl,rfl,rfl,by simp,fun j hj hn' => setRow_other w g j _ hn'⟩⟩;simp [Instr.storeAt,Instr.sureAddr,storeVar,sizeOf,typeInfo,hi,hz,hcells];rw [if_pos (show 3 = jaa.sz from rfl),hst]
theorem OwnEs.put {w w' : World} {B : Nat} {e : Sh} {css : List (List Value)} {bss : List (List Nat)} {l : List e.T} (h : OwnEs w e css bss l) (k : ∃ S,Chg S w w' ∧ ∀ b,S b → b < B) (j : Nat) {cs : List Value} {bs : List Nat} {d : e.T} (ho : Own w' e cs d bs) (hn : bs.Nodup) (hB : ∀ b ∈ bs,B ≤ b) (lo : ∀ b ∈ bss.flatten,B ≤ b) :
 OwnEs w' e (css.set j cs) (bss.set j bs) (l.set j d) ∧ ∀ b ∈ (bss.set j bs).flatten,B ≤ b := by
 obtain ⟨S,k1,k2⟩ := k;have h' := h.chg k1 (fun b hb hs => by have := lo b hb;have := k2 b hs;omega);refine ⟨⟨by simp [h.1],by simp [h.2.1],fun i cs' bs' d' h1 h2 h3 => ?_⟩,fun b hb => ?_⟩
 · by_cases e : i = j
   · subst e
     rw [List.getElem?_set] at h1 h2 h3;simp only [if_true] at h1 h2 h3
     split at h1 <;> simp at h1
     split at h2 <;> simp at h2
     split at h3 <;> simp at h3
     subst h1;subst h2;subst h3;exact ho
   · rw [List.getElem?_set,if_neg (Ne.symm e)] at h1 h2 h3
     exact h'.2.2 i cs' bs' d' h1 h2 h3
 · obtain ⟨x,hx,hbx⟩ := List.mem_flatten.1 hb
   rcases List.mem_or_eq_of_mem_set hx with h4 | h4
   · exact lo b (List.mem_flatten.2 ⟨x,h4,hbx⟩)
   · subst h4;exact hB b hbx
structure GSt (w : World) (B bh gh bo go n : Nat) (hs : List Bool) (css : List (List Value)) (bss : List (List Nat)) (l : List jaa.T) : Prop where
 hb : HB w bh #[.slice (some ⟨gh,0,none⟩) n n] 146
 hr : HB w gh (hs.map Value.bool).toArray 4
 ob : HB w bo #[.slice (some ⟨go,0,none⟩) n n] 59
 or : HB w go css.flatten.toArray 27
 els : OwnEs w jaa css bss l
 lo : ∀ b ∈ bss.flatten,B ≤ b
 hl : hs.length = n
 ll : l.length = n
 lt : bh < B ∧ gh < B ∧ bo < B ∧ go < B
 n1 : bh ≠ go
 n2 : gh ≠ go
 n3 : bo ≠ go
 n4 : bh ≠ gh
 n5 : bo ≠ gh
theorem GSt.ext {w w' : World} {B bh gh bo go n : Nat} {hs : List Bool} {css : List (List Value)} {bss : List (List Nat)} {l : List jaa.T} (h : GSt w B bh gh bo go n hs css bss l) (e : Ext w w') : GSt w' B bh gh bo go n hs css bss l :=
 ⟨h.hb.ext e,h.hr.ext e,h.ob.ext e,h.or.ext e,h.els.chg (.of_ext e) (S := fun _ => False) (fun _ _ h => h),h.lo,h.hl,h.ll,h.lt,h.n1,h.n2,h.n3,h.n4,h.n5⟩
theorem GSt.chgN {w w' : World} {B bh gh bo go n : Nat} {hs : List Bool} {css : List (List Value)} {bss : List (List Nat)} {l : List jaa.T} (h : GSt w B bh gh bo go n hs css bss l) {S : Nat → Prop} (k : Chg S w w') (hS : ∀ b,S b → B ≤ b) (hN : ∀ b ∈ bss.flatten,¬ S b) : GSt w' B bh gh bo go n hs css bss l :=
 ⟨h.hb.chg k (fun hs => by have := hS _ hs;have := h.lt;omega),h.hr.chg k (fun hs => by have := hS _ hs;have := h.lt;omega),h.ob.chg k (fun hs => by have := hS _ hs;have := h.lt;omega),h.or.chg k (fun hs => by have := hS _ hs;have := h.lt;omega),h.els.chg k hN,h.lo,h.hl,h.ll,h.lt,h.n1,h.n2,h.n3,h.n4,h.n5⟩
theorem give_any (B bh gh bo go n to : Nat) (hs : List Bool) (css : List (List Value)) (bss : List (List Nat)) (l : List jaa.T) (pc : List Value) (s : Nat × Nat) (d : jaa.T) (w : World) (G : GSt w B bh gh bo go n hs css bss l) (hB : B ≤ w.heap.size) (hto : to < n) (hn : n ≤ 48) (hp : jbg w pc s d) (hsd : jam s) (hq : hs.getD to false = true → jbk s (l.getD to t0)) :
 Calls Try.prog 109 #[.int .i64 to,ofCs jaa pc,.pointer (some ⟨bh,0,none⟩),.pointer (some ⟨bo,0,none⟩)] w fun e w' => e = .returned (.tuple #[]) ∧ ∃ css' bss',GSt w' B bh gh bo go n (hs.set to true) css' bss' (l.set to (if hs.getD to false then tAdd (l.getD to t0) d else d)) ∧ Chg (fun b => b = gh ∨ b = go) w w' := by
 obtain ⟨qp,kp,up,xs,rfl,rfl,lp,p1,p2,p3,p4⟩ := hp;obtain ⟨r,c⟩ := s;obtain ⟨i1,i2,i3,i4⟩ := hsd;dsimp only at lp p3 i1 i2 i3 i4 hq ⊢;obtain ⟨N,hN⟩ : ∃ N,N = r * c := ⟨_,rfl⟩;have hN2 : N ≤ 256 := by rw [hN];exact Nat.mul_le_mul i2 i4
 rw [← hN] at lp p3;simp only [ofCs,Sh.agg,if_true,← hN];obtain ⟨W1,hW1⟩ : ∃ W1,W1 = w.alloc (.cells #[.int .i64 r,.int .i64 c,.slice qp N kp] 27) := ⟨_,rfl⟩;have e1 : Ext w W1 := by rw [hW1];exact Ext.alloc _ _
 have B5 : HB W1 w.heap.size #[.int .i64 r,.int .i64 c,.slice qp N kp] 27 := by rw [hW1];exact HB.new _ _ _
 have G1 := G.ext e1;have hB3 := G1.ob;have g0 := G1.hb.cell 0 rfl;have hcs := cs_heap G1.hr;have hlh : (hs.map Value.bool).length = n := by rw [List.length_map];exact G.hl
 have hgt : (hs.map Value.bool)[to]? = some (.bool (hs.getD to false)) := by have h := G.hl;simp [show to < hs.length by omega]
 have p1' := p1.ext e1;rw [hW1] at g0 hcs
 cases hhas : hs.getD to false with
 | false =>
   rw [hhas] at hgt;simp only [Bool.false_eq_true,if_false];have HH := hid hhas;have HQ := hid hq;have HT := hid hgt;have HL := hid hlh;have HN := hid hN;clear hhas hq hgt hlh hN;go_enter Try.func109,Try.ntmps109;go_wp2_with ((with_reducible show gx2);refine jbl rfl rfl rfl rfl (fun _ => rfl) rfl rfl hcs HL.out (by omega) (by omega) ?_;intro u hu;rw [Int.toNat_natCast] at hu;replace hu := HT.out.symm.trans hu;cases hu);rw [← hW1];clear hW1 g0 hcs;have hps := lp;have hfs := p2;have hqs := p1';have hNk := p3;have eD := Ext.drew W1;have c5 := B5.ext eD;have c3 := hB3.ext eD;refine jal (n := 5) (S := fun W => Ext W1.drew W) (by kernel_rfl) rfl ?_;have hS0 : Ext W1.drew W1.drew := Ext.refl _;refine jad (k := 0) (.slice (some ⟨go,0,none⟩) n n) (by kernel_rfl) rfl rfl (fun _ _ _ h => h) hS0 (fun W hW => by have y := (c3.ext hW).cell 0 rfl;go_simp) ?_
   (try simp only [pv1,pv2,pv3])
   simp only [Act.put,jab,pu1,pu2,pu3,pu4,pu5];refine jad (k := 1) (.int .i64 (to : Int)) (by kernel_rfl) rfl rfl (fun _ _ _ h => h) hS0 (fun W hW => by go_simp) ?_
   (try simp only [pv1,pv2,pv3])
   simp only [Act.put,jab,pu1,pu2,pu3,pu4,pu5];refine jad (k := 2) (.agg #[.int .i64 r,.int .i64 c,.slice qp N kp]) (by kernel_rfl) rfl rfl (fun _ _ _ h => h) hS0 (fun W hW => by have y0 := (c5.ext hW).cell 0 rfl;have y1 := (c5.ext hW).cell 1 rfl;have y2 := (c5.ext hW).cell 2 rfl;go_simp) ?_
   (try simp only [pv1,pv2,pv3])
   simp only [Act.put,jab,pu1,pu2,pu3,pu4,pu5];refine jan (k := 3) (by kernel_rfl) ?_;refine jav (f := 101) (args := #[.agg #[.int .i64 r,.int .i64 c,.slice qp N kp]]) rfl rfl rfl Try.func101 rfl (by kernel_rfl) (by simp [Act.eval]) (copyTensor_any r c qp N kp up xs W1.drew hps (by omega) hNk (hqs.ext eD) hfs) ?_;rintro e W2 ⟨q2,k2,vs2,rfl,own2,hf2,e2⟩
   rw [hps] at own2 ⊢;refine ⟨_,rfl,e2,?_⟩
   (try simp only [pv1,pv2,pv3])
   simp only [Act.put,jab,pu1,pu2,pu3,pu4,pu5];refine jbi (k := 4) (p := some ⟨go,0,none⟩) (m := n) (c := n) (kk := .i64) (j := to) (i := (to : Int)) (by kernel_rfl) rfl rfl (fun _ _ _ h => h) e2 rfl (by simp [Act.eval]) (by simp [Act.eval]) rfl rfl hto ?_
   (try simp only [pv1,pv2,pv3])
   simp only [Act.put,jab,pu1,pu2,pu3,pu4,pu5];refine ja7 (k := 5) (by kernel_rfl) rfl ?_;have eW2 := eD.trans e2;have G2 := G1.ext eW2;obtain ⟨W3,hr3,or3,ch3⟩ := run_stE (j := to) (y0 := .int .i64 r) (y1 := .int .i64 c) (y2 := .slice q2 N k2) G2.or G2.els.all (by rw [G2.els.1,G2.ll];exact hto) rfl rfl rfl;refine ja4 rfl (w' := W3) (by have h := hr3;rw [← jbn] at h;simp [execOp,Act.eval,h]) ?_;have h2 := G2.hb.chg ch3 (fun h => G2.n1 h);have r2 := G2.hr.chg ch3 (fun h => G2.n2 h);have o2 := G2.ob.chg ch3 (fun h => G2.n3 h);have y0 := h2.cell 0 rfl;have hlen : (hs.map Value.bool).length = n := by rw [List.length_map];exact G2.hl
   have hget : (hs.map Value.bool).toArray[to]? = some (.bool (hs.getD to false)) := by have h := G2.hl;simp [show to < hs.length by omega]
   clear hr3;go_wp2_with (first | ((with_reducible show gx9);refine wl_stHB (u := .bool true) (j := to) rfl rfl r2 hget rfl rfl rfl ?_;intro W4 r4 ch4) | ((with_reducible show gx16);refine wl_idxE (s := 1) (j := to) (p := some ⟨gh,0,none⟩) rfl rfl rfl rfl rfl rfl hto ?_;rw [Nat.mul_one,jbn]));refine bodyPost_end (v := .tuple #[]) (results_none (by kernel_rfl) _ _ _) rfl ?_;have own3 := jag own2 ch3 (fun b hb => by have hb : b = go := hb;have := eD.size;have := e1.size;have := G2.lt;omega);have own4 := jag own3 ch4 (fun b hb => by have hb : b = gh := hb;have := eD.size;have := e1.size;have := G2.lt;omega);obtain ⟨k1,k3,k4⟩ := own_mk (r := r) (c := c) (B := B) hps (jak own4 (by have := eD.size;have := e1.size;omega)) hf2;have ec : Chg (fun b => b = gh ∨ b = go) w W4 := ((Chg.of_ext (e1.trans eW2)).trans (ch3.mono fun b hb => Or.inr hb)).trans (ch4.mono fun b hb => Or.inl hb)
   have r4' : HB W4 gh ((hs.set to true).map Value.bool).toArray 4 := by
    have e : ((hs.map Value.bool).toArray.setIfInBounds to (.bool true)) = ((hs.set to true).map Value.bool).toArray := by simp [List.map_set]
    rw [← e];exact r4
   have kk : ∃ S,Chg S W2 W4 ∧ ∀ b,S b → b < B := ⟨fun b => b = gh ∨ b = go,(ch3.mono fun b hb => Or.inr hb).trans (ch4.mono fun b hb => Or.inl hb),fun b hb => by have := G2.lt;omega⟩;refine ⟨rfl,⟨_,_,⟨h2.chg ch4 (fun h => G2.n4 h),r4',o2.chg ch4 (fun h => G2.n5 h),or3.chg ch4 (fun h => G2.n2 h.symm),(OwnEs.put G2.els kk to k1 k3 k4 G2.lo).1,(OwnEs.put G2.els kk to k1 k3 k4 G2.lo).2,by rw [List.length_set];exact G2.hl,by rw [List.length_set];exact G2.ll,G2.lt,G2.n1,G2.n2,G2.n3,G2.n4,G2.n5⟩⟩,ec⟩
 | true =>
   rw [hhas] at hgt;simp only [if_true];obtain ⟨ys,hys,lys⟩ := hq hhas;dsimp only at hys lys;rw [← hN] at lys;have HH := hid hhas;have HT := hid hgt;have HL := hid hlh;have HN := hid hN;have h3 := hB3.cell 0 rfl;have hcl : to < css.length := by rw [G1.els.1,G1.ll];exact hto
   have hbl : to < bss.length := by rw [G1.els.2.1,G1.ll];exact hto
   have hll : to < l.length := by rw [G1.ll];exact hto
   have hown := G1.els.2.2 to css[to] bss[to] l[to] (by simp) (by simp) (by simp);have hld : l[to] = tn r c ys := by rw [← hys];simp [hll]
   rw [hld] at hown;obtain ⟨qy,ky,uy,ys',hcy,hdy,ly,y1,y2,y3,y4⟩ := (tenAtB_of (s := (r,c)) hown ⟨ys,rfl,by rw [lys,hN]⟩).at';dsimp only at hcy ly y3;rw [← hN] at hcy ly y3;have hce := (cs_heap G1.or).elem G1.els.all hcl;rw [hcy] at hce;rw [hys,hdy];have hyy : Hid (tAdd (tn r c ys') (tn r c xs) = tn r c (addX N ys' xs)) := hid (by simp only [tAdd,tn,ly]);rw [hyy.out];have hxl : Hid ((addX N ys' xs).length = N) := hid (jaf _ _);have hK := hid (fun W (hW : Ext W1 W) => addTensors_any r c r c qy qp N N ky kp uy up ys' xs W ly (by omega) (y1.ext hW) y2 lp (by omega) (p1'.ext hW) p2 (Nat.le_refl _));generalize addX N ys' xs = ps at *;clear hhas hgt hlh hN hq hys hdy hcy hown hld lys;go_enter Try.func109,Try.ntmps109;go_wp2_with ((with_reducible show gx2);refine jbl rfl rfl rfl rfl (fun _ => rfl) rfl rfl hcs HL.out (by omega) (by omega) ?_;intro u hu;rw [Int.toNat_natCast] at hu;replace hu := HT.out.symm.trans hu;cases hu);rw [← hW1];clear hW1 g0 hcs;have eD := Ext.drew W1;have c5 := B5.ext eD;have c3 := hB3.ext eD;have hce := hce.ext eD;refine jal (n := 6) (S := fun W => Ext W1.drew W) (by kernel_rfl) rfl ?_;have hS0 : Ext W1.drew W1.drew := Ext.refl _;refine jad (k := 0) (.slice (some ⟨go,0,none⟩) n n) (by kernel_rfl) rfl rfl (fun _ _ _ h => h) hS0 (fun W hW => by have y := (c3.ext hW).cell 0 rfl;go_simp) ?_
   (try simp only [pv1,pv2,pv3])
   simp only [Act.put,jab,pu1,pu2,pu3,pu4,pu5];refine jad (k := 1) (.int .i64 (to : Int)) (by kernel_rfl) rfl rfl (fun _ _ _ h => h) hS0 (fun W hW => by go_simp) ?_
   (try simp only [pv1,pv2,pv3])
   simp only [Act.put,jab,pu1,pu2,pu3,pu4,pu5];refine jbi (k := 2) (p := some ⟨go,0,none⟩) (m := n) (c := n) (kk := .i64) (j := to) (i := (to : Int)) (by kernel_rfl) rfl rfl (fun _ _ _ h => h) hS0 rfl (by simp [Act.eval]) (by simp [Act.eval]) rfl rfl hto ?_
   (try simp only [pv1,pv2,pv3])
   simp only [Act.put,jab,pu1,pu2,pu3,pu4,pu5];refine jby (k := 3) (q := adr (some ⟨go,0,none⟩) (to * jaa.sz)) (s := jaa) (cs := [.int .i64 r,.int .i64 c,.slice qy N ky]) (by kernel_rfl) rfl rfl (fun _ _ _ h => h) hS0 rfl (by simp [Act.eval,jaa,Sh.sz]) rfl (fun W hW => hce.ext hW) ?_
   (try simp only [pv1,pv2,pv3])
   simp only [Act.put,jab,pu1,pu2,pu3,pu4,pu5];refine jad (k := 4) (.agg #[.int .i64 r,.int .i64 c,.slice qp N kp]) (by kernel_rfl) rfl rfl (fun _ _ _ h => h) hS0 (fun W hW => by have y0 := (c5.ext hW).cell 0 rfl;have y1 := (c5.ext hW).cell 1 rfl;have y2 := (c5.ext hW).cell 2 rfl;go_simp) ?_
   (try simp only [pv1,pv2,pv3])
   simp only [Act.put,jab,pu1,pu2,pu3,pu4,pu5];refine jan (k := 5) (by kernel_rfl) ?_;refine jav (f := 110) (args := #[.agg #[.int .i64 r,.int .i64 c,.slice qy N ky],.agg #[.int .i64 r,.int .i64 c,.slice qp N kp]]) rfl rfl rfl Try.func110 rfl (by kernel_rfl) (by simp [Act.eval,ofCs,Sh.agg]) (hK.out W1.drew eD) ?_;rintro e WA ⟨q,k,ws,rfl,ownA,hfs,eA⟩
   rw [hxl.out] at ownA ⊢;refine ⟨_,rfl,eA,?_⟩
   (try simp only [pv1,pv2,pv3])
   simp only [Act.put,jab,pu1,pu2,pu3,pu4,pu5];refine ja7 (k := 6) (by kernel_rfl) rfl ?_;have eWA := eD.trans eA;obtain ⟨WX,hrA,B5',chA⟩ := jaq (y0 := .int .i64 r) (y1 := .int .i64 c) (y2 := .slice q N k) (B5.ext eWA) rfl rfl rfl;refine ja4 rfl (w' := WX) (by simp [execOp,Act.eval,hrA]) ?_;go_wp2_with fail;have hps := hxl.out;have hown1 := jag ownA chA (fun b hb => by have hb : b = w.heap.size := hb;have := B5.lt;have := eD.size;omega);have hqs := jbt hown1;have hNk := (jbb hown1).1;have e1 : Ext w WX := (e1.trans eWA).chg chA (fun b hb => by have hb : b = w.heap.size := hb;omega);have B5 := B5';have G1 : GSt WX B bh gh bo go n hs css bss l := (G1.ext eWA).chgN chA (fun b hb => by have hb : b = w.heap.size := hb;omega) (fun b hb => by have := G1.els.lt b hb;have hl := G.els.lt b hb;omega);have hB3 := G1.ob;clear B5' chA hrA ownA hown1 eWA eA eD c5 c3 hce hS0 hK h3;have eD := Ext.drew WX;have c5 := B5.ext eD;have c3 := hB3.ext eD;refine jal (n := 5) (S := fun W => Ext WX.drew W) (by kernel_rfl) rfl ?_;have hS0 : Ext WX.drew WX.drew := Ext.refl _;refine jad (k := 0) (.slice (some ⟨go,0,none⟩) n n) (by kernel_rfl) rfl rfl (fun _ _ _ h => h) hS0 (fun W hW => by have y := (c3.ext hW).cell 0 rfl;go_simp) ?_
   (try simp only [pv1,pv2,pv3])
   simp only [Act.put,jab,pu1,pu2,pu3,pu4,pu5];refine jad (k := 1) (.int .i64 (to : Int)) (by kernel_rfl) rfl rfl (fun _ _ _ h => h) hS0 (fun W hW => by go_simp) ?_
   (try simp only [pv1,pv2,pv3])
   simp only [Act.put,jab,pu1,pu2,pu3,pu4,pu5];refine jad (k := 2) (.agg #[.int .i64 r,.int .i64 c,.slice q N k]) (by kernel_rfl) rfl rfl (fun _ _ _ h => h) hS0 (fun W hW => by have y0 := (c5.ext hW).cell 0 rfl;have y1 := (c5.ext hW).cell 1 rfl;have y2 := (c5.ext hW).cell 2 rfl;go_simp) ?_
   (try simp only [pv1,pv2,pv3])
   simp only [Act.put,jab,pu1,pu2,pu3,pu4,pu5];refine jan (k := 3) (by kernel_rfl) ?_;refine jav (f := 101) (args := #[.agg #[.int .i64 r,.int .i64 c,.slice q N k]]) rfl rfl rfl Try.func101 rfl (by kernel_rfl) (by simp [Act.eval]) (copyTensor_any r c q N k ws ps WX.drew hps (by omega) hNk (hqs.ext eD) hfs) ?_;rintro e W2 ⟨q2,k2,vs2,rfl,own2,hf2,e2⟩
   rw [hps] at own2 ⊢;refine ⟨_,rfl,e2,?_⟩
   (try simp only [pv1,pv2,pv3])
   simp only [Act.put,jab,pu1,pu2,pu3,pu4,pu5];refine jbi (k := 4) (p := some ⟨go,0,none⟩) (m := n) (c := n) (kk := .i64) (j := to) (i := (to : Int)) (by kernel_rfl) rfl rfl (fun _ _ _ h => h) e2 rfl (by simp [Act.eval]) (by simp [Act.eval]) rfl rfl hto ?_
   (try simp only [pv1,pv2,pv3])
   simp only [Act.put,jab,pu1,pu2,pu3,pu4,pu5];refine ja7 (k := 5) (by kernel_rfl) rfl ?_;have eW2 := eD.trans e2;have G2 := G1.ext eW2;obtain ⟨W3,hr3,or3,ch3⟩ := run_stE (j := to) (y0 := .int .i64 r) (y1 := .int .i64 c) (y2 := .slice q2 N k2) G2.or G2.els.all (by rw [G2.els.1,G2.ll];exact hto) rfl rfl rfl;refine ja4 rfl (w' := W3) (by have h := hr3;rw [← jbn] at h;simp [execOp,Act.eval,h]) ?_;have h2 := G2.hb.chg ch3 (fun h => G2.n1 h);have r2 := G2.hr.chg ch3 (fun h => G2.n2 h);have o2 := G2.ob.chg ch3 (fun h => G2.n3 h);have y0 := h2.cell 0 rfl;have hlen : (hs.map Value.bool).length = n := by rw [List.length_map];exact G2.hl
   have hget : (hs.map Value.bool).toArray[to]? = some (.bool (hs.getD to false)) := by have h := G2.hl;simp [show to < hs.length by omega]
   clear hr3;go_wp2_with (first | ((with_reducible show gx9);refine wl_stHB (u := .bool true) (j := to) rfl rfl r2 hget rfl rfl rfl ?_;intro W4 r4 ch4) | ((with_reducible show gx16);refine wl_idxE (s := 1) (j := to) (p := some ⟨gh,0,none⟩) rfl rfl rfl rfl rfl rfl hto ?_;rw [Nat.mul_one,jbn]));refine bodyPost_end (v := .tuple #[]) (results_none (by kernel_rfl) _ _ _) rfl ?_;have own3 := jag own2 ch3 (fun b hb => by have hb : b = go := hb;have := eD.size;have := e1.size;have := G2.lt;omega);have own4 := jag own3 ch4 (fun b hb => by have hb : b = gh := hb;have := eD.size;have := e1.size;have := G2.lt;omega);obtain ⟨k1,k3,k4⟩ := own_mk (r := r) (c := c) (B := B) hps (jak own4 (by have := eD.size;have := e1.size;omega)) hf2;have ec : Chg (fun b => b = gh ∨ b = go) w W4 := ((Chg.of_ext (e1.trans eW2)).trans (ch3.mono fun b hb => Or.inr hb)).trans (ch4.mono fun b hb => Or.inl hb)
   have r4' : HB W4 gh ((hs.set to true).map Value.bool).toArray 4 := by
    have e : ((hs.map Value.bool).toArray.setIfInBounds to (.bool true)) = ((hs.set to true).map Value.bool).toArray := by simp [List.map_set]
    rw [← e];exact r4
   have kk : ∃ S,Chg S W2 W4 ∧ ∀ b,S b → b < B := ⟨fun b => b = gh ∨ b = go,(ch3.mono fun b hb => Or.inr hb).trans (ch4.mono fun b hb => Or.inl hb),fun b hb => by have := G2.lt;omega⟩;refine ⟨rfl,⟨_,_,⟨h2.chg ch4 (fun h => G2.n4 h),r4',o2.chg ch4 (fun h => G2.n5 h),or3.chg ch4 (fun h => G2.n2 h.symm),(OwnEs.put G2.els kk to k1 k3 k4 G2.lo).1,(OwnEs.put G2.els kk to k1 k3 k4 G2.lo).2,by rw [List.length_set];exact G2.hl,by rw [List.length_set];exact G2.ll,G2.lt,G2.n1,G2.n2,G2.n3,G2.n4,G2.n5⟩⟩,ec⟩
def memG (ops : List shOp.T) (gs : List (Option jaa.T)) (lo : Nat) : List jaa.T := (List.range ops.length).map fun j => match gs.getD j none with | some t => t | none => if lo ≤ j then zeroT ops j else t0
def hasG (gs : List (Option jaa.T)) : List Bool := gs.map Option.isSome
theorem jb9 (ops : List shOp.T) (gs : List (Option jaa.T)) (lo : Nat) : (memG ops gs lo).length = ops.length := by simp [memG]
theorem hasG_len (gs : List (Option jaa.T)) : (hasG gs).length = gs.length := by simp [hasG]
theorem memG_get {ops : List shOp.T} (gs : List (Option jaa.T)) (lo : Nat) {j : Nat} (h : j < ops.length) : (memG ops gs lo).getD j t0 = match gs.getD j none with | some t => t | none => if lo ≤ j then zeroT ops j else t0 := by
 unfold memG;rw [List.getD_eq_getElem?_getD,List.getElem?_map,List.getElem?_range h];rfl
theorem hasG_get (gs : List (Option jaa.T)) {j : Nat} (h : j < gs.length) : (hasG gs).getD j false = (gs.getD j none).isSome := by
 unfold hasG;simp [List.getD_eq_getElem?_getD,h]
theorem getD_ext {A : Type} {l k : List A} (d : A) (hl : l.length = k.length) (h : ∀ j,j < l.length → l.getD j d = k.getD j d) : l = k := by
 refine List.ext_getElem hl fun i h1 h2 => ?_
 have := h i h1
 simpa [List.getD_eq_getElem?_getD,h1,h2] using this
theorem getD_set {A : Type} (l : List A) (d x : A) {i j : Nat} (hi : i < l.length) : (l.set i x).getD j d = if j = i then x else l.getD j d := by
 by_cases h : j = i
 · subst h;simp [hi]
 · rw [if_neg h];simp [List.getD_eq_getElem?_getD,List.getElem?_set,Ne.symm h]
theorem hasG_give (gs : List (Option jaa.T)) (to : Nat) (p : jaa.T) (hto : to < gs.length) : hasG (giveG gs to p) = (hasG gs).set to true := by
 refine getD_ext false ((hasG_len _).trans ((giveG_len _ _ _).trans (by rw [List.length_set];exact (hasG_len _).symm))) fun j hj => ?_
 have hj' : j < gs.length := by rw [hasG_len,giveG_len] at hj;exact hj
 rw [hasG_get _ (by rw [giveG_len];exact hj'),giveG_get gs to p hto j,getD_set _ _ _ (by rw [hasG_len];exact hto)]
 by_cases e : j = to
 · subst e;rw [if_pos rfl,if_pos rfl];rfl
 · rw [if_neg e,if_neg e,hasG_get _ hj']
theorem memG_give {ops : List shOp.T} (gs : List (Option jaa.T)) (lo to : Nat) (p : jaa.T) (hl : gs.length = ops.length) (hto : to < ops.length) : memG ops (giveG gs to p) lo = (memG ops gs lo).set to (if (hasG gs).getD to false then tAdd ((memG ops gs lo).getD to t0) p else p) := by
 refine getD_ext t0 ((jb9 _ _ _).trans (by rw [List.length_set];exact (jb9 _ _ _).symm)) fun j hj => ?_
 have hj' : j < ops.length := by rw [jb9] at hj;exact hj
 rw [memG_get _ _ hj',giveG_get gs to p (by omega) j,getD_set _ _ _ (by rw [jb9];exact hto)]
 by_cases e : j = to
 · subst e
   rw [if_pos rfl,if_pos rfl,hasG_get _ (by omega),memG_get _ _ hj']
   cases gs.getD j none <;> simp
 · rw [if_neg e,if_neg e,memG_get _ _ hj']
theorem memG_some {ops : List shOp.T} {gs : List (Option jaa.T)} {i : Nat} {g : jaa.T} (hg : gs.getD i none = some g) : memG ops gs (i + 1) = memG ops gs i := by
 refine getD_ext t0 ((jb9 _ _ _).trans (jb9 _ _ _).symm) fun j hj => ?_
 have hj' : j < ops.length := by rw [jb9] at hj;exact hj
 rw [memG_get _ _ hj',memG_get _ _ hj']
 by_cases e : j = i
 · subst e;rw [hg]
 · cases gs.getD j none with
   | some t => rfl
   | none =>
     show (if i + 1 ≤ j then zeroT ops j else t0) = if i ≤ j then zeroT ops j else t0
     by_cases h : i + 1 ≤ j
     · rw [if_pos h,if_pos (by omega)]
     · rw [if_neg h,if_neg (by omega)]
theorem memG_none {ops : List shOp.T} {gs : List (Option jaa.T)} {i : Nat} (hi : i < ops.length) (hg : gs.getD i none = none) : memG ops gs i = (memG ops gs (i + 1)).set i (zeroT ops i) := by
 refine getD_ext t0 ((jb9 _ _ _).trans (by rw [List.length_set];exact (jb9 _ _ _).symm)) fun j hj => ?_
 have hj' : j < ops.length := by rw [jb9] at hj;exact hj
 rw [memG_get _ _ hj',getD_set _ _ _ (by rw [jb9];exact hi),memG_get _ _ hj']
 by_cases e : j = i
 · subst e;rw [if_pos rfl,hg];simp
 · rw [if_neg e]
   cases gs.getD j none with
   | some t => rfl
   | none =>
     show (if i ≤ j then zeroT ops j else t0) = if i + 1 ≤ j then zeroT ops j else t0
     by_cases h : i + 1 ≤ j
     · rw [if_pos h,if_pos (by omega)]
     · rw [if_neg h,if_neg (by omega)]
theorem memG_done (ops : List shOp.T) : memG ops (jbe ops ops.length) 0 = jca ops := by
 unfold memG jca;refine List.map_congr_left fun j _ => ?_
 unfold gAt
 cases (jbe ops ops.length).getD j none <;> simp
def seedT (ops : List shOp.T) : jaa.T := tFill (vAt ops (ops.length - 1)).1.toNat (vAt ops (ops.length - 1)).2.1.toNat jcl
theorem gradT_zero (ops : List shOp.T) (h : 1 ≤ ops.length) : hasG (jbe ops 0) = (List.replicate ops.length false).set (ops.length - 1) true ∧ memG ops (jbe ops 0) ops.length = (List.replicate ops.length t0).set (ops.length - 1) (seedT ops) := by
 have e : jbe ops 0 = giveG (List.replicate ops.length none) (ops.length - 1) (seedT ops) := by
  unfold jbe giveG seedT;simp [show ops.length - 1 < ops.length by omega]
 rw [e]
 constructor
 · rw [hasG_give _ _ _ (by simp;omega)]
   simp [hasG]
 · rw [memG_give _ _ _ _ (by simp) (by omega)]
   have h1 : (hasG (List.replicate ops.length none)).getD (ops.length - 1) false = false := by
    rw [hasG_get _ (by rw [List.length_replicate];omega)];simp [List.getD_eq_getElem?_getD,show ops.length - 1 < ops.length by omega]
   rw [h1]
   have h2 : memG ops (List.replicate ops.length none) ops.length = List.replicate ops.length t0 := by
    refine getD_ext t0 ((jb9 _ _ _).trans (by rw [List.length_replicate])) fun j hj => ?_
    have hj' : j < ops.length := by rw [jb9] at hj;exact hj
    rw [memG_get _ _ hj'];simp [hj',show ¬ ops.length ≤ j by omega]
   rw [h2];rfl
theorem step_none {ops : List shOp.T} {m : Nat} (h : (jbe ops m).getD (ops.length - 1 - m) none = none) : jbe ops (m + 1) = jbe ops m := by
 show stepG ops (ops.length - 1 - m) (jbe ops m) = _;unfold stepG;rw [h]
theorem step_inp {ops : List shOp.T} {m : Nat} (h : (ops.getD (ops.length - 1 - m) o0).1 = 0) : jbe ops (m + 1) = jbe ops m := by
 show stepG ops (ops.length - 1 - m) (jbe ops m) = _;unfold stepG
 cases (jbe ops m).getD (ops.length - 1 - m) none with
 | none => rfl
 | some g => simp only;rw [if_pos h]
theorem step_op {ops : List shOp.T} {m : Nat} {g : jaa.T} {o : shOp.T} (ho : ops.getD (ops.length - 1 - m) o0 = o) (h : (jbe ops m).getD (ops.length - 1 - m) none = some g) (hk : o.1 ≠ 0) :
 jbe ops (m + 1) = if twoK o.1.toNat then giveG (giveG (jbe ops m) o.2.1.toNat (partA o.1.toNat o.2.2.2.1 g (vAt ops o.2.1.toNat) (vAt ops o.2.2.1.toNat))) o.2.2.1.toNat (partB o.1.toNat g (vAt ops o.2.1.toNat) (vAt ops o.2.2.1.toNat)) else giveG (jbe ops m) o.2.1.toNat (partA o.1.toNat o.2.2.2.1 g (vAt ops o.2.1.toNat) (vAt ops o.2.2.1.toNat)) := by
 subst ho;show stepG ops (ops.length - 1 - m) (jbe ops m) = _;unfold stepG;rw [h];simp only;rw [if_neg hk]
theorem made_tens (n : Nat) : (madeCells (Value.agg #[.int .i64 0,.int .i64 0,.slice none 0 0]).cells (n * 3)).toList = (List.replicate n [Value.int .i64 0,.int .i64 0,.slice none 0 0]).flatten := by
 induction n with
 | zero => simp [madeCells]
 | succ n ih =>
   rw [List.replicate_succ',List.flatten_append,← ih];simp only [madeCells,List.flatten_cons,List.flatten_nil,List.append_nil,Value.cells,Nat.add_mul,Nat.one_mul,Array.toList_map,Array.toList_range];rw [List.range_add,List.map_append]
   congr 1
   simp [List.range_succ,Nat.add_mod,Nat.mul_mod]
theorem made_bools (n : Nat) : (madeCells (Value.bool false).cells (n * 1)).toList = (List.replicate n false).map Value.bool := by
 refine List.ext_getElem ?_ fun i h1 h2 => ?_
 · simp [madeCells]
 · simp [madeCells] at h1 h2 ⊢
   simp [Value.cells,Nat.mod_one]
end Go.Proofs.Ytmbckkcgiafagaa
