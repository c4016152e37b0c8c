/- A part of the proofs: Fwd2, Fwd3, Mk, HTensor, Ten, Agg, Lay. -/
import Derived.Test.YtmbckkcgiafagaaZ05FnFuse
import Derived.Test.YtmbckkcgiafagaaZ02FnFuse
import Derived.Test.YtmbckkcgiafagaaZ03FnFuse
import Derived.IntWalk
set_option linter.unusedSimpArgs false
set_option linter.unusedVariables false
set_option maxRecDepth 100000
set_option maxHeartbeats 16000000
namespace Go.Proofs.Ytmbckkcgiafagaa
open Go.RowKit
def kz (i : Nat) : Nat := FloatKind.f64.nearest ((12 - i : Nat) : Int)
theorem kz_zero : kz 0 = 4622945017495814144 := by decide +kernel
theorem kz_ge : ∀ i : Nat,i < 12 → (FloatKind.f64.format.order (kz i) 4607182418800017408 == some .gt || FloatKind.f64.format.order (kz i) 4607182418800017408 == some .eq) = true := by decide +kernel
theorem kz_end : (FloatKind.f64.format.order (kz 12) 4607182418800017408 == some .gt || FloatKind.f64.format.order (kz 12) 4607182418800017408 == some .eq) = false := by decide +kernel
theorem kz_sub : ∀ i : Nat,i < 12 → fop .sub .f64 (cn .f64 (kz i)) (cn .f64 4607182418800017408) = kz (i + 1) := by decide +kernel
theorem kz_not : ∀ i : Nat,i < 13 → (FloatKind.f64.decode (kz i)).isNaN = false := by decide +kernel
theorem kz_next {i r : Nat} (hi : i < 12) (h : cn .f64 r = fop .sub .f64 (cn .f64 (kz i)) (cn .f64 4607182418800017408)) : r = kz (i + 1) := by
 rw [kz_sub i hi] at h;refine (eq_of_cn (k := .f64) (x := kz (i + 1)) (y := r) ?_ (kz_not _ (by omega))).symm;rw [h];exact jba (kz_not _ (by omega))
def mz : Value → Nat
 | .float _ b => 13 - (List.range 13).findIdx (fun i => kz i == b)
 | _ => 0
theorem mz_kz : ∀ i : Nat,i < 13 → mz (.float .f64 (kz i)) = 13 - i := by decide +kernel
theorem cn_one : cn .f64 4607182418800017408 = oneD := by decide +kernel
theorem cn_256 : cn .f64 4643211215818981376 = c256 := by decide +kernel
theorem cn_kz {i : Nat} (hi : i ≤ 12) : cn .f64 (kz i) = kz i := jba (kz_not i (by omega))
theorem exp64_any (b : Nat) (w : World) : Calls Try.prog 155 #[.float .f64 b] w (RF .f64 w (expD (cn .f64 b))) := by
 go_enter Try.func155,Try.ntmps155;go_wp2_with ((with_reducible show gx3);refine wl_fop rfl rfl rfl rfl rfl ?_;intro r0 w0 e0 g0;have G0 := hid g0;clear g0);obtain ⟨T,hT⟩ : ∃ T,T = fop .quo .f64 (cn .f64 b) c256 := ⟨_,rfl⟩;have HT := hid hT;replace G0 := G0.out;rw [cn_256,← hT] at G0;have G1 := hid G0;clear hT G0;go_loopw [4,5] (fun sv kv wr => ∃ (i p : Nat),i ≤ 12 ∧ kv = .float .f64 (kz i) ∧ sv = .float .f64 p ∧ Hid (cn .f64 p = expP T i) ∧ Ext w wr) (fun _ kv _ => mz kv)
 case atStart => exact ⟨0,4607182418800017408,by omega,by rw [kz_zero],rfl,cn_one,by with_reducible assumption⟩
 case round =>
  obtain ⟨i,p,hi,rfl,rfl,HB,he⟩ := hrel
  by_cases hlt : i < 12
  · have ha := kz_ge i hlt
    obtain ⟨K,hK⟩ : ∃ K,K = kz i := ⟨_,rfl⟩;have HK := hid hK;rw [← hK] at ha ⊢;clear hK;go_wp2_with ((with_reducible show gx3);refine wl_fop rfl rfl rfl rfl rfl ?_;first | (have zz := G7;intro r8 w8 e8 g8;have G8 := hid g8;clear g8 zz;replace he := he.trans e8) | (have zz := G6;intro r7 w7 e7 g7;have G7 := hid g7;clear g7 zz;replace he := he.trans e7) | (have zz := G5;intro r6 w6 e6 g6;have G6 := hid g6;clear g6 zz;replace he := he.trans e6) | (intro r5 w5 e5 g5;have G5 := hid g5;clear g5;replace he := he.trans e5));have q8 : r8 = kz (i + 1) := kz_next hlt (by rw [← HK.out];exact G8.out);subst q8;go_roundw
    case rel =>
     refine ⟨i + 1,_,by omega,rfl,rfl,?_,he⟩;rw [Hid,G7.out,G6.out,G5.out,G1.out,HB.out,HK.out,cn_one,cn_kz hi];rfl
    case measure => rw [HK.out,mz_kz i (by omega),mz_kz (i + 1) (by omega)];omega
  · obtain rfl : i = 12 := by omega
    have ha := kz_end;go_wp2;obtain ⟨P,hP⟩ : ∃ P,P = expP T 12 := ⟨_,rfl⟩;have HP := hid hP;have H0 : cn .f64 p = P := by rw [hP];exact HB.out
    have H1 := hid H0;clear hP H0 ha;go_loopw [4,18] (fun sv iv wr => ∃ (i p : Nat),i ≤ 8 ∧ iv = .int .i64 i ∧ sv = .float .f64 p ∧ Hid (cn .f64 p = sqrD P i) ∧ Ext w wr) (fun _ iv _ => 8 - (intOf iv).toNat)
    case atStart => exact ⟨0,p,by omega,rfl,rfl,H1.out,by with_reducible assumption⟩
    case round =>
     clear he H1 HB;obtain ⟨i,p,hi,rfl,rfl,HB,he⟩ := hrel
     by_cases hlt : i < 8
     · go_wp2_with ((with_reducible show gx3);refine wl_fop rfl rfl rfl rfl rfl ?_;intro r5 w5 e5 g5;have G5 := hid g5;clear g5;replace he := he.trans e5)
       go_roundw
       case rel =>
        refine ⟨i + 1,_,by omega,by go_num,rfl,?_,he⟩;rw [Hid,G5.out,HB.out];rfl
       case measure => simp [intOf];omega
     · obtain rfl : i = 8 := by omega
       go_wp2;go_ret;refine ⟨p,rfl,?_,he⟩;rw [HB.out,HP.out,HT.out];rfl
theorem gt_cn {k : FloatKind} {b c : Nat} (hc : cn k c = c) : (k.format.order b c == some .gt) = fgt k (cn k b) c := by
 have := fgt_cn k b c;rw [hc] at this;rw [this];rfl
theorem lt_cn {k : FloatKind} {b c : Nat} (hc : cn k c = c) : (k.format.order b c == some .lt) = flt k (cn k b) c := by
 have := flt_cn k b c;rw [hc] at this;rw [this];rfl
theorem cn_c200 : cn .f32 c200 = c200 := by decide +kernel
theorem cn_n200 : cn .f32 n200 = n200 := by decide +kernel
theorem cn_c20 : cn .f32 c20 = c20 := by decide +kernel
theorem cn_n20 : cn .f32 n20 = n20 := by decide +kernel
theorem cn_two : cn .f64 4611686018427387904 = twoD := by decide +kernel
theorem ExpNumber_any (b : Nat) (w : World) (h : NonPos (cn .f32 b)) : Calls Try.prog 168 #[.float .f32 b] w (RF .f32 w (expF (cn .f32 b))) := by
 have h1 := nonpos_gt h;have h4 := exp_over h;have hr : expF (cn .f32 b) = if flt .f32 (cn .f32 b) n200 then 0 else jam .f64 (expD (jam .f32 (cn .f32 b) .f64)) .f32 := by unfold expF;rw [h1];rfl
 have a1 : (FloatKind.f32.format.order b 1128792064 == some .gt) = false := by rw [← h1];exact gt_cn cn_c200
 have a2 : (FloatKind.f32.format.order b 3276275712 == some .lt) = flt .f32 (cn .f32 b) n200 := lt_cn cn_n200
 cases hl : flt .f32 (cn .f32 b) n200
 · rw [hl] at a2 hr
   have H4 := hid (h4 hl);have HR := hid hr;clear h4 hr h1 h hl;go_enter Try.func168,Try.ntmps168;go_wp2_with ((with_reducible show gx4);refine wl_conv rfl rfl rfl (by kernel_rfl) jax (jbd _) ?_;intro r0 w0 e0 g0;have G0 := hid g0;clear g0);refine (exp64_any r0 _).mono ?_;rintro e w1 ⟨b1,rfl,g1,e1⟩
   rw [G0.out] at g1;have G1 := hid g1;clear g1;go_wp2_with ((with_reducible show gx4);refine wl_conv rfl rfl rfl (by kernel_rfl) jaq (by rw [G1.out];exact H4.out) ?_;intro r2 w2 e2 g2;have G2 := hid g2;clear g2);go_ret;exact ⟨r2,rfl,by rw [G2.out,G1.out,HR.out];rfl,(e0.trans e1).trans e2⟩
 · rw [hl] at a2 hr
   have HR := hid hr;clear h4 hr h1 h hl;go_enter Try.func168,Try.ntmps168;go_wp2;go_ret;exact ⟨0,rfl,by rw [HR.out,if_pos trivial];exact cn0,Ext.refl _⟩
theorem cn_cmp {b : Nat} : (FloatKind.f32.format.order b 1101004800 == some .gt) = fgt .f32 (cn .f32 b) c20 ∧ (FloatKind.f32.format.order b 3248488448 == some .lt) = flt .f32 (cn .f32 b) n20 := ⟨gt_cn cn_c20,lt_cn cn_n20⟩
theorem f32_one : cn .f32 1065353216 = 1065353216 := by decide +kernel
theorem f32_mone : cn .f32 3212836864 = 3212836864 := by decide +kernel
theorem TanhNumber_any (b : Nat) (w : World) : Calls Try.prog 126 #[.float .f32 b] w (RF .f32 w (tanF (cn .f32 b))) := by
 obtain ⟨a1,a2⟩ := cn_cmp (b := b);have hr : tanF (cn .f32 b) = if fgt .f32 (cn .f32 b) c20 then 1065353216 else if flt .f32 (cn .f32 b) n20 then 3212836864 else jam .f64 (tanhD (expD (tanW (cn .f32 b)))) .f32 := rfl;have h4 := tanh_over (x := cn .f32 b)
 cases hg : fgt .f32 (cn .f32 b) c20
 · rw [hg] at a1 hr
   cases hl : flt .f32 (cn .f32 b) n20
   · rw [hl] at a2 hr
     have HR := hid hr;have H4 := hid (h4 hg hl);clear hr h4 hg hl;go_enter Try.func126,Try.ntmps126;go_wp2_with (first | ((with_reducible show gx4);refine wl_conv rfl rfl rfl (by kernel_rfl) jax (jbd _) ?_;intro r0 w0 e0 g0;have G0 := hid g0;clear g0) | ((with_reducible show gx3);refine wl_fop rfl rfl rfl rfl rfl ?_;intro r1 w1 e1 g1;have G1 := hid g1;clear g1));refine (exp64_any r1 _).mono ?_;rintro e w2 ⟨b2,rfl,g2,e2⟩
     have G2 := hid g2;clear g2;have hv : cn .f64 r1 = tanW (cn .f32 b) := by rw [G1.out,G0.out,cn_two];rfl
     have HV := hid hv;clear hv;go_wp2_with (first | ((with_reducible show gx3);refine wl_fop rfl rfl rfl rfl rfl ?_;first | (have zz := G4;intro r5 w5 e5 g5;have G5 := hid g5;clear g5 zz) | (have zz := G3;intro r4 w4 e4 g4;have G4 := hid g4;clear g4 zz) | (intro r3 w3 e3 g3;have G3 := hid g3;clear g3)) | ((with_reducible show gx4);refine wl_conv rfl rfl rfl (by kernel_rfl) jaq (by rw [G5.out,G4.out,G3.out,G2.out,HV.out,cn_one];exact H4.out) ?_;intro r6 w6 e6 g6;have G6 := hid g6;clear g6));go_ret;refine ⟨r6,rfl,?_,(((((e0.trans e1).trans e2).trans e3).trans e4).trans e5).trans e6⟩;rw [G6.out,G5.out,G4.out,G3.out,G2.out,HV.out,cn_one,HR.out];rfl
   · rw [hl] at a2 hr
     have HR := hid hr;clear hr h4 hg hl;go_enter Try.func126,Try.ntmps126;go_wp2;go_ret;exact ⟨_,rfl,by rw [HR.out];exact f32_mone,Ext.refl _⟩
 · rw [hg] at a1 hr
   have HR := hid hr;clear hr h4 hg;go_enter Try.func126,Try.ntmps126;go_wp2;go_ret;exact ⟨_,rfl,by rw [HR.out];exact f32_one,Ext.refl _⟩
/-! Roots. -/
theorem fsqrt_cn (k : FloatKind) (b : Nat) : (k.format.sqrt b).getD (nanB k) = fsqrt k (cn k b) := by
 by_cases h : (k.decode b).isNaN = true
 · have h2 : (k.decode (cn k b)).isNaN = true := by rw [jbj];exact h
   have key : ∀ y,(k.decode y).isNaN = true → k.format.sqrt y = none := fun y hy => by
    obtain ⟨s,f,hd⟩ := jaf hy;show ((k.decode y).root _).map _ = _;rw [hd];rfl
   unfold fsqrt;rw [key _ h,key _ h2]
 · rw [jba (by simpa using h)];rfl
theorem root_not {n : Nat} {x z : Ieee.Datum} (h : x.root n = some z) : z.isNaN = false := by
 cases x with
 | nan s t => cases h
 | infinity s => cases s <;> simp [Ieee.Datum.root] at h;subst h;rfl
 | number s m i =>
   unfold Ieee.Datum.root at h;dsimp only at h
   split at h
   · cases h;rfl
   · split at h
     · cases h
     · cases h;rfl
theorem cn_fsqrt (k : FloatKind) (b : Nat) : cn k (fsqrt k b) = fsqrt k b := by
 unfold fsqrt
 cases h : k.format.sqrt b with
 | none => exact cn_nan (jav k)
 | some r => exact jba (isNaN_map (fun z hz => root_not hz) h)
theorem run_extern2 {P : Program} {f : FuncId} {fn : Func} {e : Array Value → Sem Value} {args : Array Value} {v : Value} {w w' : World} (hf : P.funcs[f]? = some fn) (hname : (fn.name == "runtime.NumGoroutine") = false) (hb : fn.body.isNone = true)
 (hn : Extern.findNext fn = none) (he : Extern.find fn = some e) (hr : (e args).run P w = .ok v w') : (callFunc f args).run P w = .ok (.value v) w' := by
 have hname' : ¬ fn.name = "runtime.NumGoroutine" := by simpa using hname
 have hb' : fn.body = none := by simpa using hb
 simp [callFunc,hf,hname',hb',hn,he,hr,program,Sem.run,mark]
theorem run_sqrt (b : Nat) (w : World) : ∃ r n,(callFunc 174 #[.float .f64 b]).run Try.prog w = .ok (.value (.float .f64 r)) (w.drewN n) ∧ cn .f64 r = fsqrt .f64 (cn .f64 b) := by
 rw [← fsqrt_cn]
 have hR : ∀ v w',(Extern.MathSqrt.sqrt #[.float .f64 b]).run Try.prog w = .ok v w' → (callFunc 174 #[.float .f64 b]).run Try.prog w = .ok (.value v) w' := fun v w' h =>
  run_extern2 (e := Extern.MathSqrt.sqrt) Try.func174 (by kernel_rfl) (by kernel_rfl) (by kernel_rfl) (by kernel_rfl) h
 have hs : Extern.MathSqrt.sqrt #[.float .f64 b] = (match FloatKind.f64.format.sqrt b with | some r => pure (.float .f64 r) | none => do pure (.float .f64 (← choose (.nanBits .f64 b b)))) := rfl
 cases h : FloatKind.f64.format.sqrt b with
 | some r =>
   refine ⟨r,0,hR _ _ ?_,?_⟩
   · rw [hs,h];simp [Sem.run,World.drewN]
   · have := cn_fsqrt .f64 b
     unfold fsqrt at this;rw [h] at this;exact this
 | none =>
   have key : ∀ q : Question,q = .nanBits .f64 b b → ∃ r,(Extern.MathSqrt.sqrt #[.float .f64 b]).run Try.prog w = .ok (.float .f64 (q.cut r)) (w.drewN 1) := by
    rintro q rfl
    refine ⟨w.tape w.drawn (.nanBits .f64 b b),?_⟩;rw [hs,h];simp [choose,Sem.run,Question.forced,World.drewN]
   obtain ⟨r,hr⟩ := key _ rfl;exact ⟨_,1,hR _ _ hr,cn_nan (cut_nan64 r)⟩
theorem Sqrt_any (b : Nat) (w : World) : Calls Try.prog 169 #[.float .f64 b] w (RF .f64 w (fsqrt .f64 (cn .f64 b))) := by
 obtain ⟨r,n,hx,hr⟩ := run_sqrt b w;have HR := hid hr;clear hr;have e1 : Ext w (w.drewN n) := Ext.drewN _ _;go_enter Try.func169,Try.ntmps169;go_wp2;go_ret;exact ⟨r,rfl,HR.out,by with_reducible assumption⟩
def Sh.ok : Sh → Bool
 | .sl e => e.ok && decide (e.sz ≤ 32)
 | .pr a b => a.ok && b.ok
 | _ => true
def OwnEs (w : World) (e : Sh) (css : List (List Value)) (bss : List (List Nat)) (l : List e.T) : Prop :=
 css.length = l.length ∧ bss.length = l.length ∧ ∀ (i : Nat) (cs : List Value) (bs : List Nat) (d : e.T),css[i]? = some cs → bss[i]? = some bs → l[i]? = some d → Own w e cs d bs
theorem All2.toGet {A B : Type} {R : A → B → Prop} {us : List A} {bs : List B} (h : All2 R us bs) : ∀ (i : Nat) (a : A) (b : B),us[i]? = some a → bs[i]? = some b → R a b := by
 induction h with
 | nil => intro i a b h;simp at h
 | cons h _ ih =>
   intro i a b h1 h2
   cases i with
   | zero => simp at h1 h2;subst h1;subst h2;exact h
   | succ i => exact ih i a b (by simpa using h1) (by simpa using h2)
theorem own_sl {w : World} {e : Sh} {cs : List Value} {l : List e.T} {bs : List Nat} : Own w (.sl e) cs l bs ↔ ∃ p c css bss,cs = [.slice p l.length c] ∧ jbb w p l.length c (List.flatten css) ∧ l.length ≤ c ∧ c ≤ maxLen ∧ OwnEs w e css bss l ∧ bs = jac p ++ bss.flatten := by
 constructor
 · rintro ⟨p,c,css,bss,h1,h2,h3,h4,h5,h6,h7,h8⟩
   refine ⟨p,c,css,bss,h1,h2,h3,h4,⟨h6,h7,fun i a b d ha hb hd => ?_⟩,h8⟩;exact h5.toGet i (a,b) d (by rw [List.getElem?_zip_eq_some];exact ⟨ha,hb⟩) hd
 · rintro ⟨p,c,css,bss,h1,h2,h3,h4,⟨h6,h7,h5⟩,h8⟩
   refine ⟨p,c,css,bss,h1,h2,h3,h4,All2.of_get (by rw [List.length_zip];omega) (fun i a b ha hb => ?_),h6,h7,h8⟩;obtain ⟨h9,h10⟩ := List.getElem?_zip_eq_some.1 ha;exact h5 i _ _ _ h9 h10 hb
theorem OwnEs.chg {S : Nat → Prop} {w w' : World} {e : Sh} {css : List (List Value)} {bss : List (List Nat)} {l : List e.T} (h : OwnEs w e css bss l) (k : Chg S w w') (hS : ∀ b ∈ bss.flatten,¬ S b) : OwnEs w' e css bss l :=
 ⟨h.1,h.2.1,fun i cs bs d h1 h2 h3 => (h.2.2 i cs bs d h1 h2 h3).chg k fun b hb => hS b (List.mem_flatten.2 ⟨bs,List.mem_of_getElem? h2,hb⟩)⟩
theorem OwnEs.all {w : World} {e : Sh} {css : List (List Value)} {bss : List (List Nat)} {l : List e.T} (h : OwnEs w e css bss l) : ∀ c ∈ css,c.length = e.sz := by
 intro cs hm;obtain ⟨i,hi,rfl⟩ := List.mem_iff_getElem.1 hm;have h1 := h.1;have h2 := h.2.1;exact (h.2.2 i css[i] bss[i] l[i] (by simp) (by simp) (by simp)).rep.size
theorem flat_apart : ∀ {bss : List (List Nat)},bss.flatten.Nodup → ∀ {i j : Nat} {bi bj : List Nat},bss[i]? = some bi → bss[j]? = some bj → j ≠ i → ∀ b ∈ bj,b ∉ bi
 | [],_,i,j,bi,bj,h,_,_,_,_ => by simp at h
 | x :: bss,hn,i,j,bi,bj,hi,hj,hne,b,hb => by
   rw [List.flatten_cons,List.nodup_append] at hn;obtain ⟨_,h2,h3⟩ := hn
   match i,j with
   | 0,0 => exact (hne rfl).elim
   | 0,j + 1 =>
     simp at hi hj;subst hi;exact fun h => h3 b h b (List.mem_flatten.2 ⟨bj,List.mem_of_getElem? hj,hb⟩) rfl
   | i + 1,0 =>
     simp at hi hj;subst hj;exact fun h => h3 b hb b (List.mem_flatten.2 ⟨bi,List.mem_of_getElem? hi,h⟩) rfl
   | i + 1,j + 1 => exact flat_apart h2 (by simpa using hi) (by simpa using hj) (by omega) b hb
theorem flat_nodup : ∀ {bss : List (List Nat)},bss.flatten.Nodup → ∀ {i : Nat} {bi : List Nat},bss[i]? = some bi → bi.Nodup
 | [],_,i,bi,h => by simp at h
 | x :: bss,hn,i,bi,h => by
   rw [List.flatten_cons,List.nodup_append] at hn
   match i with
   | 0 => simp at h;subst h;exact hn.1
   | i + 1 => exact flat_nodup hn.2.1 (by simpa using h)
theorem nodup_split {a b : List Nat} (h : (a ++ b).Nodup) : a.Nodup ∧ b.Nodup ∧ (∀ x ∈ a,x ∉ b) ∧ (∀ x ∈ b,x ∉ a) := by
 rw [List.nodup_append] at h;exact ⟨h.1,h.2.1,fun x hx hy => h.2.2 x hx x hy rfl,fun x hx hy => h.2.2 x hy x hx rfl⟩
theorem nodup_app {a b : List Nat} {B : Nat} (h1 : a.Nodup) (h2 : b.Nodup) (l1 : ∀ x ∈ a,x < B) (l2 : ∀ x ∈ b,B ≤ x) : (a ++ b).Nodup := by
 rw [List.nodup_append];exact ⟨h1,h2,fun x hx y hy h => by have := l1 x hx;have := l2 y hy;omega⟩
theorem OwnEs.snoc {w : World} {e : Sh} {css : List (List Value)} {bss : List (List Nat)} {l : List e.T} (h : OwnEs w e css bss l) {cs : List Value} {bs : List Nat} {d : e.T} (ho : Own w e cs d bs) : OwnEs w e (css ++ [cs]) (bss ++ [bs]) (l ++ [d]) := by
 obtain ⟨h1,h2,h3⟩ := h;refine ⟨by simp [h1],by simp [h2],fun i cs' bs' d' g1 g2 g3 => ?_⟩
 by_cases hi : i < l.length
 · rw [List.getElem?_append_left (by omega)] at g1 g2 g3
   exact h3 i _ _ _ g1 g2 g3
 · rw [List.getElem?_append_right (by omega)] at g1 g2 g3
   rw [h1] at g1;rw [h2] at g2;generalize i - l.length = j at *
   cases j with
   | zero => simp at g1 g2 g3;subst g1;subst g2;subst g3;exact ho
   | succ j => simp at g1
abbrev jae : Sh := .pr .int (.pr .int (.pr (.sl .flt) (.un)))
instance elStTensorimpl : ElTy Try.prog 27 jae := ⟨by kernel_rfl,by kernel_rfl⟩
def RetB (w : World) (b : Bool) (e : Ending) (w' : World) : Prop := e = .returned (.bool b) ∧ Ext w w'
def tenB (r c : Int) (n : Nat) : Bool := inB r 1 16 && inB c 1 16 && decide ((n : Int) = r * c)
theorem jao (x : Int) (h0 : -9223372036854775808 ≤ x) (h1 : x ≤ 9223372036854775807) : IntKind.i64.wrap x = x := IntWalk.i64_in _ (by omega)
theorem calls_retB {P : Program} {f : Nat} {xs : Array Value} {w : World} {b : Bool} (h : Calls P f xs w (RetB w b)) : Calls P f xs w fun e w3 => ∃ u,e = .returned u ∧ Ext w w3 ∧ u = .bool b :=
 h.mono fun e w3 h => ⟨_,h.1,h.2,rfl⟩
theorem ValidTensor_any (r c : Int) (p : Option Addr) (n cp : Nat) (w : World) (hn : n ≤ maxLen) :
 Calls Try.prog 69 #[.agg #[.int .i64 r,.int .i64 c,.slice p n cp]] w (RetB w (tenB r c n)) := by
 unfold maxLen at hn
 cases h1 : inB r 1 16
 · have hb : tenB r c n = false := by simp [tenB,h1]
   have H1 := hid h1;rw [hb];clear h1 hb;go_enter Try.func69,Try.ntmps69;go_wp2_with fail;refine (isSide_any _ _).mono ?_;rintro e w1 ⟨rfl,rfl⟩
   rw [H1.out];go_wp2;go_ret;exact ⟨rfl,Ext.alloc _ _⟩
 · cases h2 : inB c 1 16
   · have hb : tenB r c n = false := by simp [tenB,h2]
     have H1 := hid h1;have H2 := hid h2;rw [hb];clear h1 h2 hb;go_enter Try.func69,Try.ntmps69;go_wp2_with fail;refine (isSide_any _ _).mono ?_;rintro e w1 ⟨rfl,rfl⟩
     rw [H1.out];go_wp2_with fail;refine (isSide_any _ _).mono ?_;rintro e w1 ⟨rfl,rfl⟩
     rw [H2.out];go_wp2;go_ret;exact ⟨rfl,Ext.alloc _ _⟩
   · have hb : tenB r c n = decide ((n : Int) = r * c) := by simp [tenB,h1,h2]
     have H1 := hid h1;have H2 := hid h2;rw [jas] at h1 h2;have hm : r * c ≤ 256 := by have := Int.mul_le_mul h1.2 h2.2 (by omega) (by decide);omega
     have hm0 : 0 ≤ r * c := Int.mul_nonneg (by omega) (by omega);rw [hb];clear hb;go_enter Try.func69,Try.ntmps69;go_wp2_with fail;refine (isSide_any _ _).mono ?_;rintro e w1 ⟨rfl,rfl⟩
     rw [H1.out];go_wp2_with fail;refine (isSide_any _ _).mono ?_;rintro e w1 ⟨rfl,rfl⟩
     rw [H2.out];go_wp2;go_ret;exact ⟨ret_bool (a := ((n : Int) == r * c)) rfl,Ext.alloc _ _⟩
section
variable {P : Program} {w : World} {ops : Array Oper} {rest : List Oper} {o o1 o2 : Oper} {a : Act} {Q : Exit → Act → World → Prop}
theorem wl_ldA {t : TypeId} {s : Sh} [ElTy P t s] {x : Operand} (hg : o.guard = none) (ho : o.op = .load t x) {q : Addr} {cs : List Value} (hx : a.eval x = .pointer (some q)) (hc : Cs w (some q) cs) (hl : cs.length = s.sz)
 (h : wpList P ops Q rest (a.put o.dst (ofCs s cs)) w) : wpList P ops Q (o :: rest) a w :=
 jbi hg (by simp [execOp,ho,hx,run_loadE (P := P) (t := t) (s := s) hc hl]) h
theorem wl_box {t : TypeId} {s : Sh} {x : Operand} (hg : o.guard = none) (ho : o.op = .box t x) {cs : List Value} (hx : a.eval x = ofCs s cs) (hl : cs.length = s.sz) (h1 : ∀ u ∈ cs,u.oneCell' = true)
 (h : ∀ b w',Ext w w' → w.heap.size ≤ b → Cs w' (some ⟨b,0,none⟩) cs → wpList P ops Q rest (a.put o.dst (.pointer (some ⟨b,0,none⟩))) w') : wpList P ops Q (o :: rest) a w := by
 refine jbi hg (v := .pointer (some ⟨w.heap.size,0,none⟩)) (w' := w.alloc (.cells cs.toArray t)) ?_ (h _ _ (Ext.alloc _ _) (Nat.le_refl _) ⟨fun i u hu => ?_,fun _ => rfl⟩)
 · simp [execOp,ho,hx,Instr.box,newVar,newRow,ofCs_cells hl h1]
 · rw [jap]
   have hnew : (w.alloc (.cells cs.toArray t)).heap[w.heap.size]? = some (.cells cs.toArray t) := heap_alloc_new w _;unfold World.cell?;rw [hnew]
   simpa using hu
theorem run_stA {t : TypeId} {s : Sh} [T : ElTy P t s] {g : Nat} {Z : Array Value} {e : TypeId} {cs : List Value} (hg : w.heap[g]? = some (.cells Z e (0,0))) (hZ : Z.size = s.sz) (hl : cs.length = s.sz) (h1 : ∀ u ∈ cs,u.oneCell' = true) (hs : 0 < s.sz) :
 ∃ w',(Instr.storeAt t (.pointer (some ⟨g,0,none⟩)) (ofCs s cs)).run P w = .ok () w' ∧ Cs w' (some ⟨g,0,none⟩) cs ∧ Chg (fun b => b = g) w w' := by
 have how : jbb w (some ⟨g,0,none⟩) 1 1 ([Z.toList]).flatten := .inr ⟨g,Z,e,rfl,hg,by simp only [List.flatten_cons,List.flatten_nil,List.append_nil];exact List.take_length⟩;obtain ⟨w',h2,h3,h4⟩ := run_storeE (P := P) (t := t) (s := s) (j := 0) how (by simp [hZ]) (by simp) hl hs h1;refine ⟨w',?_,?_,h4.mono (by intro k hk;simpa [jac] using hk)⟩
 · rw [Nat.zero_mul,jap] at h2;exact h2
 · have := h3.cs;simpa using this
theorem wl_stA {t : TypeId} {s : Sh} [T : ElTy P t s] {x y : Operand} (hgd : o.guard = none) (ho : o.op = .store t x y) {g : Nat} {Z : Array Value} {e : TypeId} {cs : List Value} (hx : a.eval x = .pointer (some ⟨g,0,none⟩)) (hy : a.eval y = ofCs s cs)
 (hg : w.heap[g]? = some (.cells Z e (0,0))) (hZ : Z.size = s.sz) (hl : cs.length = s.sz) (h1 : ∀ u ∈ cs,u.oneCell' = true) (hs : 0 < s.sz)
 (h : ∀ w',Cs w' (some ⟨g,0,none⟩) cs → Chg (fun b => b = g) w w' → wpList P ops Q rest (a.put o.dst undef) w') : wpList P ops Q (o :: rest) a w := by
 obtain ⟨w',h2,h3,h4⟩ := run_stA (P := P) (t := t) hg hZ hl h1 hs;exact wl_skip hgd (by simp [execOp,ho,hx,hy,h2]) (h w' h3 h4)
end
def wCnt (k i o : Int) : Int := if k = 0 then i * o else if k = 2 then i else if k = 5 then i else 0
def bCnt (k i o : Int) : Int := if k = 0 then o else if k = 2 then 0 else if k = 5 then i else 0
def layB (k i o : Int) (nw nb : Nat) : Bool := inB k 0 5 && (inB i 1 8 && (inB o 1 8 && ((decide (k = 0) || decide (i = o)) && (decide ((nw : Int) = wCnt k i o) && decide ((nb : Int) = bCnt k i o)))))
theorem beq_t {a b : Int} (h : a = b) : (a == b) = true := beq_iff_eq.2 h
theorem jbt {a b : Int} (h : ¬ a = b) : (a == b) = false := beq_eq_false_iff_ne.2 h
theorem bne_t {a b : Int} (h : ¬ a = b) : (a != b) = true := by simp [h]
theorem bne_f {a b : Int} (h : a = b) : (a != b) = false := by simp [h]
theorem mul_bd {i o : Int} (hi : 1 ≤ i ∧ i ≤ 8) (ho : 1 ≤ o ∧ o ≤ 8) : 0 ≤ i * o ∧ i * o ≤ 64 :=
 ⟨Int.mul_nonneg (by omega) (by omega),by have := Int.mul_le_mul hi.2 ho.2 (by omega) (by decide);omega⟩
theorem ja9 (n : Int) (w : World) : Calls Try.prog 120 #[.int .i64 n] w fun e w' => e = .returned (.bool (inB n 1 8)) ∧ w = w' := by
 go_enter Try.func120,Try.ntmps120;go_wp2_with (refine (jau _ _ _ _).mono ?_;rintro e w' ⟨rfl,rfl⟩);go_ret;exact ⟨rfl,rfl⟩
theorem jbm (k i o : Int) (pw pb : Option Addr) (nw cw nb cb : Nat) (w : World) (h1 : nw ≤ maxLen) (h2 : nb ≤ maxLen) :
 Calls Try.prog 77 #[.agg #[.int .i64 k,.int .i64 i,.int .i64 o,.slice pw nw cw,.slice pb nb cb]] w (RetB w (layB k i o nw nb)) := by
 unfold maxLen at h1 h2;generalize hB : layB k i o nw nb = B;have HB := hid hB;clear hB;unfold layB at HB
 cases k1 : inB k 0 5
 · have K1 := hid k1
   have : B = false := by rw [← HB.out,k1];rfl
   subst this;clear k1;go_enter Try.func77,Try.ntmps77;go_wp2_with (go_at_call 57;refine (jau _ _ _ _).mono ?_;rintro e w1 ⟨rfl,rfl⟩;rw [K1.out]);go_ret;exact ⟨rfl,Ext.alloc _ _⟩
 cases k2 : inB i 1 8
 · have K1 := hid k1
   have K2 := hid k2;have : B = false := by rw [← HB.out,k1,k2];rfl
   subst this;clear k1 k2;go_enter Try.func77,Try.ntmps77;go_wp2_with (first | (go_at_call 57;refine (jau _ _ _ _).mono ?_;rintro e w1 ⟨rfl,rfl⟩;rw [K1.out]) | (go_at_call 120;refine (ja9 _ _).mono ?_;rintro e w1 ⟨rfl,rfl⟩;rw [K2.out]));go_ret;exact ⟨rfl,Ext.alloc _ _⟩
 cases k3 : inB o 1 8
 · have K1 := hid k1
   have K2 := hid k2;have K3 := hid k3;have : B = false := by rw [← HB.out,k1,k2,k3];rfl
   subst this;clear k1 k2 k3;go_enter Try.func77,Try.ntmps77;go_wp2_with (first | (go_at_call 57;refine (jau _ _ _ _).mono ?_;rintro e w1 ⟨rfl,rfl⟩;rw [K1.out]) | (go_at_call 120;refine (ja9 _ _).mono ?_;rintro e w1 ⟨rfl,rfl⟩;first | rw [K2.out] | rw [K3.out]));go_ret;exact ⟨rfl,Ext.alloc _ _⟩
 have K1 := hid k1;have K2 := hid k2;have K3 := hid k3;rw [jas] at k1 k2 k3;obtain ⟨m0,m1⟩ := mul_bd k2 k3;have hB2 : B = ((decide (k = 0) || decide (i = o)) && (decide ((nw : Int) = wCnt k i o) && decide ((nb : Int) = bCnt k i o))) := by rw [← HB.out,K1.out,K2.out,K3.out];rfl
 clear HB
 by_cases hk0 : k = 0
 · subst hk0
   have hw : wCnt 0 i o = i * o := rfl;have hb : bCnt 0 i o = o := rfl;rw [hw,hb] at hB2
   have hwr : wrap64 (o * i) = o * i := by
    have m2 : o * i = i * o := Int.mul_comm o i;unfold wrap64;rw [m2];omega
   by_cases e1 : (nw : Int) = i * o
   · by_cases e2 : (nb : Int) = o
     all_goals
      have E1 := beq_t (e1.trans (Int.mul_comm i o))
      first | have E2 := beq_t e2 | have E2 := jbt e2
      simp only [e1,e2,decide_true,decide_false,Bool.true_or,Bool.or_true,Bool.true_and,Bool.and_true,Bool.and_false] at hB2;subst hB2;clear e1 e2 hw hb;go_enter Try.func77,Try.ntmps77;go_wp2_with (first | (go_at_call 57;refine (jau _ _ _ _).mono ?_;rintro e w1 ⟨rfl,rfl⟩;rw [K1.out]) | (go_at_call 120;refine (ja9 _ _).mono ?_;rintro e w1 ⟨rfl,rfl⟩;first | rw [K2.out] | rw [K3.out]));refine jab (F := fun _ _ _ => True) (by kernel_rfl) (by kernel_rfl) (by kernel_rfl) ?_;intro wf hwf
      repeat (first
       | ((first | (refine jar rfl ?_) | (refine x_mv rfl rfl rfl ?_) | (refine x_as rfl rfl rfl ?_));simp only [Act.put,jad,pu1,pu2,pu3,pu4,pu5])
       | (refine ja7 rfl fun K hK w1 hw1 => ?_;have k0 := hw1.cellOf (b := w.heap.size) (by simp);go_simp;refine hK _ ?_;clear hK K k0 hw1 w1))
      refine ja6 ?_;have z := hwf.cellOf (b := w.heap.size) (by simp);go_wp2;go_ret;exact ⟨rfl,((Ext.alloc _ _).trans (Ext.drew _)).trans hwf⟩
   · have E1 := jbt (fun h => e1 (h.trans (Int.mul_comm o i)))
     simp only [e1,decide_true,decide_false,Bool.true_or,Bool.or_true,Bool.true_and,Bool.false_and,Bool.and_false] at hB2;subst hB2;clear e1 hw hb;go_enter Try.func77,Try.ntmps77;go_wp2_with (first | (go_at_call 57;refine (jau _ _ _ _).mono ?_;rintro e w1 ⟨rfl,rfl⟩;rw [K1.out]) | (go_at_call 120;refine (ja9 _ _).mono ?_;rintro e w1 ⟨rfl,rfl⟩;first | rw [K2.out] | rw [K3.out]));refine jab (F := fun _ _ _ => True) (by kernel_rfl) (by kernel_rfl) (by kernel_rfl) ?_;intro wf hwf
     repeat (first
      | ((first | (refine jar rfl ?_) | (refine x_mv rfl rfl rfl ?_) | (refine x_as rfl rfl rfl ?_));simp only [Act.put,jad,pu1,pu2,pu3,pu4,pu5])
      | (refine ja7 rfl fun K hK w1 hw1 => ?_;have k0 := hw1.cellOf (b := w.heap.size) (by simp);go_simp;refine hK _ ?_;clear hK K k0 hw1 w1))
     refine ja6 ?_;have z := hwf.cellOf (b := w.heap.size) (by simp);go_wp2;go_ret;exact ⟨rfl,((Ext.alloc _ _).trans (Ext.drew _)).trans hwf⟩
 by_cases hio : ¬ i = o
 · have F0 := bne_t hk0
   have F1 := bne_t hio;have : B = false := by rw [hB2];simp [hk0,hio]
   subst this;clear hk0 hio hB2;go_enter Try.func77,Try.ntmps77;go_wp2_with (first | (go_at_call 57;refine (jau _ _ _ _).mono ?_;rintro e w1 ⟨rfl,rfl⟩;rw [K1.out]) | (go_at_call 120;refine (ja9 _ _).mono ?_;rintro e w1 ⟨rfl,rfl⟩;first | rw [K2.out] | rw [K3.out]));go_ret;exact ⟨rfl,Ext.alloc _ _⟩
 have hio := Classical.not_not.1 hio;subst hio
 by_cases hk2 : k = 2
 · subst hk2
   have hw : wCnt 2 i i = i := rfl;have hb : bCnt 2 i i = 0 := rfl;rw [hw,hb] at hB2
   by_cases e1 : (nw : Int) = i
   · by_cases e2 : (nb : Int) = 0
     all_goals
      have E1 := beq_t e1
      first | have E2 := beq_t e2 | have E2 := jbt e2
      simp only [e1,e2,decide_true,decide_false,Bool.true_or,Bool.or_true,Bool.true_and,Bool.and_true,Bool.and_false] at hB2;subst hB2;clear e1 e2 hw hb;go_enter Try.func77,Try.ntmps77;go_wp2_with (first | (go_at_call 57;refine (jau _ _ _ _).mono ?_;rintro e w1 ⟨rfl,rfl⟩;rw [K1.out]) | (go_at_call 120;refine (ja9 _ _).mono ?_;rintro e w1 ⟨rfl,rfl⟩;first | rw [K2.out] | rw [K3.out]));go_ret;exact ⟨rfl,Ext.alloc _ _⟩
   · have E1 := jbt e1
     simp only [e1,decide_true,decide_false,Bool.true_or,Bool.or_true,Bool.true_and,Bool.false_and,Bool.and_false] at hB2;subst hB2;clear e1 hw hb;go_enter Try.func77,Try.ntmps77;go_wp2_with (first | (go_at_call 57;refine (jau _ _ _ _).mono ?_;rintro e w1 ⟨rfl,rfl⟩;rw [K1.out]) | (go_at_call 120;refine (ja9 _ _).mono ?_;rintro e w1 ⟨rfl,rfl⟩;first | rw [K2.out] | rw [K3.out]));go_ret;exact ⟨rfl,Ext.alloc _ _⟩
 by_cases hk5 : k = 5
 · subst hk5
   have hw : wCnt 5 i i = i := rfl;have hb : bCnt 5 i i = i := rfl;rw [hw,hb] at hB2
   by_cases e1 : (nw : Int) = i
   · by_cases e2 : (nb : Int) = i
     all_goals
      have E1 := beq_t e1
      first | have E2 := beq_t e2 | have E2 := jbt e2
      simp only [e1,e2,decide_true,decide_false,Bool.true_or,Bool.or_true,Bool.true_and,Bool.and_true,Bool.and_false] at hB2;subst hB2;clear e1 e2 hw hb;go_enter Try.func77,Try.ntmps77;go_wp2_with (first | (go_at_call 57;refine (jau _ _ _ _).mono ?_;rintro e w1 ⟨rfl,rfl⟩;rw [K1.out]) | (go_at_call 120;refine (ja9 _ _).mono ?_;rintro e w1 ⟨rfl,rfl⟩;first | rw [K2.out] | rw [K3.out]));refine jab (F := fun _ _ _ => True) (by kernel_rfl) (by kernel_rfl) (by kernel_rfl) ?_;intro wf hwf
      repeat (first
       | ((first | (refine jar rfl ?_) | (refine x_mv rfl rfl rfl ?_) | (refine x_as rfl rfl rfl ?_));simp only [Act.put,jad,pu1,pu2,pu3,pu4,pu5])
       | (refine ja7 rfl fun K hK w1 hw1 => ?_;have k0 := hw1.cellOf (b := w.heap.size) (by simp);go_simp;refine hK _ ?_;clear hK K k0 hw1 w1))
      refine ja6 ?_;have z := hwf.cellOf (b := w.heap.size) (by simp);go_wp2;go_ret;exact ⟨rfl,((Ext.alloc _ _).trans (Ext.drew _)).trans hwf⟩
   · have E1 := jbt e1
     simp only [e1,decide_true,decide_false,Bool.true_or,Bool.or_true,Bool.true_and,Bool.false_and,Bool.and_false] at hB2;subst hB2;clear e1 hw hb;go_enter Try.func77,Try.ntmps77;go_wp2_with (first | (go_at_call 57;refine (jau _ _ _ _).mono ?_;rintro e w1 ⟨rfl,rfl⟩;rw [K1.out]) | (go_at_call 120;refine (ja9 _ _).mono ?_;rintro e w1 ⟨rfl,rfl⟩;first | rw [K2.out] | rw [K3.out]));refine jab (F := fun _ _ _ => True) (by kernel_rfl) (by kernel_rfl) (by kernel_rfl) ?_;intro wf hwf
     repeat (first
      | ((first | (refine jar rfl ?_) | (refine x_mv rfl rfl rfl ?_) | (refine x_as rfl rfl rfl ?_));simp only [Act.put,jad,pu1,pu2,pu3,pu4,pu5])
      | (refine ja7 rfl fun K hK w1 hw1 => ?_;have k0 := hw1.cellOf (b := w.heap.size) (by simp);go_simp;refine hK _ ?_;clear hK K k0 hw1 w1))
     refine ja6 ?_;have z := hwf.cellOf (b := w.heap.size) (by simp);go_wp2;go_ret;exact ⟨rfl,((Ext.alloc _ _).trans (Ext.drew _)).trans hwf⟩
 have F0 := bne_t hk0;have F0' := jbt hk0;have F2 := jbt hk2;have F5 := jbt hk5;have hw : wCnt k i i = 0 := by unfold wCnt;rw [if_neg hk0,if_neg hk2,if_neg hk5]
 have hb : bCnt k i i = 0 := by unfold bCnt;rw [if_neg hk0,if_neg hk2,if_neg hk5]
 rw [hw,hb] at hB2;clear hk0 hk2 hk5 hw hb
 by_cases e1 : (nw : Int) = 0
 · by_cases e2 : (nb : Int) = 0
   all_goals
    have E1 := beq_t e1
    first | have E2 := beq_t e2 | have E2 := jbt e2
    simp only [e1,e2,decide_true,decide_false,Bool.true_or,Bool.or_true,Bool.true_and,Bool.and_true,Bool.and_false] at hB2;subst hB2;clear e1 e2;go_enter Try.func77,Try.ntmps77;go_wp2_with (first | (go_at_call 57;refine (jau _ _ _ _).mono ?_;rintro e w1 ⟨rfl,rfl⟩;rw [K1.out]) | (go_at_call 120;refine (ja9 _ _).mono ?_;rintro e w1 ⟨rfl,rfl⟩;first | rw [K2.out] | rw [K3.out]));go_ret;exact ⟨rfl,Ext.alloc _ _⟩
 · have E1 := jbt e1
   simp only [e1,decide_true,decide_false,Bool.true_or,Bool.or_true,Bool.true_and,Bool.false_and,Bool.and_false] at hB2;subst hB2;clear e1;go_enter Try.func77,Try.ntmps77;go_wp2_with (first | (go_at_call 57;refine (jau _ _ _ _).mono ?_;rintro e w1 ⟨rfl,rfl⟩;rw [K1.out]) | (go_at_call 120;refine (ja9 _ _).mono ?_;rintro e w1 ⟨rfl,rfl⟩;first | rw [K2.out] | rw [K3.out]));go_ret;exact ⟨rfl,Ext.alloc _ _⟩
end Go.Proofs.Ytmbckkcgiafagaa
