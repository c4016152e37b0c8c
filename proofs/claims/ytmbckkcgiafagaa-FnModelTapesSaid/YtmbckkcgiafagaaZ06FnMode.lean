/- A part of the proofs: Fwd2, Fwd3, Agg, Lay, Lay2, HLayer, HLayerS, HModel, Mod, App, Law, Open, Things. -/
import Derived.Test.YtmbckkcgiafagaaZ05FnMode
import Derived.Test.YtmbckkcgiafagaaZ02FnMode
import Derived.Test.YtmbckkcgiafagaaZ03FnMode
import Derived.ProofKit
import Derived.Deep.Slices
import Derived.WideShapes
import Derived.Laws.Cover2
set_option linter.unusedSimpArgs false
set_option linter.unusedVariables false
set_option maxRecDepth 100000
set_option maxHeartbeats 16000000
namespace Go.Proofs.Ytmbckkcgiafagaa
open Go.RowKit
def kz (i : Nat) : Nat := FloatKind.f64.nearest ((12 - i : Nat) : Int)
theorem kz_zero : kz 0 = 4622945017495814144 := by decide +kernel
theorem kz_ge : ∀ i : Nat,i < 12 → (FloatKind.f64.format.order (kz i) 4607182418800017408 == some .gt || FloatKind.f64.format.order (kz i) 4607182418800017408 == some .eq) = true := by decide +kernel
theorem kz_end : (FloatKind.f64.format.order (kz 12) 4607182418800017408 == some .gt || FloatKind.f64.format.order (kz 12) 4607182418800017408 == some .eq) = false := by decide +kernel
theorem kz_sub : ∀ i : Nat,i < 12 → fop .sub .f64 (cn .f64 (kz i)) (cn .f64 4607182418800017408) = kz (i + 1) := by decide +kernel
theorem kz_not : ∀ i : Nat,i < 13 → (FloatKind.f64.decode (kz i)).isNaN = false := by decide +kernel
theorem kz_next {i r : Nat} (hi : i < 12) (h : cn .f64 r = fop .sub .f64 (cn .f64 (kz i)) (cn .f64 4607182418800017408)) : r = kz (i + 1) := by
 rw [kz_sub i hi] at h;refine (eq_of_cn (k := .f64) (x := kz (i + 1)) (y := r) ?_ (kz_not _ (by omega))).symm;rw [h];exact jcs (kz_not _ (by omega))
def mz : Value → Nat
 | .float _ b => 13 - (List.range 13).findIdx (fun i => kz i == b)
 | _ => 0
theorem mz_kz : ∀ i : Nat,i < 13 → mz (.float .f64 (kz i)) = 13 - i := by decide +kernel
theorem cn_one : cn .f64 4607182418800017408 = oneD := by decide +kernel
theorem cn_256 : cn .f64 4643211215818981376 = c256 := by decide +kernel
theorem cn_kz {i : Nat} (hi : i ≤ 12) : cn .f64 (kz i) = kz i := jcs (kz_not i (by omega))
theorem exp64_any (b : Nat) (w : World) : Calls Try.prog 155 #[.float .f64 b] w (RF .f64 w (expD (cn .f64 b))) := by
 go_enter Try.func155,Try.ntmps155;go_wp2_with ((with_reducible show gx3);refine jcm rfl rfl rfl rfl rfl ?_;intro r0 w0 e0 g0;have G0 := hid g0;clear g0);obtain ⟨T,hT⟩ : ∃ T,T = fop .quo .f64 (cn .f64 b) c256 := ⟨_,rfl⟩;have HT := hid hT;replace G0 := G0.out;rw [cn_256,← hT] at G0;have G1 := hid G0;clear hT G0;go_loopw [4,5] (fun sv kv wr => ∃ (i p : Nat),i ≤ 12 ∧ kv = .float .f64 (kz i) ∧ sv = .float .f64 p ∧ Hid (cn .f64 p = expP T i) ∧ Ext w wr) (fun _ kv _ => mz kv)
 case atStart => exact ⟨0,4607182418800017408,by omega,by rw [kz_zero],rfl,cn_one,by with_reducible assumption⟩
 case round =>
  obtain ⟨i,p,hi,rfl,rfl,HB,he⟩ := hrel
  by_cases hlt : i < 12
  · have ha := kz_ge i hlt
    obtain ⟨K,hK⟩ : ∃ K,K = kz i := ⟨_,rfl⟩;have HK := hid hK;rw [← hK] at ha ⊢;clear hK;go_wp2_with ((with_reducible show gx3);refine jcm rfl rfl rfl rfl rfl ?_;first | (have zz := G7;intro r8 w8 e8 g8;have G8 := hid g8;clear g8 zz;replace he := he.trans e8) | (have zz := G6;intro r7 w7 e7 g7;have G7 := hid g7;clear g7 zz;replace he := he.trans e7) | (have zz := G5;intro r6 w6 e6 g6;have G6 := hid g6;clear g6 zz;replace he := he.trans e6) | (intro r5 w5 e5 g5;have G5 := hid g5;clear g5;replace he := he.trans e5));have q8 : r8 = kz (i + 1) := kz_next hlt (by rw [← HK.out];exact G8.out);subst q8;go_roundw
    case rel =>
     refine ⟨i + 1,_,by omega,rfl,rfl,?_,he⟩;rw [Hid,G7.out,G6.out,G5.out,G1.out,HB.out,HK.out,cn_one,cn_kz hi];rfl
    case measure => rw [HK.out,mz_kz i (by omega),mz_kz (i + 1) (by omega)];omega
  · obtain rfl : i = 12 := by omega
    have ha := kz_end;go_wp2;obtain ⟨P,hP⟩ : ∃ P,P = expP T 12 := ⟨_,rfl⟩;have HP := hid hP;have H0 : cn .f64 p = P := by rw [hP];exact HB.out
    have H1 := hid H0;clear hP H0 ha;go_loopw [4,18] (fun sv iv wr => ∃ (i p : Nat),i ≤ 8 ∧ iv = .int .i64 i ∧ sv = .float .f64 p ∧ Hid (cn .f64 p = sqrD P i) ∧ Ext w wr) (fun _ iv _ => 8 - (intOf iv).toNat)
    case atStart => exact ⟨0,p,by omega,rfl,rfl,H1.out,by with_reducible assumption⟩
    case round =>
     clear he H1 HB;obtain ⟨i,p,hi,rfl,rfl,HB,he⟩ := hrel
     by_cases hlt : i < 8
     · go_wp2_with ((with_reducible show gx3);refine jcm rfl rfl rfl rfl rfl ?_;intro r5 w5 e5 g5;have G5 := hid g5;clear g5;replace he := he.trans e5)
       go_roundw
       case rel =>
        refine ⟨i + 1,_,by omega,by go_num,rfl,?_,he⟩;rw [Hid,G5.out,HB.out];rfl
       case measure => simp [intOf];omega
     · obtain rfl : i = 8 := by omega
       go_wp2;go_ret;refine ⟨p,rfl,?_,he⟩;rw [HB.out,HP.out,HT.out];rfl
theorem gt_cn {k : FloatKind} {b c : Nat} (hc : cn k c = c) : (k.format.order b c == some .gt) = fgt k (cn k b) c := by
 have := fgt_cn k b c;rw [hc] at this;rw [this];rfl
theorem lt_cn {k : FloatKind} {b c : Nat} (hc : cn k c = c) : (k.format.order b c == some .lt) = flt k (cn k b) c := by
 have := flt_cn k b c;rw [hc] at this;rw [this];rfl
theorem cn_c200 : cn .f32 c200 = c200 := by decide +kernel
theorem cn_n200 : cn .f32 n200 = n200 := by decide +kernel
theorem cn_c20 : cn .f32 c20 = c20 := by decide +kernel
theorem cn_n20 : cn .f32 n20 = n20 := by decide +kernel
theorem cn_two : cn .f64 4611686018427387904 = twoD := by decide +kernel
theorem ExpNumber_any (b : Nat) (w : World) (h : NonPos (cn .f32 b)) : Calls Try.prog 168 #[.float .f32 b] w (RF .f32 w (expF (cn .f32 b))) := by
 have h1 := nonpos_gt h;have h4 := exp_over h;have hr : expF (cn .f32 b) = if flt .f32 (cn .f32 b) n200 then 0 else jbr .f64 (expD (jbr .f32 (cn .f32 b) .f64)) .f32 := by unfold expF;rw [h1];rfl
 have a1 : (FloatKind.f32.format.order b 1128792064 == some .gt) = false := by rw [← h1];exact gt_cn cn_c200
 have a2 : (FloatKind.f32.format.order b 3276275712 == some .lt) = flt .f32 (cn .f32 b) n200 := lt_cn cn_n200
 cases hl : flt .f32 (cn .f32 b) n200
 · rw [hl] at a2 hr
   have H4 := hid (h4 hl);have HR := hid hr;clear h4 hr h1 h hl;go_enter Try.func168,Try.ntmps168;go_wp2_with ((with_reducible show gx4);refine wl_conv rfl rfl rfl (by kernel_rfl) jb0 (jcg _) ?_;intro r0 w0 e0 g0;have G0 := hid g0;clear g0);refine (exp64_any r0 _).mono ?_;rintro e w1 ⟨b1,rfl,g1,e1⟩
   rw [G0.out] at g1;have G1 := hid g1;clear g1;go_wp2_with ((with_reducible show gx4);refine wl_conv rfl rfl rfl (by kernel_rfl) jb2 (by rw [G1.out];exact H4.out) ?_;intro r2 w2 e2 g2;have G2 := hid g2;clear g2);go_ret;exact ⟨r2,rfl,by rw [G2.out,G1.out,HR.out];rfl,(e0.trans e1).trans e2⟩
 · rw [hl] at a2 hr
   have HR := hid hr;clear h4 hr h1 h hl;go_enter Try.func168,Try.ntmps168;go_wp2;go_ret;exact ⟨0,rfl,by rw [HR.out,if_pos trivial];exact cn0,Ext.refl _⟩
theorem cn_cmp {b : Nat} : (FloatKind.f32.format.order b 1101004800 == some .gt) = fgt .f32 (cn .f32 b) c20 ∧ (FloatKind.f32.format.order b 3248488448 == some .lt) = flt .f32 (cn .f32 b) n20 := ⟨gt_cn cn_c20,lt_cn cn_n20⟩
theorem f32_one : cn .f32 1065353216 = 1065353216 := by decide +kernel
theorem f32_mone : cn .f32 3212836864 = 3212836864 := by decide +kernel
theorem TanhNumber_any (b : Nat) (w : World) : Calls Try.prog 126 #[.float .f32 b] w (RF .f32 w (tanF (cn .f32 b))) := by
 obtain ⟨a1,a2⟩ := cn_cmp (b := b);have hr : tanF (cn .f32 b) = if fgt .f32 (cn .f32 b) c20 then 1065353216 else if flt .f32 (cn .f32 b) n20 then 3212836864 else jbr .f64 (tanhD (expD (tanW (cn .f32 b)))) .f32 := rfl;have h4 := tanh_over (x := cn .f32 b)
 cases hg : fgt .f32 (cn .f32 b) c20
 · rw [hg] at a1 hr
   cases hl : flt .f32 (cn .f32 b) n20
   · rw [hl] at a2 hr
     have HR := hid hr;have H4 := hid (h4 hg hl);clear hr h4 hg hl;go_enter Try.func126,Try.ntmps126;go_wp2_with (first | ((with_reducible show gx4);refine wl_conv rfl rfl rfl (by kernel_rfl) jb0 (jcg _) ?_;intro r0 w0 e0 g0;have G0 := hid g0;clear g0) | ((with_reducible show gx3);refine jcm rfl rfl rfl rfl rfl ?_;intro r1 w1 e1 g1;have G1 := hid g1;clear g1));refine (exp64_any r1 _).mono ?_;rintro e w2 ⟨b2,rfl,g2,e2⟩
     have G2 := hid g2;clear g2;have hv : cn .f64 r1 = tanW (cn .f32 b) := by rw [G1.out,G0.out,cn_two];rfl
     have HV := hid hv;clear hv;go_wp2_with (first | ((with_reducible show gx3);refine jcm rfl rfl rfl rfl rfl ?_;first | (have zz := G4;intro r5 w5 e5 g5;have G5 := hid g5;clear g5 zz) | (have zz := G3;intro r4 w4 e4 g4;have G4 := hid g4;clear g4 zz) | (intro r3 w3 e3 g3;have G3 := hid g3;clear g3)) | ((with_reducible show gx4);refine wl_conv rfl rfl rfl (by kernel_rfl) jb2 (by rw [G5.out,G4.out,G3.out,G2.out,HV.out,cn_one];exact H4.out) ?_;intro r6 w6 e6 g6;have G6 := hid g6;clear g6));go_ret;refine ⟨r6,rfl,?_,(((((e0.trans e1).trans e2).trans e3).trans e4).trans e5).trans e6⟩;rw [G6.out,G5.out,G4.out,G3.out,G2.out,HV.out,cn_one,HR.out];rfl
   · rw [hl] at a2 hr
     have HR := hid hr;clear hr h4 hg hl;go_enter Try.func126,Try.ntmps126;go_wp2;go_ret;exact ⟨_,rfl,by rw [HR.out];exact f32_mone,Ext.refl _⟩
 · rw [hg] at a1 hr
   have HR := hid hr;clear hr h4 hg;go_enter Try.func126,Try.ntmps126;go_wp2;go_ret;exact ⟨_,rfl,by rw [HR.out];exact f32_one,Ext.refl _⟩
/-! Roots. -/
theorem fsqrt_cn (k : FloatKind) (b : Nat) : (k.format.sqrt b).getD (nanB k) = fsqrt k (cn k b) := by
 by_cases h : (k.decode b).isNaN = true
 · have h2 : (k.decode (cn k b)).isNaN = true := by rw [isNaN_cn];exact h
   have key : ∀ y,(k.decode y).isNaN = true → k.format.sqrt y = none := fun y hy => by
    obtain ⟨s,f,hd⟩ := jau hy;show ((k.decode y).root _).map _ = _;rw [hd];rfl
   unfold fsqrt;rw [key _ h,key _ h2]
 · rw [jcs (by simpa using h)];rfl
theorem root_not {n : Nat} {x z : Ieee.Datum} (h : x.root n = some z) : z.isNaN = false := by
 cases x with
 | nan s t => cases h
 | infinity s => cases s <;> simp [Ieee.Datum.root] at h;subst h;rfl
 | number s m i =>
   unfold Ieee.Datum.root at h;dsimp only at h
   split at h
   · cases h;rfl
   · split at h
     · cases h
     · cases h;rfl
theorem cn_fsqrt (k : FloatKind) (b : Nat) : cn k (fsqrt k b) = fsqrt k b := by
 unfold fsqrt
 cases h : k.format.sqrt b with
 | none => exact cn_nan (jbd k)
 | some r => exact jcs (isNaN_map (fun z hz => root_not hz) h)
theorem run_extern2 {P : Program} {f : FuncId} {fn : Func} {e : Array Value → Sem Value} {args : Array Value} {v : Value} {w w' : World} (hf : P.funcs[f]? = some fn) (hname : (fn.name == "runtime.NumGoroutine") = false) (hb : fn.body.isNone = true)
 (hn : Extern.findNext fn = none) (he : Extern.find fn = some e) (hr : (e args).run P w = .ok v w') : (callFunc f args).run P w = .ok (.value v) w' := by
 have hname' : ¬ fn.name = "runtime.NumGoroutine" := by simpa using hname
 have hb' : fn.body = none := by simpa using hb
 simp [callFunc,hf,hname',hb',hn,he,hr,program,Sem.run,mark]
theorem run_sqrt (b : Nat) (w : World) : ∃ r n,(callFunc 174 #[.float .f64 b]).run Try.prog w = .ok (.value (.float .f64 r)) (w.drewN n) ∧ cn .f64 r = fsqrt .f64 (cn .f64 b) := by
 rw [← fsqrt_cn]
 have hR : ∀ v w',(Extern.MathSqrt.sqrt #[.float .f64 b]).run Try.prog w = .ok v w' → (callFunc 174 #[.float .f64 b]).run Try.prog w = .ok (.value v) w' := fun v w' h =>
  run_extern2 (e := Extern.MathSqrt.sqrt) Try.func174 (by kernel_rfl) (by kernel_rfl) (by kernel_rfl) (by kernel_rfl) h
 have hs : Extern.MathSqrt.sqrt #[.float .f64 b] = (match FloatKind.f64.format.sqrt b with | some r => pure (.float .f64 r) | none => do pure (.float .f64 (← choose (.nanBits .f64 b b)))) := rfl
 cases h : FloatKind.f64.format.sqrt b with
 | some r =>
   refine ⟨r,0,hR _ _ ?_,?_⟩
   · rw [hs,h];simp [Sem.run,World.drewN]
   · have := cn_fsqrt .f64 b
     unfold fsqrt at this;rw [h] at this;exact this
 | none =>
   have key : ∀ q : Question,q = .nanBits .f64 b b → ∃ r,(Extern.MathSqrt.sqrt #[.float .f64 b]).run Try.prog w = .ok (.float .f64 (q.cut r)) (w.drewN 1) := by
    rintro q rfl
    refine ⟨w.tape w.drawn (.nanBits .f64 b b),?_⟩;rw [hs,h];simp [choose,Sem.run,Question.forced,World.drewN]
   obtain ⟨r,hr⟩ := key _ rfl;exact ⟨_,1,hR _ _ hr,cn_nan (cut_nan64 r)⟩
theorem Sqrt_any (b : Nat) (w : World) : Calls Try.prog 169 #[.float .f64 b] w (RF .f64 w (fsqrt .f64 (cn .f64 b))) := by
 obtain ⟨r,n,hx,hr⟩ := run_sqrt b w;have HR := hid hr;clear hr;have e1 : Ext w (w.drewN n) := Ext.drewN _ _;go_enter Try.func169,Try.ntmps169;go_wp2;go_ret;exact ⟨r,rfl,HR.out,by with_reducible assumption⟩
section
variable {P : Program} {w : World} {ops : Array Oper} {rest : List Oper} {o o1 o2 : Oper} {a : Act} {Q : Exit → Act → World → Prop}
theorem wl_ldA {t : TypeId} {s : Sh} [ElTy P t s] {x : Operand} (hg : o.guard = none) (ho : o.op = .load t x) {q : Addr} {cs : List Value} (hx : a.eval x = .pointer (some q)) (hc : Cs w (some q) cs) (hl : cs.length = s.sz)
 (h : wpList P ops Q rest (a.put o.dst (ofCs s cs)) w) : wpList P ops Q (o :: rest) a w :=
 jb4 hg (by simp [execOp,ho,hx,run_loadE (P := P) (t := t) (s := s) hc hl]) h
theorem wl_box {t : TypeId} {s : Sh} {x : Operand} (hg : o.guard = none) (ho : o.op = .box t x) {cs : List Value} (hx : a.eval x = ofCs s cs) (hl : cs.length = s.sz) (h1 : ∀ u ∈ cs,u.oneCell' = true)
 (h : ∀ b w',Ext w w' → w.heap.size ≤ b → Cs w' (some ⟨b,0,none⟩) cs → wpList P ops Q rest (a.put o.dst (.pointer (some ⟨b,0,none⟩))) w') : wpList P ops Q (o :: rest) a w := by
 refine jb4 hg (v := .pointer (some ⟨w.heap.size,0,none⟩)) (w' := w.alloc (.cells cs.toArray t)) ?_ (h _ _ (Ext.alloc _ _) (Nat.le_refl _) ⟨fun i u hu => ?_,fun _ => rfl⟩)
 · simp [execOp,ho,hx,Instr.box,newVar,newRow,ofCs_cells hl h1]
 · rw [jbn]
   have hnew : (w.alloc (.cells cs.toArray t)).heap[w.heap.size]? = some (.cells cs.toArray t) := heap_alloc_new w _;unfold World.cell?;rw [hnew]
   simpa using hu
theorem run_stA {t : TypeId} {s : Sh} [T : ElTy P t s] {g : Nat} {Z : Array Value} {e : TypeId} {cs : List Value} (hg : w.heap[g]? = some (.cells Z e (0,0))) (hZ : Z.size = s.sz) (hl : cs.length = s.sz) (h1 : ∀ u ∈ cs,u.oneCell' = true) (hs : 0 < s.sz) :
 ∃ w',(Instr.storeAt t (.pointer (some ⟨g,0,none⟩)) (ofCs s cs)).run P w = .ok () w' ∧ Cs w' (some ⟨g,0,none⟩) cs ∧ Chg (fun b => b = g) w w' := by
 have how : jcb w (some ⟨g,0,none⟩) 1 1 ([Z.toList]).flatten := .inr ⟨g,Z,e,rfl,hg,by simp only [List.flatten_cons,List.flatten_nil,List.append_nil];exact List.take_length⟩;obtain ⟨w',h2,h3,h4⟩ := run_storeE (P := P) (t := t) (s := s) (j := 0) how (by simp [hZ]) (by simp) hl hs h1;refine ⟨w',?_,?_,h4.mono (by intro k hk;simpa [jaj] using hk)⟩
 · rw [Nat.zero_mul,jbn] at h2;exact h2
 · have := h3.cs;simpa using this
theorem wl_stA {t : TypeId} {s : Sh} [T : ElTy P t s] {x y : Operand} (hgd : o.guard = none) (ho : o.op = .store t x y) {g : Nat} {Z : Array Value} {e : TypeId} {cs : List Value} (hx : a.eval x = .pointer (some ⟨g,0,none⟩)) (hy : a.eval y = ofCs s cs)
 (hg : w.heap[g]? = some (.cells Z e (0,0))) (hZ : Z.size = s.sz) (hl : cs.length = s.sz) (h1 : ∀ u ∈ cs,u.oneCell' = true) (hs : 0 < s.sz)
 (h : ∀ w',Cs w' (some ⟨g,0,none⟩) cs → Chg (fun b => b = g) w w' → wpList P ops Q rest (a.put o.dst undef) w') : wpList P ops Q (o :: rest) a w := by
 obtain ⟨w',h2,h3,h4⟩ := run_stA (P := P) (t := t) hg hZ hl h1 hs;exact ja4 hgd (by simp [execOp,ho,hx,hy,h2]) (h w' h3 h4)
end
def wCnt (k i o : Int) : Int := if k = 0 then i * o else if k = 2 then i else if k = 5 then i else 0
def bCnt (k i o : Int) : Int := if k = 0 then o else if k = 2 then 0 else if k = 5 then i else 0
def layB (k i o : Int) (nw nb : Nat) : Bool := inB k 0 5 && (inB i 1 8 && (inB o 1 8 && ((decide (k = 0) || decide (i = o)) && (decide ((nw : Int) = wCnt k i o) && decide ((nb : Int) = bCnt k i o)))))
theorem beq_t {a b : Int} (h : a = b) : (a == b) = true := beq_iff_eq.2 h
theorem beq_f {a b : Int} (h : ¬ a = b) : (a == b) = false := beq_eq_false_iff_ne.2 h
theorem bne_t {a b : Int} (h : ¬ a = b) : (a != b) = true := by simp [h]
theorem bne_f {a b : Int} (h : a = b) : (a != b) = false := by simp [h]
theorem mul_bd {i o : Int} (hi : 1 ≤ i ∧ i ≤ 8) (ho : 1 ≤ o ∧ o ≤ 8) : 0 ≤ i * o ∧ i * o ≤ 64 :=
 ⟨Int.mul_nonneg (by omega) (by omega),by have := Int.mul_le_mul hi.2 ho.2 (by omega) (by decide);omega⟩
theorem jbv (n : Int) (w : World) : Calls Try.prog 120 #[.int .i64 n] w fun e w' => e = .returned (.bool (inB n 1 8)) ∧ w = w' := by
 go_enter Try.func120,Try.ntmps120;go_wp2_with (refine (jai _ _ _ _).mono ?_;rintro e w' ⟨rfl,rfl⟩);go_ret;exact ⟨rfl,rfl⟩
theorem ValidLayer_any (k i o : Int) (pw pb : Option Addr) (nw cw nb cb : Nat) (w : World) (h1 : nw ≤ maxLen) (h2 : nb ≤ maxLen) :
 Calls Try.prog 77 #[.agg #[.int .i64 k,.int .i64 i,.int .i64 o,.slice pw nw cw,.slice pb nb cb]] w (RetB w (layB k i o nw nb)) := by
 unfold maxLen at h1 h2;generalize hB : layB k i o nw nb = B;have HB := hid hB;clear hB;unfold layB at HB
 cases k1 : inB k 0 5
 · have K1 := hid k1
   have : B = false := by rw [← HB.out,k1];rfl
   subst this;clear k1;go_enter Try.func77,Try.ntmps77;go_wp2_with (go_at_call 57;refine (jai _ _ _ _).mono ?_;rintro e w1 ⟨rfl,rfl⟩;rw [K1.out]);go_ret;exact ⟨rfl,Ext.alloc _ _⟩
 cases k2 : inB i 1 8
 · have K1 := hid k1
   have K2 := hid k2;have : B = false := by rw [← HB.out,k1,k2];rfl
   subst this;clear k1 k2;go_enter Try.func77,Try.ntmps77;go_wp2_with (first | (go_at_call 57;refine (jai _ _ _ _).mono ?_;rintro e w1 ⟨rfl,rfl⟩;rw [K1.out]) | (go_at_call 120;refine (jbv _ _).mono ?_;rintro e w1 ⟨rfl,rfl⟩;rw [K2.out]));go_ret;exact ⟨rfl,Ext.alloc _ _⟩
 cases k3 : inB o 1 8
 · have K1 := hid k1
   have K2 := hid k2;have K3 := hid k3;have : B = false := by rw [← HB.out,k1,k2,k3];rfl
   subst this;clear k1 k2 k3;go_enter Try.func77,Try.ntmps77;go_wp2_with (first | (go_at_call 57;refine (jai _ _ _ _).mono ?_;rintro e w1 ⟨rfl,rfl⟩;rw [K1.out]) | (go_at_call 120;refine (jbv _ _).mono ?_;rintro e w1 ⟨rfl,rfl⟩;first | rw [K2.out] | rw [K3.out]));go_ret;exact ⟨rfl,Ext.alloc _ _⟩
 have K1 := hid k1;have K2 := hid k2;have K3 := hid k3;rw [jar] at k1 k2 k3;obtain ⟨m0,m1⟩ := mul_bd k2 k3;have hB2 : B = ((decide (k = 0) || decide (i = o)) && (decide ((nw : Int) = wCnt k i o) && decide ((nb : Int) = bCnt k i o))) := by rw [← HB.out,K1.out,K2.out,K3.out];rfl
 clear HB
 by_cases hk0 : k = 0
 · subst hk0
   have hw : wCnt 0 i o = i * o := rfl;have hb : bCnt 0 i o = o := rfl;rw [hw,hb] at hB2
   have hwr : wrap64 (o * i) = o * i := by
    have m2 : o * i = i * o := Int.mul_comm o i;unfold wrap64;rw [m2];omega
   by_cases e1 : (nw : Int) = i * o
   · by_cases e2 : (nb : Int) = o
     all_goals
      have E1 := beq_t (e1.trans (Int.mul_comm i o))
      first | have E2 := beq_t e2 | have E2 := beq_f e2
      simp only [e1,e2,decide_true,decide_false,Bool.true_or,Bool.or_true,Bool.true_and,Bool.and_true,Bool.and_false] at hB2;subst hB2;clear e1 e2 hw hb;go_enter Try.func77,Try.ntmps77;go_wp2_with (first | (go_at_call 57;refine (jai _ _ _ _).mono ?_;rintro e w1 ⟨rfl,rfl⟩;rw [K1.out]) | (go_at_call 120;refine (jbv _ _).mono ?_;rintro e w1 ⟨rfl,rfl⟩;first | rw [K2.out] | rw [K3.out]));refine jae (F := fun _ _ _ => True) (by kernel_rfl) (by kernel_rfl) (by kernel_rfl) ?_;intro wf hwf
      repeat (first
       | ((first | (refine ja8 rfl ?_) | (refine x_mv rfl rfl rfl ?_) | (refine x_as rfl rfl rfl ?_));simp only [Act.put,jab,pu1,pu2,pu3,pu4,pu5])
       | (refine jbw rfl fun K hK w1 hw1 => ?_;have k0 := hw1.cellOf (b := w.heap.size) (by simp);go_simp;refine hK _ ?_;clear hK K k0 hw1 w1))
      refine jbu ?_;have z := hwf.cellOf (b := w.heap.size) (by simp);go_wp2;go_ret;exact ⟨rfl,((Ext.alloc _ _).trans (Ext.drew _)).trans hwf⟩
   · have E1 := beq_f (fun h => e1 (h.trans (Int.mul_comm o i)))
     simp only [e1,decide_true,decide_false,Bool.true_or,Bool.or_true,Bool.true_and,Bool.false_and,Bool.and_false] at hB2;subst hB2;clear e1 hw hb;go_enter Try.func77,Try.ntmps77;go_wp2_with (first | (go_at_call 57;refine (jai _ _ _ _).mono ?_;rintro e w1 ⟨rfl,rfl⟩;rw [K1.out]) | (go_at_call 120;refine (jbv _ _).mono ?_;rintro e w1 ⟨rfl,rfl⟩;first | rw [K2.out] | rw [K3.out]));refine jae (F := fun _ _ _ => True) (by kernel_rfl) (by kernel_rfl) (by kernel_rfl) ?_;intro wf hwf
     repeat (first
      | ((first | (refine ja8 rfl ?_) | (refine x_mv rfl rfl rfl ?_) | (refine x_as rfl rfl rfl ?_));simp only [Act.put,jab,pu1,pu2,pu3,pu4,pu5])
      | (refine jbw rfl fun K hK w1 hw1 => ?_;have k0 := hw1.cellOf (b := w.heap.size) (by simp);go_simp;refine hK _ ?_;clear hK K k0 hw1 w1))
     refine jbu ?_;have z := hwf.cellOf (b := w.heap.size) (by simp);go_wp2;go_ret;exact ⟨rfl,((Ext.alloc _ _).trans (Ext.drew _)).trans hwf⟩
 by_cases hio : ¬ i = o
 · have F0 := bne_t hk0
   have F1 := bne_t hio;have : B = false := by rw [hB2];simp [hk0,hio]
   subst this;clear hk0 hio hB2;go_enter Try.func77,Try.ntmps77;go_wp2_with (first | (go_at_call 57;refine (jai _ _ _ _).mono ?_;rintro e w1 ⟨rfl,rfl⟩;rw [K1.out]) | (go_at_call 120;refine (jbv _ _).mono ?_;rintro e w1 ⟨rfl,rfl⟩;first | rw [K2.out] | rw [K3.out]));go_ret;exact ⟨rfl,Ext.alloc _ _⟩
 have hio := Classical.not_not.1 hio;subst hio
 by_cases hk2 : k = 2
 · subst hk2
   have hw : wCnt 2 i i = i := rfl;have hb : bCnt 2 i i = 0 := rfl;rw [hw,hb] at hB2
   by_cases e1 : (nw : Int) = i
   · by_cases e2 : (nb : Int) = 0
     all_goals
      have E1 := beq_t e1
      first | have E2 := beq_t e2 | have E2 := beq_f e2
      simp only [e1,e2,decide_true,decide_false,Bool.true_or,Bool.or_true,Bool.true_and,Bool.and_true,Bool.and_false] at hB2;subst hB2;clear e1 e2 hw hb;go_enter Try.func77,Try.ntmps77;go_wp2_with (first | (go_at_call 57;refine (jai _ _ _ _).mono ?_;rintro e w1 ⟨rfl,rfl⟩;rw [K1.out]) | (go_at_call 120;refine (jbv _ _).mono ?_;rintro e w1 ⟨rfl,rfl⟩;first | rw [K2.out] | rw [K3.out]));go_ret;exact ⟨rfl,Ext.alloc _ _⟩
   · have E1 := beq_f e1
     simp only [e1,decide_true,decide_false,Bool.true_or,Bool.or_true,Bool.true_and,Bool.false_and,Bool.and_false] at hB2;subst hB2;clear e1 hw hb;go_enter Try.func77,Try.ntmps77;go_wp2_with (first | (go_at_call 57;refine (jai _ _ _ _).mono ?_;rintro e w1 ⟨rfl,rfl⟩;rw [K1.out]) | (go_at_call 120;refine (jbv _ _).mono ?_;rintro e w1 ⟨rfl,rfl⟩;first | rw [K2.out] | rw [K3.out]));go_ret;exact ⟨rfl,Ext.alloc _ _⟩
 by_cases hk5 : k = 5
 · subst hk5
   have hw : wCnt 5 i i = i := rfl;have hb : bCnt 5 i i = i := rfl;rw [hw,hb] at hB2
   by_cases e1 : (nw : Int) = i
   · by_cases e2 : (nb : Int) = i
     all_goals
      have E1 := beq_t e1
      first | have E2 := beq_t e2 | have E2 := beq_f e2
      simp only [e1,e2,decide_true,decide_false,Bool.true_or,Bool.or_true,Bool.true_and,Bool.and_true,Bool.and_false] at hB2;subst hB2;clear e1 e2 hw hb;go_enter Try.func77,Try.ntmps77;go_wp2_with (first | (go_at_call 57;refine (jai _ _ _ _).mono ?_;rintro e w1 ⟨rfl,rfl⟩;rw [K1.out]) | (go_at_call 120;refine (jbv _ _).mono ?_;rintro e w1 ⟨rfl,rfl⟩;first | rw [K2.out] | rw [K3.out]));refine jae (F := fun _ _ _ => True) (by kernel_rfl) (by kernel_rfl) (by kernel_rfl) ?_;intro wf hwf
      repeat (first
       | ((first | (refine ja8 rfl ?_) | (refine x_mv rfl rfl rfl ?_) | (refine x_as rfl rfl rfl ?_));simp only [Act.put,jab,pu1,pu2,pu3,pu4,pu5])
       | (refine jbw rfl fun K hK w1 hw1 => ?_;have k0 := hw1.cellOf (b := w.heap.size) (by simp);go_simp;refine hK _ ?_;clear hK K k0 hw1 w1))
      refine jbu ?_;have z := hwf.cellOf (b := w.heap.size) (by simp);go_wp2;go_ret;exact ⟨rfl,((Ext.alloc _ _).trans (Ext.drew _)).trans hwf⟩
   · have E1 := beq_f e1
     simp only [e1,decide_true,decide_false,Bool.true_or,Bool.or_true,Bool.true_and,Bool.false_and,Bool.and_false] at hB2;subst hB2;clear e1 hw hb;go_enter Try.func77,Try.ntmps77;go_wp2_with (first | (go_at_call 57;refine (jai _ _ _ _).mono ?_;rintro e w1 ⟨rfl,rfl⟩;rw [K1.out]) | (go_at_call 120;refine (jbv _ _).mono ?_;rintro e w1 ⟨rfl,rfl⟩;first | rw [K2.out] | rw [K3.out]));refine jae (F := fun _ _ _ => True) (by kernel_rfl) (by kernel_rfl) (by kernel_rfl) ?_;intro wf hwf
     repeat (first
      | ((first | (refine ja8 rfl ?_) | (refine x_mv rfl rfl rfl ?_) | (refine x_as rfl rfl rfl ?_));simp only [Act.put,jab,pu1,pu2,pu3,pu4,pu5])
      | (refine jbw rfl fun K hK w1 hw1 => ?_;have k0 := hw1.cellOf (b := w.heap.size) (by simp);go_simp;refine hK _ ?_;clear hK K k0 hw1 w1))
     refine jbu ?_;have z := hwf.cellOf (b := w.heap.size) (by simp);go_wp2;go_ret;exact ⟨rfl,((Ext.alloc _ _).trans (Ext.drew _)).trans hwf⟩
 have F0 := bne_t hk0;have F0' := beq_f hk0;have F2 := beq_f hk2;have F5 := beq_f hk5;have hw : wCnt k i i = 0 := by unfold wCnt;rw [if_neg hk0,if_neg hk2,if_neg hk5]
 have hb : bCnt k i i = 0 := by unfold bCnt;rw [if_neg hk0,if_neg hk2,if_neg hk5]
 rw [hw,hb] at hB2;clear hk0 hk2 hk5 hw hb
 by_cases e1 : (nw : Int) = 0
 · by_cases e2 : (nb : Int) = 0
   all_goals
    have E1 := beq_t e1
    first | have E2 := beq_t e2 | have E2 := beq_f e2
    simp only [e1,e2,decide_true,decide_false,Bool.true_or,Bool.or_true,Bool.true_and,Bool.and_true,Bool.and_false] at hB2;subst hB2;clear e1 e2;go_enter Try.func77,Try.ntmps77;go_wp2_with (first | (go_at_call 57;refine (jai _ _ _ _).mono ?_;rintro e w1 ⟨rfl,rfl⟩;rw [K1.out]) | (go_at_call 120;refine (jbv _ _).mono ?_;rintro e w1 ⟨rfl,rfl⟩;first | rw [K2.out] | rw [K3.out]));go_ret;exact ⟨rfl,Ext.alloc _ _⟩
 · have E1 := beq_f e1
   simp only [e1,decide_true,decide_false,Bool.true_or,Bool.or_true,Bool.true_and,Bool.false_and,Bool.and_false] at hB2;subst hB2;clear e1;go_enter Try.func77,Try.ntmps77;go_wp2_with (first | (go_at_call 57;refine (jai _ _ _ _).mono ?_;rintro e w1 ⟨rfl,rfl⟩;rw [K1.out]) | (go_at_call 120;refine (jbv _ _).mono ?_;rintro e w1 ⟨rfl,rfl⟩;first | rw [K2.out] | rw [K3.out]));go_ret;exact ⟨rfl,Ext.alloc _ _⟩
theorem l03Counts_any {sp : Option Nat} (bl o' : Nat) (k i o : Int) (w : World) (f0 : w.cell? ⟨bl,o',sp⟩ = some (.int .i64 k)) (f1 : w.cell? ⟨bl,o' + 1,none⟩ = some (.int .i64 i)) (f2 : w.cell? ⟨bl,o' + 2,none⟩ = some (.int .i64 o)) (k2 : 1 ≤ i ∧ i ≤ 8) (k3 : 1 ≤ o ∧ o ≤ 8) :
 Calls Try.prog 135 #[.pointer (some ⟨bl,o',sp⟩)] w fun e w' => e = .returned (.tuple #[.int .i64 (wCnt k i o),.int .i64 (bCnt k i o)]) ∧ Ext w w' := by
 obtain ⟨m0,m1⟩ := mul_bd k2 k3
 by_cases hk0 : k = 0
 · subst hk0
   have hw : wCnt 0 i o = i * o := rfl;have hb : bCnt 0 i o = o := rfl;rw [hw,hb];have hwr : IntKind.i64.wrap (i * o) = i * o := ja2 _ (by omega) (by omega);have d1 := (Ext.drew w).cell f1;have d2 := (Ext.drew w).cell f2;clear hw hb;go_enter Try.func135,Try.ntmps135;go_wp2;refine jae (F := fun _ _ _ => True) (by kernel_rfl) (by kernel_rfl) (by kernel_rfl) ?_;intro wf hwf
   repeat (first
    | ((first | (refine ja8 rfl ?_) | (refine x_mv rfl rfl rfl ?_) | (refine x_as rfl rfl rfl ?_));simp only [Act.put,jab,pu1,pu2,pu3,pu4,pu5])
    | (refine jbw rfl fun K hK w1 hw1 => ?_;have k0 := hw1.cell (d1);have k1 := hw1.cell (d2);go_simp;refine hK _ ?_;clear hK K k0 k1 hw1 w1))
   refine jbu ?_;go_wp2;go_ret2;exact ⟨rfl,(Ext.drew _).trans hwf⟩
 by_cases hk2 : k = 2
 · subst hk2
   have hw : wCnt 2 i o = i := rfl;have hb : bCnt 2 i o = 0 := rfl;rw [hw,hb];go_enter Try.func135,Try.ntmps135;go_wp2;go_ret2;exact ⟨rfl,Ext.refl _⟩
 by_cases hk5 : k = 5
 · subst hk5
   have hw : wCnt 5 i o = i := rfl;have hb : bCnt 5 i o = i := rfl;rw [hw,hb];have d1 := (Ext.drew w).cell f1;clear hw hb;go_enter Try.func135,Try.ntmps135;go_wp2;refine jae (F := fun _ _ _ => True) (by kernel_rfl) (by kernel_rfl) (by kernel_rfl) ?_;intro wf hwf
   repeat (first
    | ((first | (refine ja8 rfl ?_) | (refine x_mv rfl rfl rfl ?_) | (refine x_as rfl rfl rfl ?_));simp only [Act.put,jab,pu1,pu2,pu3,pu4,pu5])
    | (refine jbw rfl fun K hK w1 hw1 => ?_;have k0 := hw1.cell (d1);go_simp;refine hK _ ?_;clear hK K k0 hw1 w1))
   refine jbu ?_;go_wp2;go_ret2;exact ⟨rfl,(Ext.drew _).trans hwf⟩
 have F0 := beq_f hk0;have F2 := beq_f hk2;have F5 := beq_f hk5;have hw : wCnt k i o = 0 := by unfold wCnt;rw [if_neg hk0,if_neg hk2,if_neg hk5]
 have hb : bCnt k i o = 0 := by unfold bCnt;rw [if_neg hk0,if_neg hk2,if_neg hk5]
 rw [hw,hb];clear hk0 hk2 hk5 hw hb;go_enter Try.func135,Try.ntmps135;go_wp2;go_ret2;exact ⟨rfl,Ext.refl _⟩
abbrev jac : Sh := .pr .int (.pr .int (.pr .int (.pr (.sl .flt) (.pr (.sl .flt) (.un)))))
theorem fo_implLayer_1 (q : Addr) (w : World) : (Instr.fieldAt 41 (.pointer (some q)) 1).run Try.prog w = .ok (.pointer (some (q.add 1))) w := by go_simp
theorem fo_implLayer_2 (q : Addr) (w : World) : (Instr.fieldAt 41 (.pointer (some q)) 2).run Try.prog w = .ok (.pointer (some (q.add 2))) w := by go_simp
instance elStLayerimpl : ElTy Try.prog 41 jac := ⟨by kernel_rfl,by kernel_rfl⟩
abbrev shLayerS : Sh := .sl jac
instance slLayerSimpl : SlTy Try.prog 36 41 5 (.agg #[.int .i64 0,.int .i64 0,.int .i64 0,.slice none 0 0,.slice none 0 0]) 72 := ⟨by kernel_rfl,by kernel_rfl,by kernel_rfl,by decide,by decide⟩
instance szLayerSimpl : SlTy Try.prog 36 41 (Sh.sz jac) (.agg #[.int .i64 0,.int .i64 0,.int .i64 0,.slice none 0 0,.slice none 0 0]) 72 := slLayerSimpl
instance elLayerSimpl : ElTy Try.prog 41 jac := ⟨by kernel_rfl,by kernel_rfl⟩
abbrev shModel : Sh := .pr shLayerS (.un)
instance elStModelimpl : ElTy Try.prog 38 shModel := ⟨by kernel_rfl,by kernel_rfl⟩
def layD (d : jac.T) : Bool := layB d.1 d.2.1 d.2.2.1 d.2.2.2.1.length d.2.2.2.2.1.length
def layO (d : jac.T) : Int := d.2.2.1
def linkL : Option Int → Int → Bool
 | none,_ => true
 | some o,i => decide (i = o)
def modGo : Option Int → List jac.T → Bool
 | _,[] => true
 | p,d :: l => layD d && (linkL p d.2.1 && modGo (some (layO d)) l)
def modB (l : List jac.T) : Bool := decide (1 ≤ l.length) && (decide (l.length ≤ 6) && modGo none l)
def prevL (l : List jac.T) : Nat → Option Int
 | 0 => none
 | i + 1 => l[i]?.map layO
theorem modGo_at {l : List jac.T} {i : Nat} (hi : i < l.length) (p : Option Int) :
 modGo p (l.drop i) = (layD l[i] && (linkL p l[i].2.1 && modGo (prevL l (i + 1)) (l.drop (i + 1)))) := by
 rw [List.drop_eq_getElem_cons hi];simp [modGo,prevL,hi]
theorem lay_vals {w : World} {cs : List Value} {d : jac.T} (h : Rep w jac cs d) : ∃ pw cw pb cb,cs = [.int .i64 d.1,.int .i64 d.2.1,.int .i64 d.2.2.1,.slice pw d.2.2.2.1.length cw,.slice pb d.2.2.2.2.1.length cb] ∧ d.2.2.2.1.length ≤ maxLen ∧ d.2.2.2.2.1.length ≤ maxLen := by
 obtain ⟨a1,a2,a3,a4,a5,au⟩ := d;obtain ⟨_,_,rfl,rfl,_,_,rfl,rfl,_,_,rfl,rfl,_,_,rfl,h4,_,_,rfl,h5,rfl⟩ := h;obtain ⟨p4,c4,rfl,l4⟩ := rep_val h4;obtain ⟨p5,c5,rfl,l5⟩ := rep_val h5;exact ⟨p4,c4,p5,c5,rfl,l4,l5⟩
section
variable {P : Program} {w : World} {ops : Array Oper} {rest : List Oper} {o : Oper} {a : Act} {Q : Exit → Act → World → Prop}
theorem run_append_none (base : Nat) (t ty e : TypeId) (i : TypeInfo) (size : Nat) (ht : P.underlying t = some (.slice e)) (hi : P.info? e = some i)
 (v : Value) (n c : Nat) (xs : List Value) (hown : w.ownsRow base e size v n xs) :
 (Builtin.append_ #[t,t] ty #[v,.slice none 0 c]).run P w = .ok v w := by
 rcases hown.2 with ⟨rfl,rfl⟩ | ⟨g,cap,cur,rfl,_,_,hnc,_⟩
 · simp [Builtin.append_,run_underlying ht,sizeOf,typeInfo,hi,Builtin.lenOf,Builtin.firstCells]
 · simp [Builtin.append_,run_underlying ht,sizeOf,typeInfo,hi,Builtin.lenOf,Builtin.firstCells,hnc,storeCells]
theorem wl_appz {t e s b : Nat} {z : Value} [T : SlTy P t e s z b] {x1 x2 : Operand} {v : Value} {B n m c : Nat} {vs us : List Value} {p : Option Addr}
 (hg : o.guard = none) (ho : o.op = .call { callee := .builtin .append,args := #[x1,x2],argTypes := #[t,t] })
 (hx1 : a.eval x1 = v) (hx2 : a.eval x2 = .slice p m c) (how : w.ownsRow B e s v n vs) (hc : Cs w p us) (hm : us.length = m * s) (hmc : m ≤ c) (h1 : ∀ u ∈ us,u.oneCell' = true)
 (hn : n + m ≤ maxLen) (hb : (n + m) * b ≤ 140737488355328) (hB : B ≤ w.heap.size)
 (h : ∀ v' w',w'.ownsRow B e s v' (n + m) (vs ++ us) → w.grownBy w' v.ownBlock → wpList P ops Q rest (a.put o.dst v') w') : wpList P ops Q (o :: rest) a w := by
 obtain ⟨ti,hi,hzz⟩ := Option.map_eq_some_iff.1 T.inf;simp only [Prod.mk.injEq] at hzz
 cases p with
 | some ad =>
   exact wpList_append_own _ hg x1 x2 t ho B e ti z s b T.und hi hzz.1 hzz.2.1 hzz.2.2 T.zs T.pos v n vs hx1 how ad m c us hx2 hm (fun j u hj => hc.cell j u hj) h1 hn hb hB (fun v' w' h1 h2 _ => h v' w' h1 h2)
 | none =>
   have hus : us = [] := Classical.byContradiction fun hn => by have := hc.isS hn;simp at this
   subst hus
   have hm0 : m = 0 := by
    rcases Nat.eq_zero_or_pos m with h | h
    · exact h
    · have := Nat.mul_pos h T.pos;simp at hm;omega
   subst hm0;refine wpList_plain hg fun K hK' => ?_
   have hrun := run_append_none (P := P) B t o.type e ti s T.und hi v n c vs how;unfold Oper.wp;simp [execOp,ho,resolve,invoke,builtin,hx1,hx2,hrun,Result.andThen];exact hK' _ _ (h v w (by simpa using how) (World.grownBy.refl _ _))
end
end Go.Proofs.Ytmbckkcgiafagaa
namespace Go.Proofs.Ytmbckkcgiafagaa
open Go.RowKit Go.ChangeShapes Go.WideShapes Go.ChangeAt
theorem own_knob : ownKnob Try.prog.godebug = none := by kernel_rfl
theorem laid_out : laidOutB Try.prog = true := by kernel_rfl
theorem post_true {H : Type} {enc : TypeId × Value → H} {P : Program} {f : Func} {s : ChangeSpec} {W W' : World} {args : Array Value} {ds : List (DataW H)} {before : List MemPlace} {tb : TypeId}
 (hl : laidOutB P = true) (hvs : s.vars = []) (hrt : f.resultTypes = #[tb]) (hb : P.underlying tb = some .bool)
 (hps : ∀ t ∈ f.params.toList,P.readableRec t = true ∧ t < P.types.size)
 (hfn : s.fn H (ds ++ []) = { results := [.lit (.bool true)],args := ds })
 (hW : DataW.Whole enc P f.params.toList s.vars false W args.toList ds [] before) (he : Ext W W') :
 s.post enc P f false true false false W args (.bool true) W' := by
 obtain ⟨p,q,hA,hV,hpq,hfz,hnd⟩ := hW;have hW' : DataW.Whole enc P f.params.toList s.vars false W args.toList ds [] before := ⟨p,q,hA,hV,hpq,hfz,hnd⟩
 have hq : q = [] := by
  rw [hvs] at hV;exact (trodVars_none hV).2
 subst hq;simp only [List.append_nil] at hpq;subst hpq;refine ⟨ds,[],before,[],before,[],hW',?_,?_,?_,?_,fun h => by cases h⟩
 · rw [hfn,hrt]
   exact trodAll_mk1 (shut_bool hb _)
 · rw [hfn]
   exact stays hl hps hA he.below (fun x hx => by have := hW'.lt x hx;simpa using this)
 · rw [hvs] at hV ⊢
   rw [hfn];exact hV0
 · exact he.below.frame _
where
 hV0 {H : Type} {enc : TypeId × Value → H} {P : Program} {W' : World} {sp : Nat → Bool} : DataW.TrodVars enc P W' sp [] [] [] := rfl
 stays {H : Type} {enc : TypeId × Value → H} {P : Program} {W W' : World} (hl : laidOutB P = true) : ∀ {ts : List TypeId} {vs : List Value} {ds : List (DataW H)} {ps : List MemPlace},
  (∀ t ∈ ts,P.readableRec t = true ∧ t < P.types.size) → DataW.TrodAll enc P W 0 (fun _ => true) true ts vs ds ps → Below W.heap.size W W' → (∀ x ∈ ps,x.block < W.heap.size) →
  DataW.TrodAll enc P W' 0 (fun b => decide (b < W.heap.size)) true ts vs ds ps := by
  intro ts
  induction ts with
  | nil => intro vs ds ps _ h _ _;obtain ⟨rfl,rfl,rfl⟩ := trodAll_nil h;exact trodAll_mk0
  | cons t ts ih =>
    intro vs ds ps hts h hb hlt;obtain ⟨v,vs',d,ds',p,q,rfl,rfl,rfl,h1,h2⟩ := trodAll_cons h;have ht := hts t (by simp);exact ⟨p,q,Below.trod hl ht.1 ht.2 h1 hb (fun x hx => hlt x (by simp [hx])),ih (fun t' ht' => hts t' (by simp [ht'])) h2 hb (fun x hx => hlt x (by simp [hx])),rfl⟩
end Go.Proofs.Ytmbckkcgiafagaa
namespace Go.Proofs.Ytmbckkcgiafagaa
open Go.RowKit Go.WideShapes Go.Deep Go.ChangeShapes
def Fit : (s : Sh) → s.T → Prop
 | .int,n => -9223372036854775808 ≤ n ∧ n ≤ 9223372036854775807
 | .flt,x => x < 4294967296
 | .str,s => s.size ≤ maxLen
 | .sl e,l => ∀ x ∈ l,Fit e x
 | .pr a b,x => Fit a x.1 ∧ Fit b x.2
 | _,_ => True
theorem choose_list {A : Type} {R : Nat → A → Prop} : ∀ (n : Nat),(∀ i,i < n → ∃ a,R i a) → ∃ l : List A,l.length = n ∧ ∀ i a,l[i]? = some a → R i a
 | 0,_ => ⟨[],rfl,fun i a h => by simp at h⟩
 | n + 1,h => by
   obtain ⟨l,h1,h2⟩ := choose_list n (fun i hi => h i (by omega));obtain ⟨a,ha⟩ := h n (by omega);refine ⟨l ++ [a],by simp [h1],fun i b hb => ?_⟩
   by_cases hi : i < n
   · rw [List.getElem?_append_left (by omega)] at hb;exact h2 i b hb
   · rw [List.getElem?_append_right (by omega),h1] at hb
     have : i = n := by
      have := (List.getElem?_eq_some_iff.1 hb).1;simp at this;omega
     subst this;simp at hb;subst hb;exact ha
end Go.Proofs.Ytmbckkcgiafagaa
namespace Go.Proofs.Ytmbckkcgiafagaa
open Go.RowKit
theorem own_nil {w : World} {e : Sh} : Own w (.sl e) [.slice none 0 0] [] [] :=
 own_sl.2 ⟨none,0,[],[],rfl,.inl ⟨rfl,rfl,rfl,rfl⟩,Nat.le_refl _,Nat.zero_le _,⟨rfl,rfl,fun i cs bs d h => by simp at h⟩,rfl⟩
theorem Cs.chgB {S : Nat → Prop} {w w' : World} {b : Nat} {cs : List Value} (h : Cs w (some ⟨b,0,none⟩) cs) (k : Chg S w w') (hb : b < w.heap.size) (hn : ¬ S b) : Cs w' (some ⟨b,0,none⟩) cs :=
 ⟨fun i u hu => by
  have := h.1 i u hu;rw [jbn] at this ⊢;rw [(k.cellOf hb hn).1];exact this,h.2⟩
end Go.Proofs.Ytmbckkcgiafagaa
