/- A part of the proofs: FusL, IsP, CatF. -/
import Derived.Maps.AppendAt
import Derived.Test.YtmbckkcgiafagaaZ13FnFuse
import Derived.Test.YtmbckkcgiafagaaZ17FnFuse
import Derived.Test.YtmbckkcgiafagaaZ09FnFuse
import Derived.Test.YtmbckkcgiafagaaZ23FnFuse
import Derived.Test.YtmbckkcgiafagaaZ11FnFuse
import Derived.Test.YtmbckkcgiafagaaZ05FnFuse
import Derived.Test.YtmbckkcgiafagaaZ16FnFuse
set_option linter.unusedSimpArgs false
set_option linter.unusedVariables false
set_option maxRecDepth 100000
set_option maxHeartbeats 16000000
namespace Go.Proofs.Ytmbckkcgiafagaa
open Go.RowKit Ex
def ZF (xs : List Nat) (n : Nat) (f : Nat → Int) : Prop := xs.length = n ∧ ∀ i,i < n → IZ .f32 (xs.getD i 0) (f i)
theorem ZF.nil (f : Nat → Int) : ZF [] 0 f := ⟨rfl,fun i h => by omega⟩
theorem ZF.snoc {xs : List Nat} {n x : Nat} {f : Nat → Int} (h : ZF xs n f) (hx : IZ .f32 x (f n)) : ZF (xs ++ [x]) (n + 1) f := by
 refine ⟨by rw [List.length_append,h.1];rfl,fun i hi => ?_⟩;rw [List.getD_eq_getElem?_getD]
 by_cases hl : i < n
 · rw [List.getElem?_append_left (by rw [h.1];exact hl),← List.getD_eq_getElem?_getD];exact h.2 i hl
 · obtain rfl : i = n := by omega
   rw [List.getElem?_append_right (by rw [h.1];omega),h.1,Nat.sub_self];exact hx
section
variable {P : Program} {ops : Array Oper} {Q : Exit → Act → World → Prop} {a : Act} {w : World}
theorem wpOp_fop {K : Act → World → Prop} {i : Nat} {o : Oper} {op : BinOp} {t t' : TypeId} {x y : Operand} {k : FloatKind} {b c : Nat} (hoi : ops[i]? = some o) (hg : o.guard = none) (ho : o.op = .binOp op t x y t') (hop : isArith op = true) (hx : a.eval x = .float k b) (hy : a.eval y = .float k c)
 (h : ∀ r W,Ext w W → cn k r = fop op k (cn k b) (cn k c) → K (a.put o.dst (.float k r)) W) : wpOp P ops Q i K a w := by
 obtain ⟨r,n,h1,h2⟩ := run_fop (P := P) hop ho hx hy w;exact jbz hoi hg h1 (h r _ (Ext.drewN w n) h2)
theorem wpOp_runW {K : Act → World → Prop} {i : Nat} {o : Oper} {v : Value} {w' : World} (ho : ops[i]? = some o) (hg : o.guard = none) (hr : (execOp a.eval o).run P w = .ok (.value v) w') (h : ∀ W,W = w' → K (a.put o.dst v) W) : wpOp P ops Q i K a w :=
 jbz ho hg hr (h _ rfl)
theorem wpOp_apN {K : Act → World → Prop} {i : Nat} {o : Oper} {t e s b : Nat} {z : Value} [T : SlTy P t e s z b] {x1 x2 : Operand} {v : Value} {B n m c : Nat} {vs us : List Value} {q : Addr} (hoi : ops[i]? = some o) (hg : o.guard = none)
 (ho : o.op = .call { callee := .builtin .append,args := #[x1,x2],argTypes := #[t,t] }) (hx1 : a.eval x1 = v) (hx2 : a.eval x2 = .slice (some q) m c) (how : w.ownsRow B e s v n vs) (hc : Cs w (some q) us) (hm : us.length = m * s) (h1 : ∀ u ∈ us,u.oneCell' = true)
 (hn : n + m ≤ maxLen) (hb : (n + m) * b ≤ 140737488355328) (hB : B ≤ w.heap.size)
 (h : ∀ q' k' w',w'.ownsRow B e s (.slice q' (n + m) k') (n + m) (vs ++ us) → w.grownBy w' v.ownBlock → ((Value.slice q' (n + m) k').ownBlock = v.ownBlock ∨ (Value.slice q' (n + m) k').ownBlock = some w.heap.size) → K (a.put o.dst (.slice q' (n + m) k')) w') : wpOp P ops Q i K a w := by
 obtain ⟨ti,hi,hzz⟩ := Option.map_eq_some_iff.1 T.inf;simp only [Prod.mk.injEq] at hzz;obtain ⟨v',w',hr,h2,h3,_,h5⟩ := run_append_own_at (P := P) (w := w) B t o.type e ti z s b T.und hi hzz.1 hzz.2.1 hzz.2.2 T.zs T.pos v n vs how q m c us hm (fun j u hj => hc.cell j u hj) h1 hn hb hB;obtain ⟨q',k',rfl⟩ := own_valZ h2;exact jbz hoi hg (by simp [execOp,ho,resolve,invoke,builtin,hx1,hx2,hr]) (h q' k' w' h2 h3 h5)
end
def FusRet (w : World) (A C O : Nat) (fa ga fb gb : Nat → Int) (e : Ending) (w' : World) : Prop :=
 ∃ (q q2 : Option Addr) (k k2 : Nat) (us vs : List Value) (wf bf : List Nat),e = .returned (.tuple #[.agg #[.int .i64 0,.int .i64 A,.int .i64 O,.slice q (O * A) k,.slice q2 O k2],.bool true]) ∧ w'.ownsRow w.heap.size 33 1 (.slice q (O * A) k) (O * A) us ∧ F32s us wf ∧ ZF wf (O * A) (fun j => SZ (fun t => fb (j / A * C + t) * fa (t * A + j % A)) C) ∧ w'.ownsRow w.heap.size 33 1 (.slice q2 O k2) O vs ∧ F32s vs bf ∧ ZF bf O (fun o => SZ (fun t => fb (o * C + t) * ga t) C + gb o) ∧ Ext w w'
theorem FuseLinear_whole (A C O : Nat) (p1 p2 p3 p4 : Option Addr) (k1 k2 k3 k4 : Nat) (us1 us2 us3 us4 : List Value) (wa ba wb bb : List Nat) (fa ga fb gb : Nat → Int) (w : World) (hA : 1 ≤ A ∧ A ≤ 4) (hC : 1 ≤ C ∧ C ≤ 4) (hO : 1 ≤ O ∧ O ≤ 4)
 (h1 : Cs w p1 us1) (g1 : F32s us1 wa) (l1 : wa.length = C * A) (c1 : C * A ≤ k1) (z1 : ZL wa fa 8) (h2 : Cs w p2 us2) (g2 : F32s us2 ba) (l2 : ba.length = C) (z2 : ZL ba ga 8)
 (h3 : Cs w p3 us3) (g3 : F32s us3 wb) (l3 : wb.length = O * C) (c3 : O * C ≤ k3) (z3 : ZL wb fb 8) (h4 : Cs w p4 us4) (g4 : F32s us4 bb) (l4 : bb.length = O) (z4 : ZL bb gb 8) :
 Calls Try.prog 41 #[.agg #[.int .i64 0,.int .i64 A,.int .i64 C,.slice p1 (C * A) k1,.slice p2 C k2],.agg #[.int .i64 0,.int .i64 C,.int .i64 O,.slice p3 (O * C) k3,.slice p4 O k4]] w (FusRet w A C O fa ga fb gb) := by
 have hCA : C * A ≤ 4 * 4 := Nat.mul_le_mul hC.2 hA.2;have hOC : O * C ≤ 4 * 4 := Nat.mul_le_mul hO.2 hC.2;obtain ⟨CA,hCAe⟩ : ∃ x,x = C * A := ⟨_,rfl⟩;obtain ⟨OC,hOCe⟩ : ∃ x,x = O * C := ⟨_,rfl⟩
 have hv1 : layB 0 (A : Int) (C : Int) CA C = true := by
  unfold layB;rw [jas.2 (show (1 : Int) ≤ A ∧ (A : Int) ≤ 8 by omega),jas.2 (show (1 : Int) ≤ C ∧ (C : Int) ≤ 8 by omega)];simp [inB,wCnt,bCnt,hCAe,Int.mul_comm]
 have hv2 : layB 0 (C : Int) (O : Int) OC O = true := by
  unfold layB;rw [jas.2 (show (1 : Int) ≤ C ∧ (C : Int) ≤ 8 by omega),jas.2 (show (1 : Int) ≤ O ∧ (O : Int) ≤ 8 by omega)];simp [inB,wCnt,bCnt,hOCe,Int.mul_comm]
 rw [← hCAe] at l1 c1 hCA ⊢;rw [← hOCe] at l3 c3 hOC ⊢;have V1 := hid (fun W => jbm 0 (A : Int) (C : Int) p1 p2 CA k1 C k2 W (by unfold maxLen;omega) (by unfold maxLen;omega));have V2 := hid (fun W => jbm 0 (C : Int) (O : Int) p3 p4 OC k3 O k4 W (by unfold maxLen;omega) (by unfold maxLen;omega));rw [hv1] at V1;rw [hv2] at V2;have HCA := hid hCAe;have HOC := hid hOCe;have HL1 := hid l1;have HL2 := hid l2;have HL3 := hid l3;have HL4 := hid l4;obtain ⟨W0,hW0⟩ : ∃ W0,W0 = ((w.alloc (.cells #[.int .i64 0,.int .i64 A,.int .i64 C,.slice p1 CA k1,.slice p2 C k2] 41)).alloc (.cells #[.int .i64 0,.int .i64 C,.int .i64 O,.slice p3 OC k3,.slice p4 O k4] 41)).alloc (.cells #[.int .i64 0,.int .i64 0,.int .i64 0,.slice none 0 0,.slice none 0 0] 41) := ⟨_,rfl⟩;obtain ⟨E0,s0,b0,b1,b2⟩ := box3 hW0;have b0 : HB W0 w.heap.size #[.int .i64 0,.int .i64 A,.int .i64 C,.slice p1 CA k1,.slice p2 C k2] 41 := b0;have b1 : HB W0 (w.heap.size + 1) #[.int .i64 0,.int .i64 C,.int .i64 O,.slice p3 OC k3,.slice p4 O k4] 41 := b1;have b2 : HB W0 (w.heap.size + 2) #[.int .i64 0,.int .i64 0,.int .i64 0,.slice none 0 0,.slice none 0 0] 41 := b2;have x0 := b0.cell 0 rfl;have x1 := b0.cell 1 rfl;have x2 := b0.cell 2 rfl;have x3 := b0.cell 3 rfl;have x4 := b0.cell 4 rfl;have hCC : ((C : Int) != (C : Int)) = false := bne_f rfl;clear hCAe hOCe hv1 hv2 l1 l2 l3 l4;go_enter Try.func41,Try.ntmps41;rw [hW0] at x0 x1 x2 x3 x4;go_wp2_with fail;rw [← hW0];clear hW0 x0 x1 x2 x3 x4;refine (V1.out W0).mono ?_;rintro e w1 ⟨rfl,e1⟩
 have B0 := b0.ext e1;have B1 := b1.ext e1;have y0 := B1.cell 0 rfl;have y1 := B1.cell 1 rfl;have y2 := B1.cell 2 rfl;have y3 := B1.cell 3 rfl;have y4 := B1.cell 4 rfl;go_wp2_with fail;refine (V2.out w1).mono ?_;rintro e w2 ⟨rfl,e2⟩
 have B02 := B0.ext e2;have B12 := B1.ext e2;have x0 := B02.cell 0 rfl;have x1 := B02.cell 1 rfl;have x2 := B02.cell 2 rfl;have v0 := B12.cell 0 rfl;have v1 := B12.cell 1 rfl;have v2 := B12.cell 2 rfl;clear y0 y1 y2 y3 y4;have e3 := Ext.alloc w2 (.cells #[.int .i64 0,.int .i64 A,.int .i64 O,.slice none 0 0,.slice none 0 0] 41);have v2' := e3.cell v2;obtain ⟨w3,hw3⟩ : ∃ w3,w3 = w2.alloc (.cells #[.int .i64 0,.int .i64 A,.int .i64 O,.slice none 0 0,.slice none 0 0] 41) := ⟨_,rfl⟩;have b6 := HB.new w2 #[.int .i64 0,.int .i64 A,.int .i64 O,.slice none 0 0,.slice none 0 0] 41;rw [← hw3] at b6 e3;go_wp2;rw [← hw3];have B03 := B02.ext e3;have B13 := B12.ext e3;have b23 := ((b2.ext e1).ext e2).ext e3;have E3 := ((E0.trans e1).trans e2).trans e3;have hnil : w3.ownsRow (w2.heap.size + 1) 33 1 (.slice none 0 0) 0 [] := ⟨rfl,.inl ⟨rfl,rfl⟩⟩;have s3 : w3.heap.size = w2.heap.size + 1 := by rw [hw3];simp
 have Z2 : w.heap.size + 3 ≤ w2.heap.size := by have := e1.size;have := e2.size;omega
 have S3 := hid s3;clear hw3 s3 B02 B12 B0 B1 b0 b1 b2 x0 x1 x2 v0 v1 v2 v2' V1 V2;obtain ⟨FW,hFW⟩ : ∃ f : Nat → Int,f = fun j => SZ (fun t => fb (j / A * C + t) * fa (t * A + j % A)) C := ⟨_,rfl⟩
 obtain ⟨FB,hFB⟩ : ∃ f : Nat → Int,f = fun o => SZ (fun t => fb (o * C + t) * ga t) C + gb o := ⟨_,rfl⟩
 have HFW := hid hFW;have HFB := hid hFB;clear hFW hFB;go_loopw [45] (fun iv wr => ∃ (o : Nat) (W : World) (q q2 : Option Addr) (k k' nw : Nat) (us vs : List Value) (wf bf : List Nat),W = wr ∧ o ≤ O ∧ iv = .int .i64 (o : Int) ∧ Hid (nw = o * A) ∧ HB wr w2.heap.size #[.int .i64 0,.int .i64 A,.int .i64 O,.slice q nw k,.slice q2 o k'] 41 ∧ wr.ownsRow (w2.heap.size + 1) 33 1 (.slice q nw k) nw us ∧ Hid (F32s us wf) ∧ Hid (ZF wf nw FW) ∧ wr.ownsRow (w2.heap.size + 1) 33 1 (.slice q2 o k') o vs ∧ Hid (F32s vs bf) ∧ Hid (ZF bf o FB) ∧ Hid (∀ b,(Value.slice q nw k).ownBlock = some b → (Value.slice q2 o k').ownBlock ≠ some b) ∧ Chg (fun b => b = w2.heap.size) w3 wr) (fun iv _ => O - (intOf iv).toNat)
 case atStart => exact ⟨0,_,none,none,0,0,0,[],[],[],[],rfl,by omega,rfl,by simp [Hid],b6,hnil,F32s.nil,ZF.nil _,hnil,F32s.nil,ZF.nil _,fun b h => by simp [Value.ownBlock] at h,Chg.refl _ _⟩
 case round =>
  clear b6 hnil;obtain ⟨o,W,q,q2,k,k',nw,us,vs,wf,bf,hWe,ho,rfl,HNW,B6,ow,HF,HZ,ob,HG,HY,HD,hc⟩ := hrel;subst hWe;have hz3 := hc.size;have B0w := B03.chg hc (fun h => by have h : w.heap.size = w2.heap.size := h;omega);have B1w := B13.chg hc (fun h => by have h : w.heap.size + 1 = w2.heap.size := h;omega)
  by_cases hlt : o < O
  · have hdl : decide ((o : Int) < (O : Int)) = true := by simp;omega
    obtain ⟨L,hL⟩ : ∃ L : Nat,L = o * C := ⟨_,rfl⟩;obtain ⟨H,hH⟩ : ∃ H : Nat,H = L + C := ⟨_,rfl⟩;have hb1 : o * C ≤ 4 * 4 := Nat.mul_le_mul (by omega) (by omega);have hb2 : H ≤ OC := by rw [hH,hL,HOC.out,← Nat.succ_mul];exact Nat.mul_le_mul_right _ (by omega)
    have m1 : (o : Int) * (C : Int) = (L : Int) := by rw [hL];push_cast;rfl
    have m2 : ((o : Int) + 1) * (C : Int) = (H : Int) := by rw [Int.add_mul,m1,hH];push_cast;omega
    have q1 : IntKind.i64.wrap ((o : Int) * (C : Int)) = (L : Int) := by rw [m1];exact jao _ (by omega) (by omega)
    have q3 : IntKind.i64.wrap ((o : Int) + 1) = (o : Int) + 1 := jao _ (by omega) (by omega);have q2' : IntKind.i64.wrap (((o : Int) + 1) * (C : Int)) = (H : Int) := by rw [m2];exact jao _ (by omega) (by omega)
    have HL := hid hL;have HH := hid hH;clear hL hb1 m1 m2;have x1 := B0w.cell 1 rfl;have x2 := B0w.cell 2 rfl;have x3 := B0w.cell 3 rfl;have x4 := B0w.cell 4 rfl;have y1 := B1w.cell 1 rfl;have y3 := B1w.cell 3 rfl;have y4 := B1w.cell 4 rfl;go_wp2_with (refine wl_slice rfl rfl rfl rfl rfl (u := H) (l := L) rfl rfl (by omega) (by omega) ?_);obtain ⟨sp,hsp⟩ : ∃ sp,sp = Option.map (fun x : Addr => x.add L) p3 := ⟨_,rfl⟩;obtain ⟨d3,hd3⟩ : ∃ d,d = k3 - L := ⟨_,rfl⟩;rw [← hsp,← hd3,show L + C - L = C by omega];have hLC : L + C ≤ OC := by omega
    have HCD : Hid (∀ W',Ext w W' → Cs W' sp ((us3.take ((L + C) * 1)).drop (L * 1))) := fun W' hE => by
     have hs := (h3.ext hE).sub (s := 1) (l := L) (hi := L + C) (c := k3) (by omega) (by omega);rw [subp,if_neg (by omega),Nat.mul_one] at hs;rw [hsp,Nat.mul_one];exact hs
    have HFD : Hid (F32s ((us3.take ((L + C) * 1)).drop (L * 1)) ((wb.take ((L + C) * 1)).drop (L * 1))) := g3.part _ _
    have HZD : Hid (ZL ((wb.take ((L + C) * 1)).drop (L * 1)) (fun t => fb (o * C + t)) 8 ∧ ((wb.take ((L + C) * 1)).drop (L * 1)).length = C) := by
     have hle : ((wb.take ((L + C) * 1)).drop (L * 1)).length = C := by simp [HL3.out];omega
     refine ⟨fun i hi => ?_,hle⟩;rw [part_get (by omega),Nat.mul_one];rw [← HL.out];exact z3 _ (by rw [HL3.out];omega)
    have EW : Ext w W := E3.chg hc (fun b hb => by have h : b = w2.heap.size := hb;omega);have HEW := hid EW;clear hsp hd3 hH HH hb2 hLC q1 q3 q2';go_loopw [62] (fun iv wr => ∃ (i : Nat) (W2 : World) (q : Option Addr) (k nx : Nat) (us : List Value) (wf : List Nat),W2 = wr ∧ i ≤ A ∧ iv = .int .i64 (i : Int) ∧ Hid (nx = o * A + i) ∧ HB wr w2.heap.size #[.int .i64 0,.int .i64 A,.int .i64 O,.slice q nx k,.slice q2 o k'] 41 ∧ wr.ownsRow (w2.heap.size + 1) 33 1 (.slice q nx k) nx us ∧ Hid (F32s us wf) ∧ Hid (ZF wf nx FW) ∧ wr.ownsRow (w2.heap.size + 1) 33 1 (.slice q2 o k') o vs ∧ Hid (∀ b,(Value.slice q nx k).ownBlock = some b → (Value.slice q2 o k').ownBlock ≠ some b) ∧ Chg (fun b => b = w2.heap.size) w3 wr) (fun iv _ => A - (intOf iv).toNat)
    case atStart => exact ⟨0,_,q,k,nw,us,wf,rfl,by omega,rfl,HNW.out,B6,ow,HF,HZ,ob,HD,hc⟩
    case round =>
     clear B6 ow HF HZ ob HD hc HNW B0w B1w x1 x2 x3 x4 y1 y3 y4 EW;obtain ⟨i,W2,q,k,nx,us,wf,hWe,hi,rfl,HNX,B6,ow,HF,HZ,ob,HD,hc⟩ := hrel;subst hWe;have hz3 := hc.size;have B0w := B03.chg hc (fun h => by have h : w.heap.size = w2.heap.size := h;omega);have EW : Ext w W2 := E3.chg hc (fun b hb => by have h : b = w2.heap.size := hb;omega)
     by_cases hlt2 : i < A
     · have hdl : decide ((i : Int) < (A : Int)) = true := by simp;omega
       have x1 := B0w.cell 1 rfl;have x2 := B0w.cell 2 rfl;have x3 := B0w.cell 3 rfl;have eA := Ext.alloc W2 (.cells #[] 33);have x2a := eA.cell x2;have hst : (W2.alloc (.cells #[] 33)).ownsRow W2.heap.size 33 1 (.slice (some ⟨W2.heap.size,0,none⟩) 0 0) 0 [] := World.ownsRow_made W2 #[] 0 (Nat.le_refl _) (by decide) rfl;go_wp2;clear x2a;go_loopw [10,68] (fun cv tv wr => ∃ (t : Nat) (qc : Option Addr) (kc : Nat) (uc : List Value),t ≤ C ∧ tv = .int .i64 (t : Int) ∧ cv = .slice qc t kc ∧ wr.ownsRow W2.heap.size 33 1 (.slice qc t kc) t uc ∧ Hid (F32s uc (tab t (fun t => wa.getD (t * A + i) 0))) ∧ Ext W2 wr) (fun _ tv _ => C - (intOf tv).toNat)
       case atStart => exact ⟨0,_,0,[],by omega,rfl,rfl,hst,F32s.nil,eA⟩
       case round =>
        clear hst eA;obtain ⟨t,qc,kc,uc,ht,rfl,rfl,oc,HC,he⟩ := hrel
        by_cases hlt3 : t < C
        · have hdl : decide ((t : Int) < (C : Int)) = true := by simp;omega
          have x1 := (B0w.ext he).cell 1 rfl;have x3 := (B0w.ext he).cell 3 rfl;obtain ⟨J,hJ⟩ : ∃ J : Nat,J = t * A + i := ⟨_,rfl⟩;have hb1 : t * A ≤ 4 * 4 := Nat.mul_le_mul (by omega) (by omega)
          have hJ2 : J < CA := by
           have h5 : (t + 1) * A ≤ C * A := Nat.mul_le_mul_right _ (by omega);rw [Nat.add_mul] at h5;rw [hJ,HCA.out];omega
          have q1 : IntKind.i64.wrap ((t : Int) * (A : Int)) = ((t * A : Nat) : Int) := by rw [show (t : Int) * (A : Int) = ((t * A : Nat) : Int) by push_cast;rfl];exact jao _ (by omega) (by omega)
          have q2 : IntKind.i64.wrap (((t * A : Nat) : Int) + (i : Int)) = (J : Int) := by rw [hJ];push_cast;exact jao _ (by omega) (by omega)
          have HJ := hid hJ;have ha := (h1.ext EW).ext he;have hB := he.size;go_wp2_with (first | ((with_reducible show gx2);refine wl_ldF rfl rfl rfl rfl (fun _ => rfl) rfl rfl ha g1 HL1.out (by omega) (by omega) ?_;intro r2 q2;have G2 := hid q2;clear q2) | ((with_reducible show gx9);refine ja4 (u := .float .f32 r2) rfl rfl rfl rfl rfl rfl rfl (fun _ => rfl) (fun _ => rfl) oc (by unfold maxLen;omega) (by omega) (by omega) ?_;intro g c w4 own4 g4 hg4));have hv : cn .f32 r2 = (fun t => wa.getD (t * A + i) 0) t := by rw [G2.out,show ((t : Int) * (A : Int) + (i : Int)).toNat = t * A + i from by rw [show (t : Int) * (A : Int) + (i : Int) = ((t * A + i : Nat) : Int) by push_cast;rfl,Int.toNat_natCast]]
          have HV := hid hv;clear hv;go_roundw
          case rel =>
           have own5 : w4.ownsRow W2.heap.size 33 1 (.slice (some ⟨g,0,none⟩) (t + 1) c) (t + 1) (uc ++ [.float .f32 r2]) := own4;exact ⟨t + 1,_,_,_,by omega,by go_num,rfl,own5,by rw [Hid];exact HC.out.push HV.out,he.grown g4 (fun k hk => jah oc k hk)⟩
          case measure => simp [intOf];omega
        · obtain rfl : C = t := by omega
          have hB := he.size;have hgt3 : decide ((C : Int) < (C : Int)) = false := by simp
          go_wp2_with fail
          have HZC : Hid (ZL (tab C (fun t => wa.getD (t * A + i) 0)) (fun t => fa (t * A + i)) 8) := fun t ht => by
           rw [jbg] at ht;rw [tab_get _ ht];refine z1 _ ?_;have h5 : (t + 1) * A ≤ C * A := Nat.mul_le_mul_right _ (by omega);rw [Nat.add_mul] at h5;rw [HL1.out,HCA.out];omega
          have hnx : nx ≤ 16 := by
           have h5 : (o + 1) * A ≤ 4 * 4 := Nat.mul_le_mul (by omega) (by omega);rw [Nat.add_mul] at h5;rw [HNX.out];omega
          refine jbq (n := 8) (S := fun W => HB W w2.heap.size #[.int .i64 0,.int .i64 A,.int .i64 O,.slice q nx k,.slice q2 o k'] 41) (by kernel_rfl) rfl ?_;have eD := he.trans (Ext.drew wr);have zz1 := B6.ext eD;refine jal (k := 0) (.pointer (some ⟨w2.heap.size,3,none⟩)) (by kernel_rfl) rfl rfl (fun _ _ _ h => h) zz1 (fun W hW => by go_simp) ?_;simp only [Act.put,jad,pu1,pu2,pu3,pu4,pu5];refine jal (k := 1) (.slice q nx k) (by kernel_rfl) rfl rfl (fun _ _ _ h => h) zz1 (fun W hW => by have h1 := hW.cell 3 rfl;have h2 := hW.froz 3;go_simp) ?_;simp only [Act.put,jad,pu1,pu2,pu3,pu4,pu5];refine jal (k := 2) (.slice sp C d3) (by kernel_rfl) rfl rfl (fun _ _ _ h => h) zz1 (fun W hW => by go_simp) ?_;simp only [Act.put,jad,pu1,pu2,pu3,pu4,pu5];refine jal (k := 3) (.slice qc C kc) (by kernel_rfl) rfl rfl (fun _ _ _ h => h) zz1 (fun W hW => by go_simp) ?_;simp only [Act.put,jad,pu1,pu2,pu3,pu4,pu5];refine jbh (k := 4) (by kernel_rfl) (wpOp_call (f := 81) (args := #[.slice sp C d3,.slice qc C kc]) rfl rfl rfl Try.func81 rfl (by kernel_rfl) (by simp [Act.eval]) (dotWide_whole sp qc C d3 kc 8 8 _ uc _ (tab C (fun t => wa.getD (t * A + i) 0)) _ _ _ HZD.out.2 (jbg _ _) (by omega) (HCD.out _ (EW.trans eD)) HFD.out (jbc (jak oc (Ext.drew wr))) HC.out HZD.out.1 HZC.out (by decide) (by decide) (by decide)) ?_);rintro e w5 ⟨b,rfl,hb,e5⟩
          have zz5 := zz1.ext e5;refine ⟨_,rfl,zz5,?_⟩;simp only [Act.put,jad,pu1,pu2,pu3,pu4,pu5];refine jbh (k := 5) (by kernel_rfl) (jbz (v := .slice (some ⟨w5.heap.size,0,none⟩) 1 1) (w' := w5.alloc (.cells #[.float .f32 b] 33)) rfl rfl (by go_simp) ?_);have e6 := eD.trans (e5.trans (Ext.alloc w5 (.cells #[.float .f32 b] 33)));have c6 : Cs (w5.alloc (.cells #[.float .f32 b] 33)) (some ⟨w5.heap.size,0,none⟩) [.float .f32 b] := cs_heap (HB.new w5 _ _);have zz6 := zz5.ext (Ext.alloc w5 (.cells #[.float .f32 b] 33));refine ⟨zz6,?_⟩;simp only [Act.put,jad,pu1,pu2,pu3,pu4,pu5];generalize w5.alloc (.cells #[.float .f32 b] 33) = w6 at *;have hB6 := e6.size;have o6 := jak ow e6;have ob6 := jak ob e6;refine jbh (k := 6) (by kernel_rfl) ?_;refine wpOp_apN (B := w2.heap.size + 1) (t := 25) (e := 33) (s := 1) (v := .slice q nx k) (n := nx) (m := 1) (c := 1) (q := ⟨w5.heap.size,0,none⟩) (x1 := .tmp 86) (x2 := .tmp 90) rfl rfl rfl (by simp [Act.eval]) (by simp [Act.eval]) o6 c6 rfl (by simp [Value.oneCell']) (by unfold maxLen;omega) (by omega) (by have := S3.out;omega) ?_;intro q7 k7 w7 o7 g7 hN;have g7' := Chg.of_grown g7;have zz7 := zz6.chg g7' (fun h => by have := jah o6 _ h.symm;omega);refine ⟨zz7,?_⟩;simp only [Act.put,jad,pu1,pu2,pu3,pu4,pu5];refine jal (k := 7) (.pointer (some ⟨w2.heap.size,3,none⟩)) (by kernel_rfl) rfl rfl (fun _ _ _ h => h) zz7 (fun W hW => by go_simp) ?_;simp only [Act.put,jad,pu1,pu2,pu3,pu4,pu5];refine hs_last (k := 8) (by kernel_rfl) rfl ?_;have f7 := zz7.froz 3;have y7 := zz7.cell 3 rfl;go_wp2_with fail;go_roundw
          case rel =>
           have cgc := jaj w7 w2.heap.size 3 (.slice q7 (nx + 1) k7);have o8 := ja2 o7 cgc (fun k hk hs => by have hs : k = w2.heap.size := hs;have := jah o7 k hk;omega);have ob7 := jbo ob6 g7' (fun b hb h => HD.out b h.symm hb);have ob8 := ja2 ob7 cgc (fun k hk hs => by have hs : k = w2.heap.size := hs;have := jah ob7 k hk;omega)
           have hFWn : FW nx = SZ (fun t => fb (o * C + t) * fa (t * A + i)) C := by
            rw [HFW.out,HNX.out];have h1 : (o * A + i) / A = o := by rw [Nat.mul_comm,Nat.mul_add_div (by omega),Nat.div_eq_of_lt hlt2];rfl
            have h2 : (o * A + i) % A = i := by rw [Nat.mul_comm,Nat.mul_add_mod];exact Nat.mod_eq_of_lt hlt2
            simp only [h1,h2]
           refine ⟨i + 1,_,q7,k7,nx + 1,us ++ [.float .f32 b],wf ++ [cn .f32 b],rfl,by omega,by go_num,?_,zz7.set 3 _,o8,hid (HF.out.snoc1 b),hid (HZ.out.snoc (by rw [hFWn];exact hb)),ob8,?_,((hc.trans (Chg.of_ext e6)).late g7' (fun b hb => .inl (by have := jah o6 b hb.symm;have := S3.out;omega))).trans cgc⟩
           · rw [Hid,HNX.out];omega
           · intro b hb hb2
             rcases hN with h | h
             · rw [h] at hb;exact HD.out b hb hb2
             · rw [h] at hb;have := own_lt ob6 b hb2;cases hb;omega
          case measure => simp [intOf];omega
     · obtain rfl : A = i := by omega
       have hgt2 : decide ((A : Int) < (A : Int)) = false := by simp
       have x4 := B0w.cell 4 rfl;have B1w := B13.chg hc (fun h => by have h : w.heap.size + 1 = w2.heap.size := h;omega);go_wp2_with fail;obtain ⟨bz,hbz,hbc⟩ := g4.get (i := o) (by rw [HL4.out];exact hlt);have hp4 : p4.isSome = true := h4.isS fun h0 => by rw [h0] at hbz;simp at hbz
       obtain ⟨a4,rfl⟩ := Option.isSome_iff_exists.1 hp4;have C4 := h4.ext EW;have HB4 := hid hbc;clear hbc;refine jbq (n := 15) (S := fun W => HB W w2.heap.size #[.int .i64 0,.int .i64 A,.int .i64 O,.slice q nx k,.slice q2 o k'] 41 ∧ HB W w.heap.size #[.int .i64 0,.int .i64 A,.int .i64 C,.slice p1 CA k1,.slice p2 C k2] 41 ∧ HB W (w.heap.size + 1) #[.int .i64 0,.int .i64 C,.int .i64 O,.slice p3 OC k3,.slice (some a4) O k4] 41 ∧ Cs W (some a4) us4) (by kernel_rfl) rfl ?_;have eD := Ext.drew W2;have zz1 : HB W2.drew w2.heap.size #[.int .i64 0,.int .i64 A,.int .i64 O,.slice q nx k,.slice q2 o k'] 41 ∧ HB W2.drew w.heap.size #[.int .i64 0,.int .i64 A,.int .i64 C,.slice p1 CA k1,.slice p2 C k2] 41 ∧ HB W2.drew (w.heap.size + 1) #[.int .i64 0,.int .i64 C,.int .i64 O,.slice p3 OC k3,.slice (some a4) O k4] 41 ∧ Cs W2.drew (some a4) us4 := ⟨B6.ext eD,B0w.ext eD,B1w.ext eD,C4.ext eD⟩;refine jal (k := 0) (.pointer (some ⟨w2.heap.size,4,none⟩)) (by kernel_rfl) rfl rfl (fun _ _ _ h => h) zz1 (fun W hW => by go_simp) ?_;simp only [Act.put,jad,pu1,pu2,pu3,pu4,pu5];refine jal (k := 1) (.slice q2 o k') (by kernel_rfl) rfl rfl (fun _ _ _ h => h) zz1 (fun W hW => by have h1 := hW.1.cell 4 rfl;have h2 := hW.1.froz 4;go_simp) ?_;simp only [Act.put,jad,pu1,pu2,pu3,pu4,pu5];refine jal (k := 2) (.slice sp C d3) (by kernel_rfl) rfl rfl (fun _ _ _ h => h) zz1 (fun W hW => by go_simp) ?_;simp only [Act.put,jad,pu1,pu2,pu3,pu4,pu5];refine jal (k := 3) (.pointer (some ⟨w.heap.size,4,none⟩)) (by kernel_rfl) rfl rfl (fun _ _ _ h => h) zz1 (fun W hW => by go_simp) ?_;simp only [Act.put,jad,pu1,pu2,pu3,pu4,pu5];refine jal (k := 4) (.slice p2 C k2) (by kernel_rfl) rfl rfl (fun _ _ _ h => h) zz1 (fun W hW => by have h1 := hW.2.1.cell 4 rfl;have h2 := hW.2.1.froz 4;go_simp) ?_;simp only [Act.put,jad,pu1,pu2,pu3,pu4,pu5];refine jal (k := 6) (.pointer (some ⟨w.heap.size + 1,4,none⟩)) (by kernel_rfl) rfl rfl (fun _ _ _ h => h) zz1 (fun W hW => by go_simp) ?_;simp only [Act.put,jad,pu1,pu2,pu3,pu4,pu5];refine jal (k := 7) (.slice (some a4) O k4) (by kernel_rfl) rfl rfl (fun _ _ _ h => h) zz1 (fun W hW => by have h1 := hW.2.2.1.cell 4 rfl;have h2 := hW.2.2.1.froz 4;go_simp) ?_;simp only [Act.put,jad,pu1,pu2,pu3,pu4,pu5];refine jal (k := 8) (.int .i64 (o : Int)) (by kernel_rfl) rfl rfl (fun _ _ _ h => h) zz1 (fun W hW => by go_simp) ?_;simp only [Act.put,jad,pu1,pu2,pu3,pu4,pu5];refine hd_idx (k := 9) (s := 1) (j := o) (p := some a4) (m := O) (c := k4) (kk := .i64) (by kernel_rfl) rfl rfl rfl (fun _ _ _ _ h => h) zz1 (by simp [Act.eval]) (by simp [Act.eval]) rfl hlt ?_;simp only [Act.put,jad,pu1,pu2,pu3,pu4,pu5];refine hd_ld (k := 10) (q := adr (some a4) (o * 1)) (v := .float .f32 bz) (by kernel_rfl) rfl rfl rfl (fun _ _ _ _ h => h) zz1 (by simp [Act.eval]) (fun W hW => by have h7 := hW.2.2.2.cell o _ hbz;simpa [adr] using h7) ?_;simp only [Act.put,jad,pu1,pu2,pu3,pu4,pu5];have HZ2 : Hid (ZL ba ga 8) := z2;refine jbh (k := 5) (by kernel_rfl) (wpOp_call (f := 81) (args := #[.slice sp C d3,.slice p2 C k2]) rfl rfl rfl Try.func81 rfl (by kernel_rfl) (by simp [Act.eval]) (dotWide_whole sp p2 C d3 k2 8 8 _ us2 _ ba _ _ _ HZD.out.2 HL2.out (by omega) (HCD.out _ (EW.trans eD)) HFD.out (h2.ext (EW.trans eD)) g2 HZD.out.1 HZ2.out (by decide) (by decide) (by decide)) ?_);rintro e w5 ⟨b,rfl,hb,e5⟩
       have HBI := hid hb;clear hb;have zz5 := And.intro (zz1.1.ext e5) (And.intro (zz1.2.1.ext e5) (And.intro (zz1.2.2.1.ext e5) (zz1.2.2.2.ext e5)));refine ⟨_,rfl,zz5,?_⟩;simp only [Act.put,jad,pu1,pu2,pu3,pu4,pu5];refine jbh (k := 11) (by kernel_rfl) (wpOp_fop (k := .f32) (b := b) (c := bz) rfl rfl rfl rfl (by simp [Act.eval]) (by simp [Act.eval]) ?_);intro r w5' eN hr;have zz6 := And.intro (zz5.1.ext eN) (And.intro (zz5.2.1.ext eN) (And.intro (zz5.2.2.1.ext eN) (zz5.2.2.2.ext eN)));refine ⟨zz6,?_⟩;simp only [Act.put,jad,pu1,pu2,pu3,pu4,pu5];have e5N := eD.trans (e5.trans eN);refine jbh (k := 12) (by kernel_rfl) (wpOp_runW (v := .slice (some ⟨w5'.heap.size,0,none⟩) 1 1) (w' := w5'.alloc (.cells #[.float .f32 r] 33)) rfl rfl (by go_simp) ?_);intro w6 hw6;have eL : Ext w5' w6 := by rw [hw6];exact Ext.alloc _ _
       have e6 := e5N.trans eL;have c6 : Cs w6 (some ⟨w5'.heap.size,0,none⟩) [.float .f32 r] := by rw [hw6];exact cs_heap (HB.new w5' _ _)
       clear hw6;have zz7 := And.intro (zz6.1.ext eL) (And.intro (zz6.2.1.ext eL) (And.intro (zz6.2.2.1.ext eL) (zz6.2.2.2.ext eL)));refine ⟨zz7,?_⟩;simp only [Act.put,jad,pu1,pu2,pu3,pu4,pu5];have hB6 := e6.size;have o6 := jak ow e6;have ob6 := jak ob e6;refine jbh (k := 13) (by kernel_rfl) ?_;refine wpOp_apN (B := w2.heap.size + 1) (t := 25) (e := 33) (s := 1) (v := .slice q2 o k') (n := o) (m := 1) (c := 1) (q := ⟨w5'.heap.size,0,none⟩) (x1 := .tmp 95) (x2 := .tmp 106) rfl rfl rfl (by simp [Act.eval]) (by simp [Act.eval]) ob6 c6 rfl (by simp [Value.oneCell']) (by unfold maxLen;omega) (by omega) (by have := S3.out;omega) ?_;intro q7 k7 w7 o7 g7 hN;have g7' := Chg.of_grown g7;have zz8 := And.intro (zz7.1.chg g7' (fun h => by have := jah ob6 _ h.symm;omega)) (And.intro (zz7.2.1.chg g7' (fun h => by have := jah ob6 _ h.symm;omega)) (And.intro (zz7.2.2.1.chg g7' (fun h => by have := jah ob6 _ h.symm;omega)) (h4.ext (Ext.chg (EW.trans e6) g7' (fun b hb => by have := jah ob6 _ hb.symm;omega)))));refine ⟨zz8,?_⟩;simp only [Act.put,jad,pu1,pu2,pu3,pu4,pu5];refine jal (k := 14) (.pointer (some ⟨w2.heap.size,4,none⟩)) (by kernel_rfl) rfl rfl (fun _ _ _ h => h) zz8 (fun W hW => by go_simp) ?_;simp only [Act.put,jad,pu1,pu2,pu3,pu4,pu5];refine hs_last (k := 15) (by kernel_rfl) rfl ?_;have f7 := zz8.1.froz 4;have y7 := zz8.1.cell 4 rfl;have HR := hid hr;clear hr;go_wp2_with fail;go_roundw
       case rel =>
        have cgc := jaj w7 w2.heap.size 4 (.slice q7 (o + 1) k7);have o8 := ja2 o7 cgc (fun k hk hs => by have hs : k = w2.heap.size := hs;have := jah o7 k hk;omega);have ow7 := jbo o6 g7' (fun b hb h => HD.out b hb h.symm);have ow8 := ja2 ow7 cgc (fun k hk hs => by have hs : k = w2.heap.size := hs;have := jah ow7 k hk;omega);refine ⟨o + 1,_,q,q7,k,k7,nx,us,_,wf,_,rfl,by omega,by go_num,?_,zz8.1.set 4 _,ow8,HF,HZ,o8,hid (HG.out.snoc1 r),hid (HY.out.snoc ?_),?_,((hc.trans (Chg.of_ext e6)).late g7' (fun b hb => .inl (by have := jah ob6 b hb.symm;have := S3.out;omega))).trans cgc⟩
        · rw [Hid,HNX.out,Nat.add_mul,Nat.one_mul]
        · rw [HR.out,HFB.out]
          have h4 := z4 o (by rw [HL4.out];exact hlt);refine iz_add HBI.out (by rw [HB4.out];exact h4.1) ?_
          have h5 : (SZ (fun t => fb (o * C + t) * ga t) C).natAbs ≤ C * 64 := SZ_bd C fun t ht => by
           have k1 := (HZD.out.1 t (by rw [HZD.out.2];exact ht)).2;have k2 := (HZ2.out t (by rw [HL2.out];exact ht)).2;rw [Int.natAbs_mul];exact Nat.mul_le_mul k1 k2
          have h6 := h4.2;have h7 : C * 64 ≤ 256 := by omega
          omega
        · intro b' hb' hb2
          rcases hN with h | h
          · rw [h] at hb2;exact HD.out b' hb' hb2
          · rw [h] at hb2;have := own_lt ow b' hb';cases hb2;omega
       case measure => simp [intOf];omega
  · have hoO : o = O := by omega
    subst hoO;have hdl : decide ((o : Int) < (o : Int)) = false := by simp
    have b4 := b23.chg hc (fun h => by have h : w.heap.size + 2 = w2.heap.size := h;omega);have x0 := B6.cell 0 rfl;have x1 := B6.cell 1 rfl;have x2 := B6.cell 2 rfl;have x3 := B6.cell 3 rfl;have x4 := B6.cell 4 rfl;have y0 := b4.cell 0 rfl;have y1 := b4.cell 1 rfl;have y2 := b4.cell 2 rfl;have y3 := b4.cell 3 rfl;have y4 := b4.cell 4 rfl;have m0 := b4.froz 0;have m1 := b4.froz 1;have m2 := b4.froz 2;have m3 := b4.froz 3;have m4 := b4.froz 4;go_wp2;have hnw : nw = o * A := HNW.out;subst hnw;have HZ' : ZF wf (o * A) (fun j => SZ (fun t => fb (j / A * C + t) * fa (t * A + j % A)) C) := by have := HZ.out;rw [HFW.out] at this;exact this
    have HY' : ZF bf o (fun o => SZ (fun t => fb (o * C + t) * ga t) C + gb o) := by have := HY.out;rw [HFB.out] at this;exact this
    have E4 : Ext w W := E3.chg hc (fun b hb => by have h : b = w2.heap.size := hb;omega);clear x0 x1 x2 x3 x4;refine bodyPost_ret (v := .tuple #[.agg #[.int .i64 0,.int .i64 A,.int .i64 o,.slice q (o * A) k,.slice q2 o k'],.bool true]) (by simp [results,Try.results41,go_sem,y0,y1,y2,y3,y4,m0,m1,m2,m3,m4]) rfl ?_;exact ⟨q,q2,k,k',us,vs,wf,bf,rfl,ja0 (ja3 (S := fun k => k = w.heap.size + 1 + 1) ow (by (repeat (first | (with_reducible first | exact Chg.refl _ _ | exact Chg.of_ext (by assumption) | assumption) | ((with_reducible refine Chg.setCell ?_ ?_ _);rotate_left;focus (first | (simp;done) | (simp;omega))) | (with_reducible first | refine Chg.alloc ?_ _ | refine Chg.drew ?_ | refine px3 ?_ (by assumption))))) (fun k hk => by omega)) (by omega),HF.out,HZ',ja0 (ja3 (S := fun k => k = w.heap.size + 1 + 1) ob (by (repeat (first | (with_reducible first | exact Chg.refl _ _ | exact Chg.of_ext (by assumption) | assumption) | ((with_reducible refine Chg.setCell ?_ ?_ _);rotate_left;focus (first | (simp;done) | (simp;omega))) | (with_reducible first | refine Chg.alloc ?_ _ | refine Chg.drew ?_ | refine px3 ?_ (by assumption))))) (fun k hk => by omega)) (by omega),HG.out,HY',Ext.chg (S := fun k => k = w.heap.size + 1 + 1) E4 (by (repeat (first | (with_reducible first | exact Chg.refl _ _ | exact Chg.of_ext (by assumption) | assumption) | ((with_reducible refine Chg.setCell ?_ ?_ _);rotate_left;focus (first | (simp;done) | (simp;omega))) | (with_reducible first | refine Chg.alloc ?_ _ | refine Chg.drew ?_ | refine px3 ?_ (by assumption))))) (fun k hk => by omega)⟩
end Go.Proofs.Ytmbckkcgiafagaa
namespace Go.Proofs.Ytmbckkcgiafagaa
open Go.RowKit
namespace Ex
open Ieee
def leqB (k : FloatKind) (a b : Nat) : Bool := k.format.order a b == some .lt || k.format.order a b == some .eq
def leS (b M : Nat) : Bool := match FloatKind.f32.decode b with | .number _ m e => decide (vm m e ≤ M * U) | _ => false
def wB (b M : Nat) : Bool := match FloatKind.f32.decode b with | .number _ m e => decide (vm m e ≤ M * U) && decide (vm m e / U * U = vm m e) | _ => false
theorem wB_cn (b M : Nat) : wB (cn .f32 b) M = wB b M := by
 by_cases h : (FloatKind.f32.decode b).isNaN = true
 · have h2 := jbj .f32 b
   rw [h] at h2;obtain ⟨s,f,h3⟩ := jaf h;obtain ⟨s',f',h4⟩ := jaf h2;unfold wB;rw [h3,h4]
 · rw [jba (by simpa using h)]
theorem order_inf (s : Bool) {x y : Nat} {v : Int} (hx : FloatKind.f32.decode x = .infinity s) (hy : Val .f32 y v) : FloatKind.f32.format.order x y = some (if s then .lt else .gt) := by
 obtain ⟨t,m,p,h1,_,_⟩ := hy;show (FloatKind.f32.decode x).order (FloatKind.f32.decode y) = _;rw [hx,h1];rfl
theorem order_nan0 {k : FloatKind} {x : Nat} (y : Nat) (hx : (k.decode x).isNaN = true) : k.format.order x y = none := by
 show (k.decode x).order (k.decode y) = _;exact order_nan_l hx
theorem nearM (M : Nat) (hM : M ≤ 1000) : Val .f32 (FloatKind.f32.nearest (M : Int)) ((M * U : Nat) : Int) := by
 have := near_val .f32 (n := (M : Int)) (by omega)
 rwa [← Int.natCast_mul] at this
def absB (x : Nat) : Nat := x % 9223372036854775808
def sizeR (b u : Nat) : Prop := ∀ M : Nat,M ≤ 1000 → leqB .f32 u (FloatKind.f32.nearest (M : Int)) = leS b M
theorem size_nan {b u : Nat} (hb : (FloatKind.f32.decode b).isNaN = true) (hu : (FloatKind.f32.decode u).isNaN = true) : sizeR b u := by
 intro M hM;obtain ⟨s,f,h3⟩ := jaf hb;unfold leqB leS;rw [order_nan0 _ hu,h3];rfl
theorem fover_nan {k k' : FloatKind} {x : Nat} (h : (k.decode x).isNaN = true) : fover k x k' = false := by
 unfold fover;rw [h];rfl
theorem size_num {b : Nat} (hb : (FloatKind.f32.decode b).isNaN = false) : fover .f64 (absB (jam .f32 b .f64)) .f32 = false ∧ (FloatKind.f64.decode (absB (jam .f32 b .f64))).isNaN = false ∧ sizeR b (jam .f64 (absB (jam .f32 b .f64)) .f32) := by
 cases hd : FloatKind.f32.decode b with
 | nan s f => rw [hd] at hb;cases hb
 | infinity s =>
   have h1 := widen_inf hd;have h2 : FloatKind.f64.decode (absB (jam .f32 b .f64)) = .infinity false := abs64_inf h1
   have h3 : floatToFloatBits .f64 (absB (jam .f32 b .f64)) .f32 = some (FloatKind.f32.encode (.infinity false)) := by
    unfold floatToFloatBits;rw [if_neg (by decide),h2]
   refine ⟨by unfold fover;rw [h3];simp,by rw [h2];rfl,fun M hM => ?_⟩
   have h4 : jam .f64 (absB (jam .f32 b .f64)) .f32 = FloatKind.f32.encode (.infinity false) 
    := by show (floatToFloatBits .f64 (absB (jam .f32 b .f64)) .f32).getD _ = _;rw [h3];rfl
   rw [h4];have h5 : FloatKind.f32.decode (FloatKind.f32.encode (.infinity false)) = .infinity false := by decide +kernel
   unfold leqB leS;rw [order_inf false h5 (nearM M hM),hd];rfl
 | number s m e =>
   obtain ⟨h1,h2,h3⟩ := dec32 hd;obtain ⟨k,p,g1,g2,g3⟩ := wide hd;have g4 := abs64 g1;obtain ⟨k',p',r1,r2,r3,r4⟩ := back g4 g2 h1 h2 h3 g3;refine ⟨r4,by rw [show absB (jam .f32 b .f64) = jam .f32 b .f64 % 9223372036854775808 from rfl,g4];rfl,fun M hM => ?_⟩;have hu : Val .f32 (jam .f64 (absB (jam .f32 b .f64)) .f32) (vs false k' p') := ⟨false,k',p',r1,r2,rfl⟩;have := hu.leq (nearM M hM);unfold leqB;rw [this];unfold leS;rw [hd,show vs false k' p' = (vm k' p' : Int) from rfl,r3];simp only;rw [Bool.eq_iff_iff];simp only [decide_eq_true_eq];omega
def truncB (x : Nat) : Nat := FloatKind.f64.encode ((FloatKind.f64.decode x).integral .zero)
theorem trunc_num {b M : Nat} (hM : M ≤ 1000) (hl : leS b M = true) : (FloatKind.f64.decode (jam .f32 b .f64)).isNaN = false ∧ (FloatKind.f64.format.order (truncB (jam .f32 b .f64)) (jam .f32 b .f64) != some .eq) = !wB b M := by
 cases hd : FloatKind.f32.decode b with
 | nan s f => unfold leS at hl;rw [hd] at hl;cases hl
 | infinity s => unfold leS at hl;rw [hd] at hl;cases hl
 | number s m e =>
   have hv : vm m e ≤ M * U := by unfold leS at hl;rw [hd] at hl;simpa using hl
   obtain ⟨k,p,g1,g2,g3⟩ := wide hd;refine ⟨by rw [g1];rfl,?_⟩;have hq : vm m e / U ≤ 1000 := Nat.le_trans (Nat.div_le_of_le_mul (by rw [Nat.mul_comm];exact hv)) hM;obtain ⟨k',p',r1,r2,r3⟩ := write_int .f64 s (q := vm m e / U) (by omega);have ht : truncB (jam .f32 b .f64) = FloatKind.f64.encode (.number s (vm m e / U) 0) := by unfold truncB;rw [g1,integral_zero s k g2,g3]
   rw [ht];have v1 : Val .f64 (FloatKind.f64.encode (.number s (vm m e / U) 0)) (vs s k' p') := ⟨s,k',p',r1,r2,rfl⟩;have v2 : Val .f64 (jam .f32 b .f64) (vs s k p) := ⟨s,k,p,g1,g2,rfl⟩;rw [v1.neq v2];have hw : wB b M = (decide (vm m e ≤ M * U) && decide (vm m e / U * U = vm m e)) := by unfold wB;rw [hd]
   rw [hw,decide_eq_true hv,Bool.true_and]
   congr 1
   unfold vs;rw [r3,g3];generalize vm m e / U * U = z
   cases s
   · simp only [Bool.false_eq_true,if_false]
     rw [Bool.eq_iff_iff];simp only [decide_eq_true_eq];omega
   · simp only [if_true]
     rw [Bool.eq_iff_iff];simp only [decide_eq_true_eq];omega
theorem wB_le {b M : Nat} (h : leS b M = false) : wB b M = false := by
 unfold leS at h;unfold wB
 cases hd : FloatKind.f32.decode b with
 | nan s f => rfl
 | infinity s => rfl
 | number s m e => rw [hd] at h;simp only at h ⊢;rw [h,Bool.false_and]
end Ex
end Go.Proofs.Ytmbckkcgiafagaa
namespace Go.Proofs.Ytmbckkcgiafagaa
open Go.RowKit
theorem growF_any (n : Nat) (hn : n ≤ 16777216) (w : World) : Calls Try.prog 129 #[.slice none 0 0,.int .i64 (n : Int)] w fun e w' => ∃ q k,e = .returned (.slice q 0 k) ∧ w'.ownsRow w.heap.size 33 1 (.slice q 0 k) 0 [] ∧ Ext w w' := by
 by_cases h0 : 0 < n
 · go_enter Try.func129,Try.ntmps129
   go_wp2_with (first | ((with_reducible show wpList _ _ _ (Oper.mk _ (Op.slice _ _ _ _ _) _ _ _ _ :: _) _ _);refine wl_sliceTo (u := 0) rfl rfl rfl rfl rfl (by omega) ?_) | ((with_reducible show gx8);refine wl_growNil (kn := .i64) (n := n) rfl rfl (by kernel_rfl) rfl rfl h0 (by unfold maxLen;omega) (by omega) ?_;intro c w1 hc own1 e1));go_ret;refine ⟨_,_,rfl,?_,e1⟩;rw [subp0];exact own1
 · obtain rfl : n = 0 := by omega
   go_enter Try.func129,Try.ntmps129;go_wp2;go_ret;exact ⟨none,0,rfl,⟨rfl,.inl ⟨rfl,rfl⟩⟩,Ext.refl _⟩
theorem concatF_any (b : Nat) (p0 p1 : Option Addr) (n0 c0 n1 c1 : Nat) (us0 us1 : List Value) (w : World) (x0 : Cs w p0 us0) (x1 : Cs w p1 us1) (y0 : us0.length = n0) (y1 : us1.length = n1) (o0 : ∀ u ∈ us0,u.oneCell' = true) (o1 : ∀ u ∈ us1,u.oneCell' = true) (k0 : n0 ≤ c0) (k1 : n1 ≤ c1) (hn : n0 + n1 ≤ 16777216) (z0 : w.cell? ⟨b,0,none⟩ = some (.slice p0 n0 c0)) (z1 : w.cell? ⟨b,1,none⟩ = some (.slice p1 n1 c1)) :
 Calls Try.prog 83 #[.slice (some ⟨b,0,none⟩) 2 2] w fun e w' => ∃ q k,e = .returned (.slice q (n0 + n1) k) ∧ w'.ownsRow w.heap.size 33 1 (.slice q (n0 + n1) k) (n0 + n1) (us0 ++ us1) ∧ Ext w w' := by
 have G := hid (fun W => growF_any (n0 + n1) hn W);rw [Int.natCast_add] at G;have Y0 := hid (show us0.length = n0 * 1 by omega);have Y1 := hid (show us1.length = n1 * 1 by omega);have o0 := hid o0;have o1 := hid o1;clear y0 y1;have q1 : IntKind.i64.wrap ((n0 : Int) + (n1 : Int)) = ((n0 + n1 : Nat) : Int) := by rw [← Int.natCast_add];exact jao _ (by omega) (by omega)
 go_enter Try.func83,Try.ntmps83;go_wp2_with fail;go_loopw [3,11] (fun sv iv wr => ∃ (i s : Nat),((i = 0 ∧ s = 0) ∨ (i = 1 ∧ n0 = s) ∨ (i = 2 ∧ n0 + n1 = s)) ∧ iv = .int .i64 i ∧ sv = .int .i64 (s : Nat) ∧ w = wr) (fun _ iv _ => 2 - (intOf iv).toNat)
 case atStart => exact ⟨0,0,.inl ⟨rfl,rfl⟩,rfl,rfl,rfl⟩
 case round =>
  obtain ⟨i,s,hi,rfl,rfl,rfl⟩ := hrel;rcases hi with ⟨rfl,rfl⟩ | ⟨rfl,rfl⟩ | ⟨rfl,rfl⟩
  · go_wp2
    go_roundw
    case rel => exact ⟨1,n0,by simp,by go_num,by go_num,by first | rfl | trivial | simp⟩
    case measure => simp [intOf]
  · go_wp2
    go_roundw
    case rel => exact ⟨2,n0 + n1,by simp,by go_num,by go_num,by first | rfl | trivial | simp⟩
    case measure => simp [intOf]
  · go_wp2_with (go_at_call 129;refine (G.out _).mono ?_;rintro e w2 ⟨q,k,rfl,own2,e2⟩)
    go_loopw [6,27] (fun av iv wr => ∃ (i m : Nat) (us : List Value) (v : Value),((i = 0 ∧ m = 0 ∧ us = []) ∨ (i = 1 ∧ n0 = m ∧ us0 = us) ∨ (i = 2 ∧ n0 + n1 = m ∧ us0 ++ us1 = us)) ∧ iv = .int .i64 i ∧ av = v ∧ wr.ownsRow w.heap.size 33 1 v m us ∧ Ext w wr) (fun _ iv _ => 2 - (intOf iv).toNat)
    case atStart => exact ⟨0,0,[],_,.inl ⟨rfl,rfl,rfl⟩,rfl,rfl,own2,e2⟩
    case round =>
     clear own2 e2;obtain ⟨i,m,us,v,hi,rfl,rfl,own3,e3⟩ := hrel;have z2 := e3.cell z0;have z3 := e3.cell z1;rcases hi with ⟨rfl,rfl,rfl⟩ | ⟨rfl,rfl,rfl⟩ | ⟨rfl,rfl,rfl⟩
     · go_wp2_with ((with_reducible show gx8);refine wl_appz rfl rfl rfl rfl own3 (x0.ext e3) Y0.out k0 o0.out (by unfold maxLen;omega) (by omega) e3.size ?_;intro v' w1 own1 g1)
       go_roundw
       case rel => exact ⟨1,_,_,_,.inr (.inl ⟨rfl,rfl,rfl⟩),by go_num,rfl,by simpa using own1,e3.grown g1 (fun kk hk => jah own3 kk hk)⟩
       case measure => simp [intOf]
     · go_wp2_with ((with_reducible show gx8);refine wl_appz rfl rfl rfl rfl own3 (x1.ext e3) Y1.out k1 o1.out (by unfold maxLen;omega) (by omega) e3.size ?_;intro v' w1 own1 g1)
       go_roundw
       case rel => exact ⟨2,_,_,_,.inr (.inr ⟨rfl,rfl,rfl⟩),by go_num,rfl,own1,e3.grown g1 (fun kk hk => jah own3 kk hk)⟩
       case measure => simp [intOf]
     · go_wp2
       go_ret;obtain ⟨q,k,rfl⟩ := own_val own3;exact ⟨q,k,rfl,own3,e3⟩
end Go.Proofs.Ytmbckkcgiafagaa
