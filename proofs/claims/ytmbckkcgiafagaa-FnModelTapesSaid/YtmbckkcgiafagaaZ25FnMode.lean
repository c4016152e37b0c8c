/- A part of the proofs: TnQ, TnR, TnS, TnT, CpyS, Spl. -/
import Derived.Test.YtmbckkcgiafagaaTnPFnMo
import Derived.Test.YtmbckkcgiafagaaZ07FnMode
import Derived.Test.YtmbckkcgiafagaaZ09FnMode
import Derived.Test.YtmbckkcgiafagaaZ11FnMode
import Derived.Test.YtmbckkcgiafagaaZ10FnMode
set_option linter.unusedSimpArgs false
set_option linter.unusedVariables false
set_option maxRecDepth 100000
set_option maxHeartbeats 16000000
namespace Go.Proofs.Ytmbckkcgiafagaa
open Go.RowKit
theorem grads_shaped {sh : Nat → Nat × Nat} {ops : List shOp.T} (hT : jbz sh ops) (h1 : 1 ≤ ops.length) {j : Nat} (hj : j < ops.length) : jbk (sh j) ((jca ops).getD j t0) := by
 have e : (jca ops).getD j t0 = gAt ops (jbe ops ops.length) j := by
  unfold jca;rw [List.getD_eq_getElem?_getD,List.getElem?_map,List.getElem?_range hj];rfl
 rw [e];unfold gAt
 cases hg : (jbe ops ops.length).getD j none with
 | some t => exact gradT_ok hT h1 ops.length (Nat.le_refl _) j t hg
 | none => rw [Option.getD_none,zero_eq hT hj];exact tFill_shaped _ _ _
def jbq (ops : List shOp.T) (ws : List Int) : List Nat := (ws.map fun z => (((jca ops).getD z.toNat t0).2.2.1 : List Nat)).flatten
theorem flatW_snoc (ops : List shOp.T) (ws : List Int) (z : Int) : jbq ops (ws ++ [z]) = jbq ops ws ++ ((jca ops).getD z.toNat t0).2.2.1 := by simp [jbq]
theorem flatW_len {sh : Nat → Nat × Nat} {ops : List shOp.T} (hT : jbz sh ops) (h1 : 1 ≤ ops.length) : ∀ ws : List Int,(∀ z ∈ ws,0 ≤ z ∧ z < ops.length) → (jbq ops ws).length ≤ 256 * ws.length
 | [],_ => by simp [jbq]
 | z :: ws,h => by
   have ih := flatW_len hT h1 ws (fun x hx => h x (by simp [hx]));have hz := h z (by simp);obtain ⟨xs,e,l⟩ := grads_shaped hT h1 (show z.toNat < ops.length by omega);have hs := hT.side z.toNat (by omega);have hl : (((jca ops).getD z.toNat t0).2.2.1 : List Nat).length ≤ 256 := by rw [e];simp only [tn];rw [l];exact Nat.mul_le_mul hs.2.1 hs.2.2.2
   have e2 : jbq ops (z :: ws) = ((jca ops).getD z.toNat t0).2.2.1 ++ jbq ops ws := by simp [jbq]
   rw [e2,List.length_append,List.length_cons];omega
def lossT (ops : List shOp.T) : Nat := ((vAt ops (ops.length - 1)).2.2.1 : List Nat).getD 0 0
theorem learned_any {sh : Nat → Nat × Nat} (p pw : Option Addr) (n c nw cw : Nat) (css : List (List Value)) (ops : List shOp.T) (ws : List Int) (w : World) (O : Ops w p n css ops) (hT : jbz sh ops) (h1 : 1 ≤ n) (hw : Cs w pw (ws.map (Value.int .i64))) (hwl : ws.length = nw) (hnw : nw ≤ 48) (hwb : ∀ z ∈ ws,0 ≤ z ∧ z < ops.length) :
 Calls Try.prog 60 #[.slice p n c,.slice pw nw cw] w fun e w' => ∃ (q : Option Addr) (k b : Nat) (us : List Value),e = .returned (.tuple #[.slice q (jbq ops ws).length k,.float .f32 b]) ∧ w'.ownsRow w.heap.size 33 1 (.slice q (jbq ops ws).length k) (jbq ops ws).length us ∧ F32s us (jbq ops ws) ∧ cn .f32 b = lossT ops ∧ Ext w w' := by
 have hlen := O.len;have HLen := hid hlen;have HWl := hid hwl;have hfl := flatW_len hT (by omega) ws hwb
 have Hpre := hid (fun j => show (jbq ops (ws.take j)).length ≤ 256 * j by
  have h := flatW_len hT (by omega) (ws.take j) (fun z hz => hwb z (List.mem_of_mem_take hz));have h2 : (ws.take j).length ≤ j := List.length_take_le _ _;omega)
 have HT := hid hT;have HO := hid O;have HWb := hid hwb;clear hlen hT hwb hwl;go_enter Try.func60,Try.ntmps60;go_wp2_with fail;refine (runTape_any p n c css ops w O HT.out h1).mono ?_;rintro e w1 ⟨u,rfl,hts,e1⟩
 obtain ⟨qv,kv,vcs,rfl,hV,hv1,hv2⟩ := hts.tens;rw [valsT_len] at hV hv1 ⊢;go_wp2_with fail;refine (gradients_any p qv n c kv css vcs ops w1 (O.ext e1) hV HT.out h1).mono ?_;rintro e w2 ⟨g,gcs,rfl,hG,e2⟩
 have e12 := e1.trans e2;have own0 : (w2.alloc (.cells #[] 33)).ownsRow w2.heap.size 33 1 (.slice (some ⟨w2.heap.size,0,none⟩) 0 0) 0 [] := World.ownsRow_made w2 #[] 0 (Nat.le_refl _) (by decide) rfl;have hV2 := hV.ext e2;clear hts;go_wp2_with fail;obtain ⟨W3,hW3⟩ : ∃ W3,W3 = w2.alloc (.cells #[] 33) := ⟨_,rfl⟩;have e3 : Ext w2 W3 := by rw [hW3];exact Ext.alloc _ _
 rw [← hW3] at own0;rw [← hW3];clear hW3 hV;go_loopw [8,19] (fun v iv wr => ∃ (j : Nat) (q : Option Addr) (k : Nat) (us : List Value),j ≤ nw ∧ iv = .int .i64 (j : Int) ∧ v = .slice q (jbq ops (ws.take j)).length k ∧ wr.ownsRow w2.heap.size 33 1 (.slice q (jbq ops (ws.take j)).length k) (jbq ops (ws.take j)).length us ∧ Hid (F32s us (jbq ops (ws.take j))) ∧ Ext w2 wr) (fun _ iv _ => nw - (intOf iv).toNat)
 case atStart => exact ⟨0,_,_,[],by omega,rfl,by simp [jbq];exact ⟨rfl,rfl⟩,by simpa [jbq] using own0,F32s.nil,e3⟩
 case round =>
  clear own0 e3;obtain ⟨j,q,k,us,hj,rfl,rfl,own,HF,he⟩ := hrel
  by_cases hlt : j < nw
  · have hz := HWb.out (ws[j]'(by rw [HWl.out];exact hlt)) (List.getElem_mem _)
    obtain ⟨z,hze⟩ : ∃ z : Nat,(ws[j]'(by rw [HWl.out];exact hlt)) = (z : Int) := ⟨(ws[j]'(by rw [HWl.out];exact hlt)).toNat,by omega⟩;have hzn : z < n := by have := HLen.out;omega
    have htk : jbq ops (ws.take (j + 1)) = jbq ops (ws.take j) ++ ((jca ops).getD z t0).2.2.1 := by
     rw [List.take_add_one,List.getElem?_eq_getElem (by rw [HWl.out];exact hlt),Option.toList_some,flatW_snoc,hze,Int.toNat_natCast]
    have hGr := hG.ext he;obtain ⟨gc,hgc,tg⟩ := hGr.at' (sh := sh) (fun x hx => grads_shaped HT.out (by rw [HLen.out];exact h1) (by rw [HLen.out];exact hx)) hzn;obtain ⟨gq,gk,gus,gxs,rfl,gde,gl,g1,g2,g3,g4⟩ := tg;have hside := HT.out.side z (by rw [HLen.out];exact hzn);obtain ⟨N,hN⟩ : ∃ N,N = (sh z).1 * (sh z).2 := ⟨_,rfl⟩;have hN2 : N ≤ 256 := by rw [hN];exact Nat.mul_le_mul hside.2.1 hside.2.2.2
    rw [gde] at htk;simp only [tn] at htk;rw [← hN] at hgc gl g3;have hone := hid g2.one;have hcw := hw.ext (e12.trans he);have hcs := hGr.cs;have hsz := hGr.size;have hcnt := hGr.cnt;have hp1 : Hid ((jbq ops (ws.take j)).length ≤ 256 * j) := Hpre.out j;have HTk := hid htk;have Hgc := hid hgc;have hxe : (ws.getD j 0) = (z : Int) := by rw [List.getD_eq_getElem?_getD,List.getElem?_eq_getElem (by rw [HWl.out];exact hlt)];exact hze
    have Hxe := hid hxe;have hgl := gl;have hbs := he.size;generalize hfe : jbq ops (ws.take j) = fj at *;have Hfe := hid hfe;have hfl2 := hp1.out;clear htk hgc hxe hze hfe hN hp1;obtain ⟨fn,hfn⟩ : ∃ x,x = fj.length := ⟨_,rfl⟩;rw [← hfn] at own hfl2;rw [← hfn];have Hfn := hid hfn;clear hfn;go_wp2_with (first | ((with_reducible show gx2);refine wl_ldI rfl rfl rfl rfl (fun _ => rfl) rfl rfl hcw HWl.out (by omega) (by omega) ?_;rw [Int.toNat_natCast,Hxe.out]) | ((with_reducible show gx17);refine wl_ldField (s := 3) (f := 2) (off := 2) (j := z) rfl rfl rfl rfl rfl rfl (fun _ => rfl) (fun _ _ => rfl) fo_implTensor_2 rfl rfl rfl hcs hsz hcnt hzn rfl Hgc.out rfl ?_) | ((with_reducible show gx5);refine wl_appz rfl rfl rfl rfl own g1 (by rw [g2.1,hgl,Nat.mul_one]) g3 hone.out (by unfold maxLen;omega) (by omega) (by omega) ?_;intro v9 w9 own9 gr9));go_roundw
    case rel =>
     obtain ⟨q9,k9,rfl⟩ := own_slice own9;have hlen9 : (jbq ops (ws.take (j + 1))).length = fn + N := by rw [HTk.out,List.length_append,gl,Hfn.out]
     exact ⟨j + 1,q9,k9,_,by omega,by go_num,by rw [hlen9],by rw [hlen9];exact own9,by rw [Hid,HTk.out];exact HF.out.app g2,he.grown gr9 (fun x hx => jas own x hx)⟩
    case measure => simp [intOf];omega
  · obtain rfl : j = nw := by omega
    rw [show ws.take j = ws from List.take_of_length_le (by rw [HWl.out];exact Nat.le_refl _)] at own HF ⊢;have hL : n - 1 < n := by omega
    obtain ⟨L,hLe⟩ : ∃ L,L = n - 1 := ⟨_,rfl⟩;have hLn : L < n := by omega
    have hVr := (hV2.ext he);obtain ⟨lc,hlc,tl⟩ := hVr.at' (sh := sh) (fun x hx => vals_shaped HT.out n (by rw [HLen.out];exact Nat.le_refl _) x hx) hLn;rw [valsT_at ops hLn] at tl;obtain ⟨lq,lk,lus,lxs,rfl,lde,ll,g1,g2,g3,g4⟩ := tl;have hside := HT.out.side L (by rw [HLen.out];exact hLn);obtain ⟨N,hN⟩ : ∃ N,N = (sh L).1 * (sh L).2 := ⟨_,rfl⟩;have hN2 : N ≤ 256 := by rw [hN];exact Nat.mul_le_mul hside.2.1 hside.2.2.2
    have hN1 : 1 ≤ N := by rw [hN];exact Nat.mul_le_mul hside.1 hside.2.2.1
    rw [← hN] at hlc ll g3;have hn48 : n ≤ 48 := by have := HT.out.len;have := HLen.out;omega
    have hwr : IntKind.i64.wrap (L : Int) = (L : Int) := by exact ja2 _ (by omega) (by omega)
    have hwr' : (n : Int) - 1 = (L : Int) := by omega
    have hloss : lossT ops = lxs.getD 0 0 := by unfold lossT;rw [HLen.out,← hLe,lde];rfl
    have Hlc := hid hlc;have Hll := hid ll;have HLo := hid hloss;have hcs := hVr.cs.ext (Ext.drew wr);have hsz := hVr.size;have hcnt := hVr.cnt;have hps : qv.isSome = true := hVr.cs.some_of (s := 3) (i := 0) hsz (by decide) (by omega);have g1' := g1.ext (Ext.drew wr);clear hlc ll hloss hN hLe lde;go_wp2_with fail;refine jae (F := fun _ _ _ => False) (by kernel_rfl) (by kernel_rfl) (by kernel_rfl) ?_;intro wf hwf
    repeat (first
     | ((first | (refine ja8 rfl ?_) | (refine x_mv rfl rfl rfl ?_) | (refine x_as rfl rfl rfl ?_) | ((with_reducible show gx13);refine x_ldField (s := 3) (f := 2) (off := 2) (j := L) rfl rfl (fun _ => rfl) rfl (fun _ _ => rfl) rfl (fun _ => rfl) (fun _ _ => rfl) fo_implTensor_2 rfl rfl (by first | rfl | omega) hcs hsz hcnt hLn hps Hlc.out rfl ?_) | ((with_reducible show gx0);refine x_ldF rfl rfl (fun _ => rfl) rfl (fun _ => rfl) rfl rfl g1' g2 Hll.out (by omega) (by omega) ?_;intro r1 g1;have G1 := hid g1;clear g1));simp only [Act.put,jab,pu1,pu2,pu3,pu4,pu5])
     | (refine jbw rfl fun K hK w1 hw1 => ?_;go_simp;refine hK _ ?_;clear hK K  hw1 w1))
    refine jbu ?_;go_wp2;go_ret2;have hL0 : cn .f32 r1 = lossT ops := by rw [HLo.out];have := G1.out;simpa using this
    exact ⟨q,k,r1,us,rfl,jak (jah own ((Ext.drew wr).trans hwf)) (by have := e12.size;omega),HF.out,hL0,(e12.trans he).trans ((Ext.drew wr).trans hwf)⟩
section
variable {P : Program} {ops : Array Oper} {Q : Exit → Act → World → Prop} {a : Act} {w : World}
theorem wpOp_callv {K : Act → World → Prop} {i : Nat} {o : Oper} {f : FuncId} {xs : Array Operand} {ts : Array TypeId} {args cap : Array Value} {x : Operand} {R : Ending → World → Prop} (hoi : ops[i]? = some o) (hg : o.guard = none) (ho : o.op = .call { callee := .value x,args := xs,argTypes := ts }) (hx : a.eval x = .func (.func f) #[] cap)
 (eg : ∀ args w,(callFunc f args).run P w = .ok (.enter f args) w) (hargs : xs.map a.eval = args) (hc : Calls P f (args ++ cap) w R)
 (h : ∀ e w',R e w' → ∃ u,e = .returned u ∧ K (a.put o.dst u) w') : wpOp P ops Q i K a w := by
 unfold wpOp;simp only [hoi];rw [if_pos (by simp [Region.wanted,hg])];refine .inl ?_;unfold Oper.wp;rw [run_callv (P := P) (a := a) ho hx eg hargs w];refine hc.mono fun e w' he => ?_
 obtain ⟨u,rfl,h1⟩ := h e w' he;exact h1
end
theorem own_op {w : World} {k a b : Int} {zb : Nat} {r c : Int} {q : Option Addr} {m cc : Nat} {z : Nat} {t : jaa.T} {bs : List Nat} (hz : cn .f32 zb = z) (ht : Own w jaa [.int .i64 r,.int .i64 c,.slice q m cc] t bs) : Own w shOp [.int .i64 k,.int .i64 a,.int .i64 b,.float .f32 zb,.int .i64 r,.int .i64 c,.slice q m cc] (k,a,b,z,t,()) bs :=
 ⟨[_],[_,_,_,_,_,_],[],bs,rfl,⟨rfl,rfl⟩,⟨[_],[_,_,_,_,_],[],bs,rfl,⟨rfl,rfl⟩,⟨[_],[_,_,_,_],[],bs,rfl,⟨rfl,rfl⟩,⟨[_],[_,_,_],[],bs,rfl,⟨⟨zb,rfl,hz⟩,rfl⟩,⟨[_,_,_],[],bs,[],by simp,ht,⟨rfl,rfl⟩,by simp⟩,rfl⟩,rfl⟩,rfl⟩,rfl⟩
theorem own_t0 {w : World} : Own w jaa [.int .i64 0,.int .i64 0,.slice none 0 0] t0 [] := own_ten rfl own_nil
structure MtSt (w : World) (B b9 b11 fa : Nat) (v : Value) (ops : List shOp.T) (css : List (List Value)) (bss : List (List Nat)) : Prop where
 box : HB w b9 #[v] 56
 fn : HB w b11 #[.func (.func fa) #[] #[.pointer (some ⟨b9,0,none⟩)]] 134
 row : GrowOwn w B 98 shOp v ops css bss
 ne : ∀ b ∈ bss.flatten,b ≠ b9 ∧ b ≠ b11
 ne2 : b9 ≠ b11
theorem MtSt.ext {w w' : World} {B b9 b11 fa : Nat} {v : Value} {ops : List shOp.T} {css : List (List Value)} {bss : List (List Nat)} (h : MtSt w B b9 b11 fa v ops css bss) (e : Ext w w') : MtSt w' B b9 b11 fa v ops css bss :=
 ⟨h.box.ext e,h.fn.ext e,h.row.ext e,h.ne,h.ne2⟩
theorem add_any (B b9 b11 : Nat) (v : Value) (ops : List shOp.T) (css : List (List Value)) (bss : List (List Nat)) (k a b r c : Int) (zb z : Nat) (q : Option Addr) (m cc : Nat) (t : jaa.T) (ob : List Nat) (w0 w : World) (hx : Ext w0 w) (M : MtSt w0 B b9 b11 99 v ops css bss) (hz : cn .f32 zb = z) (ho : Own w jaa [.int .i64 r,.int .i64 c,.slice q m cc] t ob) (hn : ob.Nodup) (hf : ∀ b ∈ ob,w0.heap.size ≤ b) (hB : B ≤ w0.heap.size) (hl : ops.length ≤ 60) :
 Calls Try.prog 99 #[.agg #[.int .i64 k,.int .i64 a,.int .i64 b,.float .f32 zb,.int .i64 r,.int .i64 c,.slice q m cc],.pointer (some ⟨b9,0,none⟩)] w fun e w' => e = .returned (.int .i64 (ops.length : Nat)) ∧ ∃ v' css' bss',MtSt w' B b9 b11 99 v' (ops ++ [(k,a,b,z,t,())]) css' bss' ∧ bss' = bss ++ [ob] ∧ Chg (fun x => x = b9 ∨ some x = v.ownBlock) w w' := by
 obtain ⟨W1,hW1⟩ : ∃ W1,W1 = w.alloc (.cells #[.int .i64 k,.int .i64 a,.int .i64 b,.float .f32 zb,.int .i64 r,.int .i64 c,.slice q m cc] 98) := ⟨_,rfl⟩;have e1 : Ext w W1 := by rw [hW1];exact Ext.alloc _ _
 have hx1 := hx.trans e1;have M1 := M.ext hx1;have y0 := M1.box.cell 0 rfl;have hrow := M1.row.row;obtain ⟨p,kk,rfl⟩ := own_slice hrow;obtain ⟨n,hne⟩ : ∃ n,n = ops.length := ⟨_,rfl⟩;rw [← hne] at hrow y0 hl ⊢;have Hne := hid hne;have B9 := M1.box;have hst := hid (own_op (k := k) (a := a) (b := b) hz (ho.ext e1));have f0 := M1.box.froz 0;have hs1 := hx1.size;rw [hW1] at y0 hrow f0;clear hne;go_enter Try.func99,Try.ntmps99;go_wp2_with ((with_reducible show gx6);refine ja9 (u := .agg #[.int .i64 k,.int .i64 a,.int .i64 b,.float .f32 zb,.int .i64 r,.int .i64 c,.slice q m cc]) rfl rfl rfl rfl rfl rfl rfl (fun _ => rfl) (fun _ => rfl) hrow (by unfold maxLen;omega) (by omega) (by simp;have := hx.size;omega) ?_;intro g9 c9 w9 own9 gr9 hg9;rw [← hW1] at gr9 hg9;have b9' := (B9.chg (Chg.of_grown gr9) (fun h => ja5 M1.row.row B9 (by decide) _ (by rw [Hne.out] at h;exact h.symm) rfl));have y9 := b9'.cell 0 rfl;have f9 := b9'.froz 0);have hch := jbc w9 b9 0 (.slice (some ⟨g9,0,none⟩) (n + 1) c9);go_ret;have hnv : ∀ x,(Value.slice p n kk).ownBlock = some x → (Value.slice p ops.length kk).ownBlock = some x := fun x h => by rw [Hne.out] at h;exact h
 have M1r := M1.row;have hsn := M.row.snoc hx1 hst.out hn hf hB Hne.out.symm own9 (by rw [Hne.out] at gr9;exact gr9) (by rw [Hne.out] at hg9;exact hg9);have hlt9 := M.box.lt;have hlt11 := M.fn.lt
 have hne' : ∀ x ∈ (bss ++ [ob]).flatten,x ≠ b9 ∧ x ≠ b11 := by
  intro x hx';rw [List.flatten_append,List.flatten_cons,List.flatten_nil,List.append_nil,List.mem_append] at hx';rcases hx' with h | h
  · exact M.ne x h
  · have := hf x h;omega
 refine ⟨rfl,_,css ++ [_],bss ++ [ob],⟨b9'.set 0 _,((M1.fn.chg (Chg.of_grown gr9) (fun h => ja5 M1.row.row M1.fn (by decide) _ (hnv _ h.symm) rfl)).chg hch (fun h => M.ne2 h.symm)),⟨?_,hsn.els.chg hch (fun x hx' h => (hne' x hx').1 h),hsn.nodup,hsn.lo⟩,hne',M.ne2⟩,rfl,?_⟩
 · have h := hsn.row
   have h2 := ja0 h hch (fun x hx' h' => ja5 h b9' (by decide) x hx' h');exact h2
 · exact ((Chg.of_ext e1).trans ((Chg.of_grown gr9).mono fun x hx' => Or.inr hx')).trans (hch.mono fun x hx' => Or.inl hx')
instance c1FnOp : Cell1 Try.prog 134 := ⟨by kernel_rfl,by kernel_rfl⟩
theorem input_any (B b9 b11 : Nat) (v : Value) (ops : List shOp.T) (css : List (List Value)) (bss : List (List Nat)) (r c : Int) (q : Option Addr) (N k : Nat) (us : List Value) (xs : List Nat) (w : World) (M : MtSt w B b9 b11 99 v ops css bss) (hB : B ≤ w.heap.size) (hl : ops.length ≤ 60) (hx : xs.length = N) (hN : N ≤ 1048576) (hk : N ≤ k) (hq : Cs w q us) (hf : F32s us xs) :
 Calls Try.prog 100 #[.agg #[.int .i64 r,.int .i64 c,.slice q N k],.pointer (some ⟨b11,0,none⟩)] w fun e w' => e = .returned (.int .i64 (ops.length : Nat)) ∧ ∃ v' css' bss',MtSt w' B b9 b11 99 v' (ops ++ [(0,0,0,0,(r,c,xs,()),())]) css' bss' ∧ (∃ ob,bss' = bss ++ [ob] ∧ ∀ x ∈ ob,w.heap.size ≤ x) ∧ Chg (fun x => x = b9 ∨ some x = v.ownBlock) w w' := by
 obtain ⟨W1,hW1⟩ : ∃ W1,W1 = w.alloc (.cells #[.int .i64 r,.int .i64 c,.slice q N k] 27) := ⟨_,rfl⟩;have e1 : Ext w W1 := by rw [hW1];exact Ext.alloc _ _
 have B2 : HB W1 w.heap.size #[.int .i64 r,.int .i64 c,.slice q N k] 27 := by rw [hW1];exact HB.new _ _ _
 have hlt9 := M.box.lt;have hlt11 := M.fn.lt;obtain ⟨n,hne⟩ : ∃ n,n = ops.length := ⟨_,rfl⟩;have Hne := hid hne;rw [← hne];clear hne;go_enter Try.func100,Try.ntmps100;go_wp2_with fail;rw [← hW1];clear hW1;have eD := Ext.drew W1;have M1 := M.ext (e1.trans eD);have B3 := B2.ext eD;refine jal (n := 5) (S := fun W => HB W b11 #[.func (.func 99) #[] #[.pointer (some ⟨b9,0,none⟩)]] 134 ∧ HB W w.heap.size #[.int .i64 r,.int .i64 c,.slice q N k] 27) (by kernel_rfl) rfl ?_;have hS0 : HB W1.drew b11 #[.func (.func 99) #[] #[.pointer (some ⟨b9,0,none⟩)]] 134 ∧ HB W1.drew w.heap.size #[.int .i64 r,.int .i64 c,.slice q N k] 27 := ⟨M1.fn,B3⟩;refine jad (k := 0) (.func (.func 99) #[] #[.pointer (some ⟨b9,0,none⟩)]) (by kernel_rfl) rfl rfl (fun _ _ _ h => h) hS0 (fun W hW => by simp [execOp,Act.eval,jce (P := Try.prog) (t := 134) (hW.1.cell 0 rfl)]) ?_
 (try simp only [pv1,pv2,pv3])
 simp only [Act.put,jab,pu1,pu2,pu3,pu4,pu5];refine jad (k := 1) (.agg #[.int .i64 r,.int .i64 c,.slice q N k]) (by kernel_rfl) rfl rfl (fun _ _ _ h => h) hS0 (fun W hW => by have y0 := hW.2.cell 0 rfl;have y1 := hW.2.cell 1 rfl;have y2 := hW.2.cell 2 rfl;go_simp) ?_
 (try simp only [pv1,pv2,pv3])
 simp only [Act.put,jab,pu1,pu2,pu3,pu4,pu5];refine jan (k := 2) (by kernel_rfl) ?_;refine jav (f := 101) (args := #[.agg #[.int .i64 r,.int .i64 c,.slice q N k]]) rfl rfl rfl Try.func101 rfl (by kernel_rfl) (by simp [Act.eval]) (copyTensor_any r c q N k us xs W1.drew hx hN hk (hq.ext (e1.trans eD)) hf) ?_;rintro e W2 ⟨q2,k2,vs2,rfl,own2,hf2,e2⟩
 rw [hx] at own2 ⊢;have hS2 := And.intro (hS0.1.ext e2) (hS0.2.ext e2);refine ⟨_,rfl,hS2,?_⟩
 (try simp only [pv1,pv2,pv3])
 simp only [Act.put,jab,pu1,pu2,pu3,pu4,pu5];refine jad (k := 3) (.agg #[.int .i64 0,.int .i64 0,.int .i64 0,.float .f32 0,.int .i64 r,.int .i64 c,.slice q2 N k2]) (by kernel_rfl) rfl rfl (fun _ _ _ h => h) hS2 (fun W hW => by go_simp) ?_
 (try simp only [pv1,pv2,pv3])
 simp only [Act.put,jab,pu1,pu2,pu3,pu4,pu5];obtain ⟨ho1,ho2,ho3⟩ := own_mk (r := r) (c := c) (B := W1.drew.heap.size) hx own2 hf2;have hlw := (e1.trans eD).size;refine jan (k := 4) (by kernel_rfl) ?_;refine wpOp_callv (f := 99) (cap := #[.pointer (some ⟨b9,0,none⟩)]) (args := #[.agg #[.int .i64 0,.int .i64 0,.int .i64 0,.float .f32 0,.int .i64 r,.int .i64 c,.slice q2 N k2]]) rfl rfl rfl (by simp [Act.eval]) (jcn Try.func99 rfl (by kernel_rfl)) (by simp [Act.eval]) (add_any B b9 b11 v ops css bss 0 0 0 r c 0 0 q2 N k2 (r,c,xs,()) (jaj q2) w W2 ((e1.trans eD).trans e2) M cn0 ho1 ho2 (fun b hb => by have := ho3 b hb;omega) hB hl) ?_;rintro e W3 ⟨rfl,v',cs',bs',M3,hbs,ch3⟩
 rw [← Hne.out]
 have hS3 := And.intro M3.fn (hS2.2.chg ch3 (fun h => by
  rcases h with h | h
  · omega
  · have := own_lt M.row.row _ h.symm;omega))
 refine ⟨_,rfl,hS3,?_⟩
 (try simp only [pv1,pv2,pv3])
 simp only [Act.put,jab,pu1,pu2,pu3,pu4,pu5];refine ja7 (k := 5) (by kernel_rfl) rfl ?_;go_wp2;go_ret;exact ⟨rfl,v',cs',bs',M3,⟨_,hbs,fun x hx' => by have := ho3 x hx';omega⟩,(Chg.of_ext ((e1.trans eD).trans e2)).trans ch3⟩
def headB (L : List jac.T) (r k : Int) (nx : Nat) (r2 k2 : Int) (ny : Nat) : Bool := modB L && (tenB r k nx && (tenB r2 k2 ny && (decide (r = r2) && (decide (k = inL L 0) && decide (k2 = outL L)))))
theorem modelTape_no (p q q2 : Option Addr) (n c nx cx ny cy : Nat) (r k r2 k2 : Int) (css : List (List Value)) (L : List jac.T) (w : World) (hL : Lays w p n css L) (hnx : nx ≤ maxLen) (hny : ny ≤ maxLen) (hh : headB L r k nx r2 k2 ny = false) :
 Calls Try.prog 58 #[.agg #[.slice p n c],.agg #[.int .i64 r,.int .i64 k,.slice q nx cx],.agg #[.int .i64 r2,.int .i64 k2,.slice q2 ny cy]] w fun e w' => e = .returned (.tuple #[.slice none 0 0,.slice none 0 0,.bool false]) ∧ Ext w w' := by
 have hLl := hL.len;obtain ⟨W0,hW0⟩ : ∃ W0,W0 = ((w.alloc (.cells #[.slice p n c] 38)).alloc (.cells #[.int .i64 r,.int .i64 k,.slice q nx cx] 27)).alloc (.cells #[.int .i64 r2,.int .i64 k2,.slice q2 ny cy] 27) := ⟨_,rfl⟩;obtain ⟨E0,s0,b0,b1,b2⟩ := box3 hW0;have b0 : HB W0 w.heap.size #[.slice p n c] 38 := b0;have b1 : HB W0 (w.heap.size + 1) #[.int .i64 r,.int .i64 k,.slice q nx cx] 27 := b1;have b2 : HB W0 (w.heap.size + 1 + 1) #[.int .i64 r2,.int .i64 k2,.slice q2 ny cy] 27 := b2;have A1 := hid (fun W (h : Ext W0 W) => ValidModel_any p n c L css W hLl hL.le (hL.cs.ext (E0.trans h)) (hL.all.imp fun _ _ => Rep.ext (E0.trans h)) hL.size hL.cnt);have A2 := hid (fun W => jbo r k q nx cx W hnx);have A3 := hid (fun W => jbo r2 k2 q2 ny cy W hny);have A4 := hid (fun W (h : Ext W0 W) h1 => in_any p n c css L W (hL.ext (E0.trans h)) h1);have A5 := hid (fun W (h : Ext W0 W) h1 => out_any p n c css L W (hL.ext (E0.trans h)) h1);have hpos : modB L = true → 1 ≤ n := fun h => by rw [← hLl];exact (modOk h).pos
 unfold headB at hh;generalize hb1 : modB L = vb1 at *;generalize hb2 : tenB r k nx = vb2 at *;generalize hb3 : tenB r2 k2 ny = vb3 at *;generalize hi : inL L 0 = I at *;generalize ho : outL L = O at *;clear hb1 hb2 hb3 hi ho hLl
 cases vb1
 · clear hh
   obtain ⟨F,hF⟩ : ∃ F : Option Tmp → World → Value → Prop,F = fun d _ u => match d with | some 22 => u = .bool false | some 26 => u = .bool vb2 | some 31 => u = .bool vb3 | some 45 => u = .int .i64 I | _ => u = .int .i64 O := ⟨_,rfl⟩
   have HF := hid hF;clear hF;go_enter Try.func58,Try.ntmps58;go_wp2;rw [← hW0];clear hW0;have eD := Ext.drew W0;have d0 := (b0.ext eD).cell 0 rfl;have d1 := (b1.ext eD).cell 0 rfl;have d2 := (b1.ext eD).cell 1 rfl;have d3 := (b1.ext eD).cell 2 rfl;have d4 := (b2.ext eD).cell 0 rfl;have d5 := (b2.ext eD).cell 1 rfl;have d6 := (b2.ext eD).cell 2 rfl;refine jae (F := F) (by kernel_rfl) (by kernel_rfl) (by kernel_rfl) ?_;intro wf hwf
   repeat (first
    | ((first | (refine ja8 rfl ?_) | (refine x_mv rfl rfl rfl ?_) | (refine x_as rfl rfl rfl ?_) | ((with_reducible show gx12);refine jap (f := 35) (args := #[.agg #[.slice p n c]]) rfl rfl Try.func35 rfl (by kernel_rfl) ?_ ?_ ?_;(focus (simp [Act.eval];done));(focus (intro w1 hw1;exact (by rw [HF.out];exact (A1.out w1 (eD.trans hw1)).mono fun e w3 h => ⟨_,h.1,h.2,rfl⟩)));rintro u w3 e3 e4 hu;simp only [HF.out] at hu;subst hu));simp only [Act.put,jab,pu1,pu2,pu3,pu4,pu5])
    | (refine jbw rfl fun K hK w1 hw1 => ?_;have k0 := hw1.cell (d0);have k1 := hw1.cell (d1);have k2 := hw1.cell (d2);have k3 := hw1.cell (d3);have k4 := hw1.cell (d4);have k5 := hw1.cell (d5);have k6 := hw1.cell (d6);go_simp;refine hK _ ?_;clear hK K k0 k1 k2 k3 k4 k5 k6 hw1 w1))
   refine jbu ?_;go_wp2;refine bodyPost_ret (results_tmp3 (t := 6) (u := 7) (v := 8) (by kernel_rfl) _ _ _) rfl ?_;exact ⟨rfl,(E0.trans eD).trans hwf⟩
 have h1n := hpos rfl;clear hpos
 cases vb2
 · clear hh
   obtain ⟨F,hF⟩ : ∃ F : Option Tmp → World → Value → Prop,F = fun d _ u => match d with | some 22 => u = .bool true | some 26 => u = .bool false | some 31 => u = .bool vb3 | some 45 => u = .int .i64 I | _ => u = .int .i64 O := ⟨_,rfl⟩
   have HF := hid hF;clear hF;go_enter Try.func58,Try.ntmps58;go_wp2;rw [← hW0];clear hW0;have eD := Ext.drew W0;have d0 := (b0.ext eD).cell 0 rfl;have d1 := (b1.ext eD).cell 0 rfl;have d2 := (b1.ext eD).cell 1 rfl;have d3 := (b1.ext eD).cell 2 rfl;have d4 := (b2.ext eD).cell 0 rfl;have d5 := (b2.ext eD).cell 1 rfl;have d6 := (b2.ext eD).cell 2 rfl;refine jae (F := F) (by kernel_rfl) (by kernel_rfl) (by kernel_rfl) ?_;intro wf hwf
   repeat (first
    | ((first | (refine ja8 rfl ?_) | (refine x_mv rfl rfl rfl ?_) | (refine x_as rfl rfl rfl ?_) | ((with_reducible show gx12);first | (refine jap (f := 35) (args := #[.agg #[.slice p n c]]) rfl rfl Try.func35 rfl (by kernel_rfl) ?_ ?_ ?_;(focus (simp [Act.eval];done));(focus (intro w1 hw1;exact (by rw [HF.out];exact (A1.out w1 (eD.trans hw1)).mono fun e w3 h => ⟨_,h.1,h.2,rfl⟩)));rintro u w3 e3 e4 hu;simp only [HF.out] at hu;subst hu) | (refine jap (f := 69) (args := #[.agg #[.int .i64 r,.int .i64 k,.slice q nx cx]]) rfl rfl Try.func69 rfl (by kernel_rfl) ?_ ?_ ?_;(focus (simp [Act.eval];done));(focus (intro w1 hw1;exact (by rw [HF.out];exact (A2.out w1).mono fun e w3 h => ⟨_,h.1,h.2,rfl⟩)));rintro u w3 e3 e4 hu;simp only [HF.out] at hu;subst hu) | (refine jap (f := 69) (args := #[.agg #[.int .i64 r2,.int .i64 k2,.slice q2 ny cy]]) rfl rfl Try.func69 rfl (by kernel_rfl) ?_ ?_ ?_;(focus (simp [Act.eval];done));(focus (intro w1 hw1;exact (by rw [HF.out];exact (A3.out w1).mono fun e w3 h => ⟨_,h.1,h.2,rfl⟩)));rintro u w3 e3 e4 hu;simp only [HF.out] at hu;subst hu)));simp only [Act.put,jab,pu1,pu2,pu3,pu4,pu5])
    | (refine jbw rfl fun K hK w1 hw1 => ?_;have k0 := hw1.cell (d0);have k1 := hw1.cell (d1);have k2 := hw1.cell (d2);have k3 := hw1.cell (d3);have k4 := hw1.cell (d4);have k5 := hw1.cell (d5);have k6 := hw1.cell (d6);go_simp;refine hK _ ?_;clear hK K k0 k1 k2 k3 k4 k5 k6 hw1 w1))
   refine jbu ?_;go_wp2;refine bodyPost_ret (results_tmp3 (t := 6) (u := 7) (v := 8) (by kernel_rfl) _ _ _) rfl ?_;exact ⟨rfl,(E0.trans eD).trans hwf⟩
 cases vb3
 · clear hh
   obtain ⟨F,hF⟩ : ∃ F : Option Tmp → World → Value → Prop,F = fun d _ u => match d with | some 22 => u = .bool true | some 26 => u = .bool true | some 31 => u = .bool false | some 45 => u = .int .i64 I | _ => u = .int .i64 O := ⟨_,rfl⟩
   have HF := hid hF;clear hF;go_enter Try.func58,Try.ntmps58;go_wp2;rw [← hW0];clear hW0;have eD := Ext.drew W0;have d0 := (b0.ext eD).cell 0 rfl;have d1 := (b1.ext eD).cell 0 rfl;have d2 := (b1.ext eD).cell 1 rfl;have d3 := (b1.ext eD).cell 2 rfl;have d4 := (b2.ext eD).cell 0 rfl;have d5 := (b2.ext eD).cell 1 rfl;have d6 := (b2.ext eD).cell 2 rfl;refine jae (F := F) (by kernel_rfl) (by kernel_rfl) (by kernel_rfl) ?_;intro wf hwf
   repeat (first
    | ((first | (refine ja8 rfl ?_) | (refine x_mv rfl rfl rfl ?_) | (refine x_as rfl rfl rfl ?_) | ((with_reducible show gx12);first | (refine jap (f := 35) (args := #[.agg #[.slice p n c]]) rfl rfl Try.func35 rfl (by kernel_rfl) ?_ ?_ ?_;(focus (simp [Act.eval];done));(focus (intro w1 hw1;exact (by rw [HF.out];exact (A1.out w1 (eD.trans hw1)).mono fun e w3 h => ⟨_,h.1,h.2,rfl⟩)));rintro u w3 e3 e4 hu;simp only [HF.out] at hu;subst hu) | (refine jap (f := 69) (args := #[.agg #[.int .i64 r,.int .i64 k,.slice q nx cx]]) rfl rfl Try.func69 rfl (by kernel_rfl) ?_ ?_ ?_;(focus (simp [Act.eval];done));(focus (intro w1 hw1;exact (by rw [HF.out];exact (A2.out w1).mono fun e w3 h => ⟨_,h.1,h.2,rfl⟩)));rintro u w3 e3 e4 hu;simp only [HF.out] at hu;subst hu) | (refine jap (f := 69) (args := #[.agg #[.int .i64 r2,.int .i64 k2,.slice q2 ny cy]]) rfl rfl Try.func69 rfl (by kernel_rfl) ?_ ?_ ?_;(focus (simp [Act.eval];done));(focus (intro w1 hw1;exact (by rw [HF.out];exact (A3.out w1).mono fun e w3 h => ⟨_,h.1,h.2,rfl⟩)));rintro u w3 e3 e4 hu;simp only [HF.out] at hu;subst hu)));simp only [Act.put,jab,pu1,pu2,pu3,pu4,pu5])
    | (refine jbw rfl fun K hK w1 hw1 => ?_;have k0 := hw1.cell (d0);have k1 := hw1.cell (d1);have k2 := hw1.cell (d2);have k3 := hw1.cell (d3);have k4 := hw1.cell (d4);have k5 := hw1.cell (d5);have k6 := hw1.cell (d6);go_simp;refine hK _ ?_;clear hK K k0 k1 k2 k3 k4 k5 k6 hw1 w1))
   refine jbu ?_;go_wp2;refine bodyPost_ret (results_tmp3 (t := 6) (u := 7) (v := 8) (by kernel_rfl) _ _ _) rfl ?_;exact ⟨rfl,(E0.trans eD).trans hwf⟩
 by_cases h4 : r = r2
 · have e4 : (r != r2) = false := by simp [h4]
   by_cases h5 : k = I
   · have e5 : (k != I) = false := by simp [h5]
     by_cases h6 : k2 = O
     · exfalso;subst h4 h5 h6;simp at hh
     · have e6 : (k2 != O) = true := by simpa using h6
       have H4 := hid h4;have H5 := hid h5;have H6 := hid h6;clear hh h4 h5 h6;obtain ⟨F,hF⟩ : ∃ F : Option Tmp → World → Value → Prop,F = fun d _ u => match d with | some 22 => u = .bool true | some 26 => u = .bool true | some 31 => u = .bool true | some 45 => u = .int .i64 I | _ => u = .int .i64 O := ⟨_,rfl⟩
       have HF := hid hF;clear hF;go_enter Try.func58,Try.ntmps58;go_wp2;rw [← hW0];clear hW0;have eD := Ext.drew W0;have d0 := (b0.ext eD).cell 0 rfl;have d1 := (b1.ext eD).cell 0 rfl;have d2 := (b1.ext eD).cell 1 rfl;have d3 := (b1.ext eD).cell 2 rfl;have d4 := (b2.ext eD).cell 0 rfl;have d5 := (b2.ext eD).cell 1 rfl;have d6 := (b2.ext eD).cell 2 rfl;refine jae (F := F) (by kernel_rfl) (by kernel_rfl) (by kernel_rfl) ?_;intro wf hwf
       repeat (first
        | ((first | (refine ja8 rfl ?_) | (refine x_mv rfl rfl rfl ?_) | (refine x_as rfl rfl rfl ?_) | ((with_reducible show gx12);first | (refine jap (f := 35) (args := #[.agg #[.slice p n c]]) rfl rfl Try.func35 rfl (by kernel_rfl) ?_ ?_ ?_;(focus (simp [Act.eval];done));(focus (intro w1 hw1;exact (by rw [HF.out];exact (A1.out w1 (eD.trans hw1)).mono fun e w3 h => ⟨_,h.1,h.2,rfl⟩)));rintro u w3 e3 e4 hu;simp only [HF.out] at hu;subst hu) | (refine jap (f := 69) (args := #[.agg #[.int .i64 r,.int .i64 k,.slice q nx cx]]) rfl rfl Try.func69 rfl (by kernel_rfl) ?_ ?_ ?_;(focus (simp [Act.eval];done));(focus (intro w1 hw1;exact (by rw [HF.out];exact (A2.out w1).mono fun e w3 h => ⟨_,h.1,h.2,rfl⟩)));rintro u w3 e3 e4 hu;simp only [HF.out] at hu;subst hu) | (refine jap (f := 69) (args := #[.agg #[.int .i64 r2,.int .i64 k2,.slice q2 ny cy]]) rfl rfl Try.func69 rfl (by kernel_rfl) ?_ ?_ ?_;(focus (simp [Act.eval];done));(focus (intro w1 hw1;exact (by rw [HF.out];exact (A3.out w1).mono fun e w3 h => ⟨_,h.1,h.2,rfl⟩)));rintro u w3 e3 e4 hu;simp only [HF.out] at hu;subst hu) | (refine jap (f := 70) (args := #[.agg #[.slice p n c]]) rfl rfl Try.func70 rfl (by kernel_rfl) ?_ ?_ ?_;(focus (simp [Act.eval];done));(focus (intro w1 hw1;exact (by rw [HF.out];exact (A4.out w1 (eD.trans hw1) h1n).mono fun e w3 h => ⟨_,h.1,h.2,rfl⟩)));rintro u w3 e3 e4 hu;simp only [HF.out] at hu;subst hu) | (refine jap (f := 98) (args := #[.agg #[.slice p n c]]) rfl rfl Try.func98 rfl (by kernel_rfl) ?_ ?_ ?_;(focus (simp [Act.eval];done));(focus (intro w1 hw1;exact (by rw [HF.out];exact (A5.out w1 (eD.trans hw1) h1n).mono fun e w3 h => ⟨_,h.1,h.2,rfl⟩)));rintro u w3 e3 e4 hu;simp only [HF.out] at hu;subst hu)));simp only [Act.put,jab,pu1,pu2,pu3,pu4,pu5])
        | (refine jbw rfl fun K hK w1 hw1 => ?_;have k0 := hw1.cell (d0);have k1 := hw1.cell (d1);have k2 := hw1.cell (d2);have k3 := hw1.cell (d3);have k4 := hw1.cell (d4);have k5 := hw1.cell (d5);have k6 := hw1.cell (d6);go_simp;refine hK _ ?_;clear hK K k0 k1 k2 k3 k4 k5 k6 hw1 w1))
       refine jbu ?_;go_wp2;refine bodyPost_ret (results_tmp3 (t := 6) (u := 7) (v := 8) (by kernel_rfl) _ _ _) rfl ?_;exact ⟨rfl,(E0.trans eD).trans hwf⟩
   · have e5 : (k != I) = true := by simpa using h5
     have H4 := hid h4;have H5 := hid h5;clear hh h4 h5;obtain ⟨F,hF⟩ : ∃ F : Option Tmp → World → Value → Prop,F = fun d _ u => match d with | some 22 => u = .bool true | some 26 => u = .bool true | some 31 => u = .bool true | some 45 => u = .int .i64 I | _ => u = .int .i64 O := ⟨_,rfl⟩
     have HF := hid hF;clear hF;go_enter Try.func58,Try.ntmps58;go_wp2;rw [← hW0];clear hW0;have eD := Ext.drew W0;have d0 := (b0.ext eD).cell 0 rfl;have d1 := (b1.ext eD).cell 0 rfl;have d2 := (b1.ext eD).cell 1 rfl;have d3 := (b1.ext eD).cell 2 rfl;have d4 := (b2.ext eD).cell 0 rfl;have d5 := (b2.ext eD).cell 1 rfl;have d6 := (b2.ext eD).cell 2 rfl;refine jae (F := F) (by kernel_rfl) (by kernel_rfl) (by kernel_rfl) ?_;intro wf hwf
     repeat (first
      | ((first | (refine ja8 rfl ?_) | (refine x_mv rfl rfl rfl ?_) | (refine x_as rfl rfl rfl ?_) | ((with_reducible show gx12);first | (refine jap (f := 35) (args := #[.agg #[.slice p n c]]) rfl rfl Try.func35 rfl (by kernel_rfl) ?_ ?_ ?_;(focus (simp [Act.eval];done));(focus (intro w1 hw1;exact (by rw [HF.out];exact (A1.out w1 (eD.trans hw1)).mono fun e w3 h => ⟨_,h.1,h.2,rfl⟩)));rintro u w3 e3 e4 hu;simp only [HF.out] at hu;subst hu) | (refine jap (f := 69) (args := #[.agg #[.int .i64 r,.int .i64 k,.slice q nx cx]]) rfl rfl Try.func69 rfl (by kernel_rfl) ?_ ?_ ?_;(focus (simp [Act.eval];done));(focus (intro w1 hw1;exact (by rw [HF.out];exact (A2.out w1).mono fun e w3 h => ⟨_,h.1,h.2,rfl⟩)));rintro u w3 e3 e4 hu;simp only [HF.out] at hu;subst hu) | (refine jap (f := 69) (args := #[.agg #[.int .i64 r2,.int .i64 k2,.slice q2 ny cy]]) rfl rfl Try.func69 rfl (by kernel_rfl) ?_ ?_ ?_;(focus (simp [Act.eval];done));(focus (intro w1 hw1;exact (by rw [HF.out];exact (A3.out w1).mono fun e w3 h => ⟨_,h.1,h.2,rfl⟩)));rintro u w3 e3 e4 hu;simp only [HF.out] at hu;subst hu) | (refine jap (f := 70) (args := #[.agg #[.slice p n c]]) rfl rfl Try.func70 rfl (by kernel_rfl) ?_ ?_ ?_;(focus (simp [Act.eval];done));(focus (intro w1 hw1;exact (by rw [HF.out];exact (A4.out w1 (eD.trans hw1) h1n).mono fun e w3 h => ⟨_,h.1,h.2,rfl⟩)));rintro u w3 e3 e4 hu;simp only [HF.out] at hu;subst hu)));simp only [Act.put,jab,pu1,pu2,pu3,pu4,pu5])
      | (refine jbw rfl fun K hK w1 hw1 => ?_;have k0 := hw1.cell (d0);have k1 := hw1.cell (d1);have k2 := hw1.cell (d2);have k3 := hw1.cell (d3);have k4 := hw1.cell (d4);have k5 := hw1.cell (d5);have k6 := hw1.cell (d6);go_simp;refine hK _ ?_;clear hK K k0 k1 k2 k3 k4 k5 k6 hw1 w1))
     refine jbu ?_;go_wp2;refine bodyPost_ret (results_tmp3 (t := 6) (u := 7) (v := 8) (by kernel_rfl) _ _ _) rfl ?_;exact ⟨rfl,(E0.trans eD).trans hwf⟩
 · have e4 : (r != r2) = true := by simpa using h4
   have H4 := hid h4;clear hh h4;obtain ⟨F,hF⟩ : ∃ F : Option Tmp → World → Value → Prop,F = fun d _ u => match d with | some 22 => u = .bool true | some 26 => u = .bool true | some 31 => u = .bool true | some 45 => u = .int .i64 I | _ => u = .int .i64 O := ⟨_,rfl⟩
   have HF := hid hF;clear hF;go_enter Try.func58,Try.ntmps58;go_wp2;rw [← hW0];clear hW0;have eD := Ext.drew W0;have d0 := (b0.ext eD).cell 0 rfl;have d1 := (b1.ext eD).cell 0 rfl;have d2 := (b1.ext eD).cell 1 rfl;have d3 := (b1.ext eD).cell 2 rfl;have d4 := (b2.ext eD).cell 0 rfl;have d5 := (b2.ext eD).cell 1 rfl;have d6 := (b2.ext eD).cell 2 rfl;refine jae (F := F) (by kernel_rfl) (by kernel_rfl) (by kernel_rfl) ?_;intro wf hwf
   repeat (first
    | ((first | (refine ja8 rfl ?_) | (refine x_mv rfl rfl rfl ?_) | (refine x_as rfl rfl rfl ?_) | ((with_reducible show gx12);first | (refine jap (f := 35) (args := #[.agg #[.slice p n c]]) rfl rfl Try.func35 rfl (by kernel_rfl) ?_ ?_ ?_;(focus (simp [Act.eval];done));(focus (intro w1 hw1;exact (by rw [HF.out];exact (A1.out w1 (eD.trans hw1)).mono fun e w3 h => ⟨_,h.1,h.2,rfl⟩)));rintro u w3 e3 e4 hu;simp only [HF.out] at hu;subst hu) | (refine jap (f := 69) (args := #[.agg #[.int .i64 r,.int .i64 k,.slice q nx cx]]) rfl rfl Try.func69 rfl (by kernel_rfl) ?_ ?_ ?_;(focus (simp [Act.eval];done));(focus (intro w1 hw1;exact (by rw [HF.out];exact (A2.out w1).mono fun e w3 h => ⟨_,h.1,h.2,rfl⟩)));rintro u w3 e3 e4 hu;simp only [HF.out] at hu;subst hu) | (refine jap (f := 69) (args := #[.agg #[.int .i64 r2,.int .i64 k2,.slice q2 ny cy]]) rfl rfl Try.func69 rfl (by kernel_rfl) ?_ ?_ ?_;(focus (simp [Act.eval];done));(focus (intro w1 hw1;exact (by rw [HF.out];exact (A3.out w1).mono fun e w3 h => ⟨_,h.1,h.2,rfl⟩)));rintro u w3 e3 e4 hu;simp only [HF.out] at hu;subst hu)));simp only [Act.put,jab,pu1,pu2,pu3,pu4,pu5])
    | (refine jbw rfl fun K hK w1 hw1 => ?_;have k0 := hw1.cell (d0);have k1 := hw1.cell (d1);have k2 := hw1.cell (d2);have k3 := hw1.cell (d3);have k4 := hw1.cell (d4);have k5 := hw1.cell (d5);have k6 := hw1.cell (d6);go_simp;refine hK _ ?_;clear hK K k0 k1 k2 k3 k4 k5 k6 hw1 w1))
   refine jbu ?_;go_wp2;refine bodyPost_ret (results_tmp3 (t := 6) (u := 7) (v := 8) (by kernel_rfl) _ _ _) rfl ?_;exact ⟨rfl,(E0.trans eD).trans hwf⟩
theorem own_ne2 {w : World} {B B' e e' s s' n n' : Nat} {v v' : Value} {vs vs' : List Value} (h : w.ownsRow B e s v n vs) (k : w.ownsRow B' e' s' v' n' vs') (ht : e ≠ e') : ∀ b,v.ownBlock = some b → v'.ownBlock ≠ some b := by
 intro b h1 h2;rcases h.2 with ⟨rfl,_⟩ | ⟨g,cap,cur,rfl,_,hh,_⟩
 · cases h1
 · rcases k.2 with ⟨rfl,_⟩ | ⟨g',cap',cur',rfl,_,hh',_⟩
   · cases h2
   · simp [Value.ownBlock] at h1 h2
     subst h1;subst h2;rw [hh] at hh';simp only [Option.some.injEq,Obj.cells.injEq] at hh';exact ht hh'.2.1
structure MtF (w : World) (B b9 b11 fa : Nat) (v wv : Value) (s : List shOp.T × List Int) (css : List (List Value)) (bss : List (List Nat)) : Prop where
 st : MtSt w B b9 b11 fa v s.1 css bss
 wr : w.ownsRow B 2 1 wv s.2.length (s.2.map (Value.int .i64))
 nw : ∀ b ∈ bss.flatten,wv.ownBlock ≠ some b
theorem MtF.ext {w w' : World} {B b9 b11 fa : Nat} {v wv : Value} {s : List shOp.T × List Int} {css : List (List Value)} {bss : List (List Nat)} (h : MtF w B b9 b11 fa v wv s css bss) (e : Ext w w') : MtF w' B b9 b11 fa v wv s css bss :=
 ⟨h.st.ext e,jah h.wr e,h.nw⟩
def Added (B b9 b11 fa : Nat) (v wv : Value) (s : List shOp.T × List Int) (d : shOp.T) (w : World) (e : Ending) (w' : World) : Prop :=
 e = .returned (.int .i64 (s.1.length : Nat)) ∧ ∃ v' css' bss',MtF w' B b9 b11 fa v' wv (s.1 ++ [d],s.2) css' bss' ∧ Chg (fun x => x = b9 ∨ some x = v.ownBlock) w w'
theorem addF_any (B b9 b11 : Nat) (v wv : Value) (s : List shOp.T × List Int) (css : List (List Value)) (bss : List (List Nat)) (k a b : Int) (zb z : Nat) (w : World) (M : MtF w B b9 b11 99 v wv s css bss) (hz : cn .f32 zb = z) (hB : B ≤ w.heap.size) (hl : s.1.length ≤ 60) :
 Calls Try.prog 99 #[.agg #[.int .i64 k,.int .i64 a,.int .i64 b,.float .f32 zb,.int .i64 0,.int .i64 0,.slice none 0 0],.pointer (some ⟨b9,0,none⟩)] w (Added B b9 b11 99 v wv s (k,a,b,z,t0,()) w) := by
 refine (add_any B b9 b11 v s.1 css bss k a b 0 0 zb z none 0 0 t0 [] w w (Ext.refl _) M.st hz own_t0 List.nodup_nil (fun b hb => by simp at hb) hB hl).mono ?_;rintro e w' ⟨rfl,v',css',bss',M',rfl,ch⟩
 refine ⟨rfl,v',css',_,⟨M',ja0 M.wr ch (fun x hx h => ?_),fun x hx => M.nw x (by simpa using hx)⟩,ch⟩
 · rcases h with h | h
   · exact ja5 M.wr M.st.box (by decide) x hx h
   · exact own_ne2 M.wr M.st.row.row (by decide) x hx h.symm
theorem inputF_any (B b9 b11 : Nat) (v wv : Value) (s : List shOp.T × List Int) (css : List (List Value)) (bss : List (List Nat)) (r c : Int) (q : Option Addr) (N k : Nat) (us : List Value) (xs : List Nat) (w : World) (M : MtF w B b9 b11 99 v wv s css bss) (hB : B ≤ w.heap.size) (hl : s.1.length ≤ 60) (hx : xs.length = N) (hN : N ≤ 1048576) (hk : N ≤ k) (hq : Cs w q us) (hf : F32s us xs) :
 Calls Try.prog 100 #[.agg #[.int .i64 r,.int .i64 c,.slice q N k],.pointer (some ⟨b11,0,none⟩)] w (Added B b9 b11 99 v wv s (0,0,0,0,(r,c,xs,()),()) w) := by
 refine (input_any B b9 b11 v s.1 css bss r c q N k us xs w M.st hB hl hx hN hk hq hf).mono ?_;rintro e w' ⟨rfl,v',css',bss',M',⟨ob,rfl,hob⟩,ch⟩
 refine ⟨rfl,v',css',_,⟨M',ja0 M.wr ch (fun x hx h => ?_),fun x hx => ?_⟩,ch⟩
 · rcases h with h | h
   · exact ja5 M.wr M.st.box (by decide) x hx h
   · exact own_ne2 M.wr M.st.row.row (by decide) x hx h.symm
 · rw [List.flatten_append,List.flatten_cons,List.flatten_nil,List.append_nil,List.mem_append] at hx
   rcases hx with h | h
   · exact M.nw x h
   · intro h2;have := own_lt M.wr x h2;have := hob x h;omega
theorem MtF.grow {w w' : World} {B b9 b11 fa : Nat} {v wv wv' : Value} {s : List shOp.T × List Int} {ws : List Int} {css : List (List Value)} {bss : List (List Nat)} (M : MtF w B b9 b11 fa v wv s css bss) (hr : w'.ownsRow B 2 1 wv' ws.length (ws.map (Value.int .i64))) (hg : w.grownBy w' wv.ownBlock) (hb : ∀ x,wv'.ownBlock = some x → wv.ownBlock = some x ∨ w.heap.size ≤ x) : MtF w' B b9 b11 fa v wv' (s.1,ws) css bss := by
 have ch := Chg.of_grown hg;have h1 := M.st.row;refine ⟨⟨M.st.box.chg ch (fun h => ja5 M.wr M.st.box (by decide) _ h.symm rfl),M.st.fn.chg ch (fun h => ja5 M.wr M.st.fn (by decide) _ h.symm rfl),⟨ja0 h1.row ch (fun x hx h => own_ne2 h1.row M.wr (by decide) x hx h.symm),h1.els.chg ch (fun x hx h => M.nw x hx h.symm),h1.nodup,h1.lo⟩,M.st.ne,M.st.ne2⟩,hr,fun x hx h => ?_⟩;rcases hb x h with h2 | h2
 · exact M.nw x hx h2
 · have := h1.els.lt x hx;omega
def off (L : List jac.T) (j : Nat) : Nat := (parF (L.take j)).length
theorem small_of {L : List jac.T} (h : ModOk L) : Small L := by
 refine ⟨by have := h.few;omega,fun d hd => ?_⟩;obtain ⟨i,hi,rfl⟩ := List.mem_iff_getElem.1 hd;have hl := h.lay i hi;unfold layD layB at hl;simp only [Bool.and_eq_true,decide_eq_true_eq,jar,Bool.or_eq_true] at hl;obtain ⟨h1,h2,h3,h4,h5,h6⟩ := hl;have hm := mul_bd h2 h3;unfold wCnt at h5;unfold bCnt at h6;refine ⟨?_,?_⟩
 · split at h5
   · omega
   · split at h5
     · omega
     · split at h5 <;> omega
 · split at h6
   · omega
   · split at h6
     · omega
     · split at h6 <;> omega
end Go.Proofs.Ytmbckkcgiafagaa
namespace Go.Proofs.Ytmbckkcgiafagaa.lSplitModel
open Go.RowKit
def okS (d : shModel.T) (a : Int) : Prop := modB d.1 = true ∧ inB a 1 ((d.1.length : Int) - 1) = true
instance (d : shModel.T) (a : Int) : Decidable (okS d a) := by unfold okS;infer_instance
end Go.Proofs.Ytmbckkcgiafagaa.lSplitModel
