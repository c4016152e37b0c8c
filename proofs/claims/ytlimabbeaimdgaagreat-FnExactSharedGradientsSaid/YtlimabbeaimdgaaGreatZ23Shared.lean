/- A part of the proofs: Spl, TnTb. -/
import Derived.Test.YtlimabbeaimdgaaGreatZ22Shared
import Derived.Test.YtlimabbeaimdgaaGreatZ19Shared
set_option linter.unusedSimpArgs false
set_option linter.unusedVariables false
set_option maxRecDepth 100000
set_option maxHeartbeats 16000000
namespace Go.Proofs.YtlimabbeaimdgaaGreat
open Go.RowKit
theorem small_of {L : List jac.T} (h : ModOk L) : Small L := by
 refine ⟨by have := h.few;omega,fun d hd => ?_⟩;obtain ⟨i,hi,rfl⟩ := List.mem_iff_getElem.1 hd;have hl := h.lay i hi;unfold layD layB at hl;simp only [Bool.and_eq_true,decide_eq_true_eq,jbc,Bool.or_eq_true] at hl;obtain ⟨h1,h2,h3,h4,h5,h6⟩ := hl;have hm := mul_bd h2 h3;unfold wCnt at h5;unfold bCnt at h6;refine ⟨?_,?_⟩
 · split at h5
   · omega
   · split at h5
     · omega
     · split at h5 <;> omega
 · split at h6
   · omega
   · split at h6
     · omega
     · split at h6 <;> omega
end Go.Proofs.YtlimabbeaimdgaaGreat
namespace Go.Proofs.YtlimabbeaimdgaaGreat.lSplitModel
open Go.RowKit
def okS (d : jap.T) (a : Int) : Prop := modB d.1 = true ∧ inB a 1 ((d.1.length : Int) - 1) = true
instance (d : jap.T) (a : Int) : Decidable (okS d a) := by unfold okS;infer_instance
def res (d : jap.T) (a : Int) : jap.T × jap.T × Bool := if okS d a then ((d.1.take a.toNat,()),(d.1.drop a.toNat,()),true) else (([],()),([],()),false)
theorem tot_app {e : Sh} (l m : List e.T) : tot (.sl e) (l ++ m) = tot (.sl e) l + tot (.sl e) m := by
 simp only [tot,List.length_append,List.map_append,List.sum_append];omega
theorem res_bd (d : jap.T) (a : Int) (h : tot jap d ≤ 1048576) (_ : Fit jap d) (_ : Fit .int a) : tot jap (res d a).1 ≤ 1048576 := by
 unfold res
 split
 · have h2 : tot jap d = tot (.sl jac) d.1 + 0 := rfl
   have h3 : tot jap (d.1.take a.toNat,()) = tot (.sl jac) (d.1.take a.toNat) + 0 := rfl;have h4 := tot_app (e := jac) (d.1.take a.toNat) (d.1.drop a.toNat);rw [List.take_append_drop] at h4;show tot jap (d.1.take a.toNat,()) ≤ _;omega
 · simp [tot]
end Go.Proofs.YtlimabbeaimdgaaGreat.lSplitModel
namespace Go.Proofs.YtlimabbeaimdgaaGreat
open Go.RowKit
section
variable {P : Program} {w : World} {ops : Array Oper} {rest : List Oper} {o : Oper} {a : Act} {Q : Exit → Act → World → Prop}
theorem wl_appW {t e s b : Nat} {z : Value} [T : SlTy P t e s z b] {x1 x2 : Operand} {v : Value} {B n m c : Nat} {vs us : List Value} {ad : Addr}
 (hg : o.guard = none) (ho : o.op = .call { callee := .builtin .append,args := #[x1,x2],argTypes := #[t,t] })
 (hx1 : a.eval x1 = v) (hx2 : a.eval x2 = .slice (some ad) m c) (how : w.ownsRow B e s v n vs) (hc : Cs w (some ad) us) (hm : us.length = m * s) (h1 : ∀ u ∈ us,u.oneCell' = true)
 (hn : n + m ≤ maxLen) (hb : (n + m) * b ≤ 140737488355328) (hB : B ≤ w.heap.size)
 (h : ∀ v' w',w'.ownsRow B e s v' (n + m) (vs ++ us) → w.grownBy w' v.ownBlock → (∀ x,v'.ownBlock = some x → v.ownBlock = some x ∨ w.heap.size ≤ x) → wpList P ops Q rest (a.put o.dst v') w') : wpList P ops Q (o :: rest) a w := by
 obtain ⟨ti,hi,hzz⟩ := Option.map_eq_some_iff.1 T.inf;simp only [Prod.mk.injEq] at hzz;refine wpList_append_own_at _ hg x1 x2 t ho B e ti z s b T.und hi hzz.1 hzz.2.1 hzz.2.2 T.zs T.pos v n vs hx1 how ad m c us hx2 hm (fun j u hj => hc.cell j u hj) h1 hn hb hB (fun v' w' h1 h2 _ h4 => h v' w' h1 h2 fun x hx => ?_);rcases h4 with h4 | h4
 · left;rw [← h4];exact hx
 · rw [hx] at h4;right;cases h4;exact Nat.le_refl _
end
def tapeB (L : List jac.T) : Bool := L.all fun l => decide (l.1 = 0 ∨ l.1 = 1 ∨ l.1 = 2)
theorem tapeB_no {L : List jac.T} {i : Nat} {d : jac.T} (h : L[i]? = some d) (k : ¬ (d.1 = 0 ∨ d.1 = 1 ∨ d.1 = 2)) : tapeB L = false := by
 cases hb : tapeB L with
 | false => rfl
 | true => exact absurd (by simpa using List.all_eq_true.1 hb d (List.mem_of_getElem? h)) k
theorem tapeB_step {L : List jac.T} {i : Nat} {d : jac.T} (h : L[i]? = some d) (k : d.1 = 0 ∨ d.1 = 1 ∨ d.1 = 2) (ht : tapeB (L.take i) = true) : tapeB (L.take (i + 1)) = true := by
 unfold tapeB at ht ⊢;rw [List.take_add_one,h,List.all_append,ht]
 simpa using k
def MtOut (w : World) (L : List jac.T) (x y : jaa.T) (z : Nat) (e : Ending) (w' : World) : Prop :=
 (tapeB L = false ∧ e = .returned (.tuple #[.slice none 0 0,.slice none 0 0,.bool false])) ∨ (tapeB L = true ∧ ∃ v wv css bss,e = .returned (.tuple #[v,wv,.bool true]) ∧ jax w' w.heap.size 79 shOp v (jcv L x y z) css bss ∧ w'.ownsRow w.heap.size 2 1 wv (jch L x y).length ((jch L x y).map (Value.int .i64)))
theorem mt_start {wf V4 : World} (B fa : Nat) (hB : B ≤ wf.heap.size) (hV : V4 = (((wf.alloc (.cells #[] 79)).alloc (.cells #[.slice (some ⟨wf.heap.size,0,none⟩) 0 0] 70)).alloc (.cells #[] 2)).alloc (.cells #[.nilFunc] 105)) :
 Ext wf V4 ∧ HB V4 (wf.heap.size + 1 + 1 + 1) #[.nilFunc] 105 ∧ ∀ w5,HB w5 (wf.heap.size + 1 + 1 + 1) #[.func (.func fa) #[] #[.pointer (some ⟨wf.heap.size + 1,0,none⟩)]] 105 → Chg (fun k => k = wf.heap.size + 1 + 1 + 1) V4 w5 →
  MtF w5 B (wf.heap.size + 1) (wf.heap.size + 1 + 1 + 1) fa (.slice (some ⟨wf.heap.size,0,none⟩) 0 0) (.slice (some ⟨wf.heap.size + 1 + 1,0,none⟩) 0 0) ([],[]) [] [] := by
 obtain ⟨V1,h1⟩ : ∃ V1,V1 = wf.alloc (.cells #[] 79) := ⟨_,rfl⟩;obtain ⟨V2,h2⟩ : ∃ V2,V2 = V1.alloc (.cells #[.slice (some ⟨wf.heap.size,0,none⟩) 0 0] 70) := ⟨_,rfl⟩;obtain ⟨V3,h3⟩ : ∃ V3,V3 = V2.alloc (.cells #[] 2) := ⟨_,rfl⟩;rw [← h1,← h2,← h3] at hV;have s1 : V1.heap.size = wf.heap.size + 1 := by rw [h1];simp
 have s2 : V2.heap.size = wf.heap.size + 1 + 1 := by rw [h2,← s1];simp
 have s3 : V3.heap.size = wf.heap.size + 1 + 1 + 1 := by rw [h3,← s2];simp
 have e1 : Ext wf V1 := by rw [h1];exact Ext.alloc _ _
 have e2 : Ext V1 V2 := by rw [h2];exact Ext.alloc _ _
 have e3 : Ext V2 V3 := by rw [h3];exact Ext.alloc _ _
 have e4 : Ext V3 V4 := by rw [hV];exact Ext.alloc _ _
 have r1 : V1.ownsRow B 79 shOp.sz (.slice (some ⟨wf.heap.size,0,none⟩) 0 0) 0 [] := by rw [h1];exact jao (World.ownsRow_made wf #[] 0 (Nat.le_refl _) (by decide) rfl) hB
 have b2 : HB V2 (wf.heap.size + 1) #[.slice (some ⟨wf.heap.size,0,none⟩) 0 0] 70 := by rw [h2,← s1];exact HB.new _ _ _
 have r3 : V3.ownsRow B 2 1 (.slice (some ⟨wf.heap.size + 1 + 1,0,none⟩) 0 0) 0 [] := by rw [h3,← s2];exact jao (World.ownsRow_made V2 #[] 0 (Nat.le_refl _) (by decide) rfl) (by omega)
 have b4 : HB V4 (wf.heap.size + 1 + 1 + 1) #[.nilFunc] 105 := by rw [hV,← s3];exact HB.new _ _ _
 refine ⟨((e1.trans e2).trans e3).trans e4,b4,fun w5 b5 ch => ⟨⟨?_,b5,?_,by simp,by omega⟩,?_,by simp⟩⟩
 · exact ((b2.ext e3).ext e4).chg ch (by omega)
 · exact jax.empty (jal (jai r1 ((e2.trans e3).trans e4)) ch (fun x hx h => by simp [Value.ownBlock] at hx;omega))
 · exact jal (jai r3 e4) ch (fun x hx h => by simp [Value.ownBlock] at hx;omega)
theorem MtF.extOf {w0 w : World} {B b9 b11 fa : Nat} {v wv : Value} {s : List shOp.T × List Int} {css : List (List Value)} {bss : List (List Nat)} (M : MtF w B b9 b11 fa v wv s css bss) (he : Ext w0 w) (hB : w0.heap.size ≤ B) (h9 : w0.heap.size ≤ b9) {w' : World} (ch : Chg (fun x => x = b9 ∨ some x = v.ownBlock) w w') : Ext w0 w' :=
 he.chg ch fun b hb => by
  rcases hb with h | h
  · omega
  · have := jar M.st.row.row b h.symm;omega
theorem MtF.hbOf {w w' : World} {B b9 b11 fa : Nat} {v wv : Value} {s : List shOp.T × List Int} {css : List (List Value)} {bss : List (List Nat)} (M : MtF w B b9 b11 fa v wv s css bss) (ch : Chg (fun x => x = b9 ∨ some x = v.ownBlock) w w') {b t : Nat} {Z : Array Value} (hb : HB w b Z t) (hne : b ≠ b9) (ht : 79 ≠ t) : HB w' b Z t :=
 hb.chg ch fun h => by
  rcases h with h | h
  · exact hne h
  · exact jag M.st.row.row hb ht _ h.symm rfl
theorem own_csQ {w : World} {B e s n c : Nat} {q : Option Addr} {vs : List Value} (h : w.ownsRow B e s (.slice q n c) n vs) : Cs w q vs ∧ n ≤ c := by
 rcases h.2 with ⟨h1,h2⟩ | ⟨g,cap,cur,h1,_⟩
 · cases h1
   have := h.1;rw [h2,Nat.zero_mul] at this;rw [List.eq_nil_of_length_eq_zero this];exact ⟨Cs.nil _ _,by omega⟩
 · cases h1
   exact ⟨own_cs h,(jbl h).1⟩
theorem lay_b0 {d2 d3 : Int} {W Bs : List Nat} {u : Unit} (h : layD (0,d2,d3,W,Bs,u) = true) : ((Bs.length : Nat) : Int) = d3 := by
 unfold layD layB at h;simp only [Bool.and_eq_true,decide_eq_true_eq] at h;obtain ⟨_,_,_,_,_,h6⟩ := h
 simpa [bCnt] using h6
theorem lay_w2 {d2 d3 : Int} {W Bs : List Nat} {u : Unit} (h : layD (2,d2,d3,W,Bs,u) = true) : ((W.length : Nat) : Int) = d2 := by
 unfold layD layB at h;simp only [Bool.and_eq_true,decide_eq_true_eq] at h;obtain ⟨_,_,_,_,h5,_⟩ := h
 simpa [wCnt] using h5
theorem mt_dense {d2 d3 : Int} {W Bs : List Nat} {u : Unit} {ops : List shOp.T} {ws : List Int} {j m m7 m9 m11 m12 lb : Nat} (hm : ops.length = m) (h7 : m7 = m + 1) (h9 : m9 = m7 + 1) (h11 : m11 = m9 + 1) (h12 : m12 = m11 + 1) (hb : (lb : Int) = d3) :
 jbh (0,d2,d3,W,Bs,u) (ops,ws,j) = (((((ops ++ [(0,0,0,0,(d3,d2,W,()),())]) ++ [(0,0,0,0,(1,(lb : Int),Bs,()),())]) ++ [(7,(m : Int),0,0,t0,())]) ++ [(6,(j : Int),(m9 : Int),0,t0,())]) ++ [(2,(m11 : Int),(m7 : Int),0,t0,())],ws ++ [(m : Int),(m7 : Int)],m12) := by
 subst h12;subst h11;subst h9;subst h7;subst hb;subst hm;simp [jbh,mkOp];exact ⟨rfl,rfl⟩
theorem mt_relu {d2 d3 : Int} {W Bs : List Nat} {u : Unit} {ops : List shOp.T} {ws : List Int} {j m : Nat} (hm : ops.length = m) :
 jbh (1,d2,d3,W,Bs,u) (ops,ws,j) = (ops ++ [(8,(j : Int),0,0,t0,())],ws,m) := by
 subst hm;simp [jbh,mkOp]
theorem mt_scale {d2 d3 : Int} {W Bs : List Nat} {u : Unit} {ops : List shOp.T} {ws : List Int} {j m m9 lw : Nat} (hm : ops.length = m) (h9 : m9 = m + 1) (hb : (lw : Int) = d2) :
 jbh (2,d2,d3,W,Bs,u) (ops,ws,j) = ((ops ++ [(0,0,0,0,(1,(lw : Int),W,()),())]) ++ [(4,(j : Int),(m : Int),0,t0,())],ws ++ [(m : Int)],m9) := by
 subst h9;subst hb;subst hm;simp [jbh,mkOp]
theorem mt_end {ops : List shOp.T} {ws : List Int} {j m m6 m8 m9 m10 z : Nat} (hm : ops.length = m) (h8 : m8 = m + 1) (h9 : m9 = m8 + 1) (h10 : m10 = m9 + 1) (h6 : m6 = 1) :
 mtEnd (ops,ws,j) z = ((((ops ++ [(5,(m6 : Int),0,negOne,t0,())]) ++ [(1,(j : Int),(m : Int),0,t0,())]) ++ [(9,(m8 : Int),0,0,t0,())]) ++ [(10,(m9 : Int),0,0,t0,())]) ++ [(5,(m10 : Int),0,z,t0,())] := by
 subst h10;subst h9;subst h8;subst h6;subst hm;simp [mtEnd,mkOp]
 first | exact ⟨rfl,rfl⟩ | exact ⟨rfl,rfl,rfl⟩ | rfl
theorem cn_neg1 : cn .f32 3212836864 = negOne := by decide +kernel
theorem cn_one1 : cn .f32 1065353216 = jcs := by decide +kernel
theorem mtTo_wlen (L : List jac.T) (x y : jaa.T) : ∀ i,(mtTo L x y i).2.1.length ≤ 2 * i
 | 0 => by simp [mtTo]
 | i + 1 => by
   have h := mtTo_wlen L x y i;simp only [mtTo,jbh]
   split
   · simp;omega
   · split
     · simp;omega
     · simp;omega
def AddedN (B b9 b11 fa : Nat) (v wv : Value) (ops : List shOp.T) (ws : List Int) (m : Nat) (d : shOp.T) (w : World) (e : Ending) (w' : World) : Prop :=
 e = .returned (.int .i64 (m : Nat)) ∧ ∃ v' css' bss' ops' m',Hid (ops' = ops ++ [d]) ∧ Hid (ops'.length = m') ∧ Hid (m' = m + 1) ∧ MtF w' B b9 b11 fa v' wv (ops',ws) css' bss' ∧ Chg (fun x => x = b9 ∨ some x = v.ownBlock) w w'
theorem Added.named {B b9 b11 fa : Nat} {v wv : Value} {ops : List shOp.T} {ws : List Int} {m : Nat} {d : shOp.T} {w w' : World} {e : Ending} (hm : ops.length = m) (h : Added B b9 b11 fa v wv (ops,ws) d w e w') : AddedN B b9 b11 fa v wv ops ws m d w e w' := by
 obtain ⟨h1,v',css',bss',M,ch⟩ := h;subst hm;exact ⟨h1,v',css',bss',_,_,rfl,rfl,by simp [Hid],M,ch⟩
theorem addF_n (B b9 b11 : Nat) (v wv : Value) (ops : List shOp.T) (ws : List Int) (m : Nat) (css : List (List Value)) (bss : List (List Nat)) (k a b : Int) (zb z : Nat) (w : World) (M : MtF w B b9 b11 60 v wv (ops,ws) css bss) (hz : cn .f32 zb = z) (hB : B ≤ w.heap.size) (hm : ops.length = m) (hl : m ≤ 60) :
 Calls Tryz.prog 60 #[.agg #[.int .i64 k,.int .i64 a,.int .i64 b,.float .f32 zb,.int .i64 0,.int .i64 0,.slice none 0 0],.pointer (some ⟨b9,0,none⟩)] w (AddedN B b9 b11 60 v wv ops ws m (k,a,b,z,t0,()) w) :=
 (addF_any B b9 b11 v wv (ops,ws) css bss k a b zb z w M hz hB (show ops.length ≤ 60 by omega)).mono fun _ _ h => h.named hm
theorem inputF_n (B b9 b11 : Nat) (v wv : Value) (ops : List shOp.T) (ws : List Int) (m : Nat) (css : List (List Value)) (bss : List (List Nat)) (r c : Int) (q : Option Addr) (N k : Nat) (us : List Value) (xs : List Nat) (w : World) (M : MtF w B b9 b11 60 v wv (ops,ws) css bss) (hB : B ≤ w.heap.size) (hm : ops.length = m) (hl : m ≤ 60) (hx : xs.length = N) (hN : N ≤ 1048576) (hk : N ≤ k) (hq : Cs w q us) (hf : F32s us xs) :
 Calls Tryz.prog 61 #[.agg #[.int .i64 r,.int .i64 c,.slice q N k],.pointer (some ⟨b11,0,none⟩)] w (AddedN B b9 b11 60 v wv ops ws m (0,0,0,0,(r,c,xs,()),()) w) :=
 (inputF_any B b9 b11 v wv (ops,ws) css bss r c q N k us xs w M hB (show ops.length ≤ 60 by omega) hx hN hk hq hf).mono fun _ _ h => h.named hm
end Go.Proofs.YtlimabbeaimdgaaGreat
