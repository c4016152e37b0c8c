/- A part of the proofs: TnTb, Dr8, RedN, Sto, RLst, SameE. -/
import Derived.Test.YtmbckkcgiafagaaZ25FnMode
import Derived.Test.YtmbckkcgiafagaaZ22FnMode
import Derived.Test.YtmbckkcgiafagaaZ12FnMode
import Derived.Test.YtmbckkcgiafagaaZ13FnMode
import Derived.Test.YtmbckkcgiafagaaZ09FnMode
import Derived.Test.YtmbckkcgiafagaaZ11FnMode
import Derived.Test.YtmbckkcgiafagaaZ07FnMode
import Derived.Test.YtmbckkcgiafagaaZ08FnMode
import Derived.Test.YtmbckkcgiafagaaZ03FnMode
import Derived.Test.YtmbckkcgiafagaaZ02FnMode
import Derived.Test.YtmbckkcgiafagaaZ06FnMode
import Derived.Test.YtmbckkcgiafagaaZ10FnMode
set_option linter.unusedSimpArgs false
set_option linter.unusedVariables false
set_option maxRecDepth 100000
set_option maxHeartbeats 16000000
namespace Go.Proofs.Ytmbckkcgiafagaa
open Go.RowKit
section
variable {P : Program} {w : World} {ops : Array Oper} {rest : List Oper} {o : Oper} {a : Act} {Q : Exit → Act → World → Prop}
theorem wl_appW {t e s b : Nat} {z : Value} [T : SlTy P t e s z b] {x1 x2 : Operand} {v : Value} {B n m c : Nat} {vs us : List Value} {ad : Addr}
 (hg : o.guard = none) (ho : o.op = .call { callee := .builtin .append,args := #[x1,x2],argTypes := #[t,t] })
 (hx1 : a.eval x1 = v) (hx2 : a.eval x2 = .slice (some ad) m c) (how : w.ownsRow B e s v n vs) (hc : Cs w (some ad) us) (hm : us.length = m * s) (h1 : ∀ u ∈ us,u.oneCell' = true)
 (hn : n + m ≤ maxLen) (hb : (n + m) * b ≤ 140737488355328) (hB : B ≤ w.heap.size)
 (h : ∀ v' w',w'.ownsRow B e s v' (n + m) (vs ++ us) → w.grownBy w' v.ownBlock → (∀ x,v'.ownBlock = some x → v.ownBlock = some x ∨ w.heap.size ≤ x) → wpList P ops Q rest (a.put o.dst v') w') : wpList P ops Q (o :: rest) a w := by
 obtain ⟨ti,hi,hzz⟩ := Option.map_eq_some_iff.1 T.inf;simp only [Prod.mk.injEq] at hzz;refine wpList_append_own_at _ hg x1 x2 t ho B e ti z s b T.und hi hzz.1 hzz.2.1 hzz.2.2 T.zs T.pos v n vs hx1 how ad m c us hx2 hm (fun j u hj => hc.cell j u hj) h1 hn hb hB (fun v' w' h1 h2 _ h4 => h v' w' h1 h2 fun x hx => ?_);rcases h4 with h4 | h4
 · left;rw [← h4];exact hx
 · rw [hx] at h4;right;cases h4;exact Nat.le_refl _
end
def tapeB (L : List jac.T) : Bool := L.all fun l => decide (l.1 = 0 ∨ l.1 = 1 ∨ l.1 = 2)
theorem tapeB_no {L : List jac.T} {i : Nat} {d : jac.T} (h : L[i]? = some d) (k : ¬ (d.1 = 0 ∨ d.1 = 1 ∨ d.1 = 2)) : tapeB L = false := by
 cases hb : tapeB L with
 | false => rfl
 | true => exact absurd (by simpa using List.all_eq_true.1 hb d (List.mem_of_getElem? h)) k
theorem tapeB_step {L : List jac.T} {i : Nat} {d : jac.T} (h : L[i]? = some d) (k : d.1 = 0 ∨ d.1 = 1 ∨ d.1 = 2) (ht : tapeB (L.take i) = true) : tapeB (L.take (i + 1)) = true := by
 unfold tapeB at ht ⊢;rw [List.take_add_one,h,List.all_append,ht]
 simpa using k
def MtOut (w : World) (L : List jac.T) (x y : jaa.T) (z : Nat) (e : Ending) (w' : World) : Prop :=
 (tapeB L = false ∧ e = .returned (.tuple #[.slice none 0 0,.slice none 0 0,.bool false])) ∨ (tapeB L = true ∧ ∃ v wv css bss,e = .returned (.tuple #[v,wv,.bool true]) ∧ GrowOwn w' w.heap.size 98 shOp v (mtape L x y z) css bss ∧ w'.ownsRow w.heap.size 2 1 wv (jcf L x y).length ((jcf L x y).map (Value.int .i64)))
theorem mt_start {wf V4 : World} (B fa : Nat) (hB : B ≤ wf.heap.size) (hV : V4 = (((wf.alloc (.cells #[] 98)).alloc (.cells #[.slice (some ⟨wf.heap.size,0,none⟩) 0 0] 56)).alloc (.cells #[] 2)).alloc (.cells #[.nilFunc] 134)) :
 Ext wf V4 ∧ HB V4 (wf.heap.size + 1 + 1 + 1) #[.nilFunc] 134 ∧ ∀ w5,HB w5 (wf.heap.size + 1 + 1 + 1) #[.func (.func fa) #[] #[.pointer (some ⟨wf.heap.size + 1,0,none⟩)]] 134 → Chg (fun k => k = wf.heap.size + 1 + 1 + 1) V4 w5 →
  MtF w5 B (wf.heap.size + 1) (wf.heap.size + 1 + 1 + 1) fa (.slice (some ⟨wf.heap.size,0,none⟩) 0 0) (.slice (some ⟨wf.heap.size + 1 + 1,0,none⟩) 0 0) ([],[]) [] [] := by
 obtain ⟨V1,h1⟩ : ∃ V1,V1 = wf.alloc (.cells #[] 98) := ⟨_,rfl⟩;obtain ⟨V2,h2⟩ : ∃ V2,V2 = V1.alloc (.cells #[.slice (some ⟨wf.heap.size,0,none⟩) 0 0] 56) := ⟨_,rfl⟩;obtain ⟨V3,h3⟩ : ∃ V3,V3 = V2.alloc (.cells #[] 2) := ⟨_,rfl⟩;rw [← h1,← h2,← h3] at hV;have s1 : V1.heap.size = wf.heap.size + 1 := by rw [h1];simp
 have s2 : V2.heap.size = wf.heap.size + 1 + 1 := by rw [h2,← s1];simp
 have s3 : V3.heap.size = wf.heap.size + 1 + 1 + 1 := by rw [h3,← s2];simp
 have e1 : Ext wf V1 := by rw [h1];exact Ext.alloc _ _
 have e2 : Ext V1 V2 := by rw [h2];exact Ext.alloc _ _
 have e3 : Ext V2 V3 := by rw [h3];exact Ext.alloc _ _
 have e4 : Ext V3 V4 := by rw [hV];exact Ext.alloc _ _
 have r1 : V1.ownsRow B 98 shOp.sz (.slice (some ⟨wf.heap.size,0,none⟩) 0 0) 0 [] := by rw [h1];exact jak (World.ownsRow_made wf #[] 0 (Nat.le_refl _) (by decide) rfl) hB
 have b2 : HB V2 (wf.heap.size + 1) #[.slice (some ⟨wf.heap.size,0,none⟩) 0 0] 56 := by rw [h2,← s1];exact HB.new _ _ _
 have r3 : V3.ownsRow B 2 1 (.slice (some ⟨wf.heap.size + 1 + 1,0,none⟩) 0 0) 0 [] := by rw [h3,← s2];exact jak (World.ownsRow_made V2 #[] 0 (Nat.le_refl _) (by decide) rfl) (by omega)
 have b4 : HB V4 (wf.heap.size + 1 + 1 + 1) #[.nilFunc] 134 := by rw [hV,← s3];exact HB.new _ _ _
 refine ⟨((e1.trans e2).trans e3).trans e4,b4,fun w5 b5 ch => ⟨⟨?_,b5,?_,by simp,by omega⟩,?_,by simp⟩⟩
 · exact ((b2.ext e3).ext e4).chg ch (by omega)
 · exact GrowOwn.empty (ja0 (jah r1 ((e2.trans e3).trans e4)) ch (fun x hx h => by simp [Value.ownBlock] at hx;omega))
 · exact ja0 (jah r3 e4) ch (fun x hx h => by simp [Value.ownBlock] at hx;omega)
theorem MtF.extOf {w0 w : World} {B b9 b11 fa : Nat} {v wv : Value} {s : List shOp.T × List Int} {css : List (List Value)} {bss : List (List Nat)} (M : MtF w B b9 b11 fa v wv s css bss) (he : Ext w0 w) (hB : w0.heap.size ≤ B) (h9 : w0.heap.size ≤ b9) {w' : World} (ch : Chg (fun x => x = b9 ∨ some x = v.ownBlock) w w') : Ext w0 w' :=
 he.chg ch fun b hb => by
  rcases hb with h | h
  · omega
  · have := jas M.st.row.row b h.symm;omega
theorem MtF.hbOf {w w' : World} {B b9 b11 fa : Nat} {v wv : Value} {s : List shOp.T × List Int} {css : List (List Value)} {bss : List (List Nat)} (M : MtF w B b9 b11 fa v wv s css bss) (ch : Chg (fun x => x = b9 ∨ some x = v.ownBlock) w w') {b t : Nat} {Z : Array Value} (hb : HB w b Z t) (hne : b ≠ b9) (ht : 98 ≠ t) : HB w' b Z t :=
 hb.chg ch fun h => by
  rcases h with h | h
  · exact hne h
  · exact ja5 M.st.row.row hb ht _ h.symm rfl
theorem own_csQ {w : World} {B e s n c : Nat} {q : Option Addr} {vs : List Value} (h : w.ownsRow B e s (.slice q n c) n vs) : Cs w q vs ∧ n ≤ c := by
 rcases h.2 with ⟨h1,h2⟩ | ⟨g,cap,cur,h1,_⟩
 · cases h1
   have := h.1;rw [h2,Nat.zero_mul] at this;rw [List.eq_nil_of_length_eq_zero this];exact ⟨Cs.nil _ _,by omega⟩
 · cases h1
   exact ⟨own_cs h,(jbb h).1⟩
theorem lay_b0 {d2 d3 : Int} {W Bs : List Nat} {u : Unit} (h : layD (0,d2,d3,W,Bs,u) = true) : ((Bs.length : Nat) : Int) = d3 := by
 unfold layD layB at h;simp only [Bool.and_eq_true,decide_eq_true_eq] at h;obtain ⟨_,_,_,_,_,h6⟩ := h
 simpa [bCnt] using h6
theorem lay_w2 {d2 d3 : Int} {W Bs : List Nat} {u : Unit} (h : layD (2,d2,d3,W,Bs,u) = true) : ((W.length : Nat) : Int) = d2 := by
 unfold layD layB at h;simp only [Bool.and_eq_true,decide_eq_true_eq] at h;obtain ⟨_,_,_,_,h5,_⟩ := h
 simpa [wCnt] using h5
theorem mt_dense {d2 d3 : Int} {W Bs : List Nat} {u : Unit} {ops : List shOp.T} {ws : List Int} {j m m7 m9 m11 m12 lb : Nat} (hm : ops.length = m) (h7 : m7 = m + 1) (h9 : m9 = m7 + 1) (h11 : m11 = m9 + 1) (h12 : m12 = m11 + 1) (hb : (lb : Int) = d3) :
 ja6 (0,d2,d3,W,Bs,u) (ops,ws,j) = (((((ops ++ [(0,0,0,0,(d3,d2,W,()),())]) ++ [(0,0,0,0,(1,(lb : Int),Bs,()),())]) ++ [(7,(m : Int),0,0,t0,())]) ++ [(6,(j : Int),(m9 : Int),0,t0,())]) ++ [(2,(m11 : Int),(m7 : Int),0,t0,())],ws ++ [(m : Int),(m7 : Int)],m12) := by
 subst h12;subst h11;subst h9;subst h7;subst hb;subst hm;simp [ja6,mkOp];exact ⟨rfl,rfl⟩
theorem mt_relu {d2 d3 : Int} {W Bs : List Nat} {u : Unit} {ops : List shOp.T} {ws : List Int} {j m : Nat} (hm : ops.length = m) :
 ja6 (1,d2,d3,W,Bs,u) (ops,ws,j) = (ops ++ [(8,(j : Int),0,0,t0,())],ws,m) := by
 subst hm;simp [ja6,mkOp]
theorem mt_scale {d2 d3 : Int} {W Bs : List Nat} {u : Unit} {ops : List shOp.T} {ws : List Int} {j m m9 lw : Nat} (hm : ops.length = m) (h9 : m9 = m + 1) (hb : (lw : Int) = d2) :
 ja6 (2,d2,d3,W,Bs,u) (ops,ws,j) = ((ops ++ [(0,0,0,0,(1,(lw : Int),W,()),())]) ++ [(4,(j : Int),(m : Int),0,t0,())],ws ++ [(m : Int)],m9) := by
 subst h9;subst hb;subst hm;simp [ja6,mkOp]
theorem mt_end {ops : List shOp.T} {ws : List Int} {j m m6 m8 m9 m10 z : Nat} (hm : ops.length = m) (h8 : m8 = m + 1) (h9 : m9 = m8 + 1) (h10 : m10 = m9 + 1) (h6 : m6 = 1) :
 mtEnd (ops,ws,j) z = ((((ops ++ [(5,(m6 : Int),0,negOne,t0,())]) ++ [(1,(j : Int),(m : Int),0,t0,())]) ++ [(9,(m8 : Int),0,0,t0,())]) ++ [(10,(m9 : Int),0,0,t0,())]) ++ [(5,(m10 : Int),0,z,t0,())] := by
 subst h10;subst h9;subst h8;subst h6;subst hm;simp [mtEnd,mkOp]
 first | exact ⟨rfl,rfl⟩ | exact ⟨rfl,rfl,rfl⟩ | rfl
theorem cn_neg1 : cn .f32 3212836864 = negOne := by decide +kernel
theorem cn_one1 : cn .f32 1065353216 = jcl := by decide +kernel
theorem mtTo_wlen (L : List jac.T) (x y : jaa.T) : ∀ i,(mtTo L x y i).2.1.length ≤ 2 * i
 | 0 => by simp [mtTo]
 | i + 1 => by
   have h := mtTo_wlen L x y i;simp only [mtTo,ja6]
   split
   · simp;omega
   · split
     · simp;omega
     · simp;omega
def AddedN (B b9 b11 fa : Nat) (v wv : Value) (ops : List shOp.T) (ws : List Int) (m : Nat) (d : shOp.T) (w : World) (e : Ending) (w' : World) : Prop :=
 e = .returned (.int .i64 (m : Nat)) ∧ ∃ v' css' bss' ops' m',Hid (ops' = ops ++ [d]) ∧ Hid (ops'.length = m') ∧ Hid (m' = m + 1) ∧ MtF w' B b9 b11 fa v' wv (ops',ws) css' bss' ∧ Chg (fun x => x = b9 ∨ some x = v.ownBlock) w w'
theorem Added.named {B b9 b11 fa : Nat} {v wv : Value} {ops : List shOp.T} {ws : List Int} {m : Nat} {d : shOp.T} {w w' : World} {e : Ending} (hm : ops.length = m) (h : Added B b9 b11 fa v wv (ops,ws) d w e w') : AddedN B b9 b11 fa v wv ops ws m d w e w' := by
 obtain ⟨h1,v',css',bss',M,ch⟩ := h;subst hm;exact ⟨h1,v',css',bss',_,_,rfl,rfl,by simp [Hid],M,ch⟩
theorem addF_n (B b9 b11 : Nat) (v wv : Value) (ops : List shOp.T) (ws : List Int) (m : Nat) (css : List (List Value)) (bss : List (List Nat)) (k a b : Int) (zb z : Nat) (w : World) (M : MtF w B b9 b11 99 v wv (ops,ws) css bss) (hz : cn .f32 zb = z) (hB : B ≤ w.heap.size) (hm : ops.length = m) (hl : m ≤ 60) :
 Calls Try.prog 99 #[.agg #[.int .i64 k,.int .i64 a,.int .i64 b,.float .f32 zb,.int .i64 0,.int .i64 0,.slice none 0 0],.pointer (some ⟨b9,0,none⟩)] w (AddedN B b9 b11 99 v wv ops ws m (k,a,b,z,t0,()) w) :=
 (addF_any B b9 b11 v wv (ops,ws) css bss k a b zb z w M hz hB (show ops.length ≤ 60 by omega)).mono fun _ _ h => h.named hm
theorem inputF_n (B b9 b11 : Nat) (v wv : Value) (ops : List shOp.T) (ws : List Int) (m : Nat) (css : List (List Value)) (bss : List (List Nat)) (r c : Int) (q : Option Addr) (N k : Nat) (us : List Value) (xs : List Nat) (w : World) (M : MtF w B b9 b11 99 v wv (ops,ws) css bss) (hB : B ≤ w.heap.size) (hm : ops.length = m) (hl : m ≤ 60) (hx : xs.length = N) (hN : N ≤ 1048576) (hk : N ≤ k) (hq : Cs w q us) (hf : F32s us xs) :
 Calls Try.prog 100 #[.agg #[.int .i64 r,.int .i64 c,.slice q N k],.pointer (some ⟨b11,0,none⟩)] w (AddedN B b9 b11 99 v wv ops ws m (0,0,0,0,(r,c,xs,()),()) w) :=
 (inputF_any B b9 b11 v wv (ops,ws) css bss r c q N k us xs w M hB (show ops.length ≤ 60 by omega) hx hN hk hq hf).mono fun _ _ h => h.named hm
def GoodK (kinds i0 : Int) (L : List jac.T) : Prop := GoodL i0 L ∧ ∀ d ∈ L,0 ≤ (d.1 : Int) ∧ (d.1 : Int) < kinds
theorem kd_ok {kinds inn O : Int} {ws bs : List Nat} (k : Int) (h0 : 0 ≤ k) (h1 : k < kinds) : 0 ≤ (((k,inn,O,ws,bs,()) : jac.T).1 : Int) ∧ (((k,inn,O,ws,bs,()) : jac.T).1 : Int) < kinds := ⟨h0,h1⟩
theorem kd_3 (k : Int) (h0 : 0 ≤ k) (h1 : k < 3) : k = 0 ∨ k = 1 ∨ k = 2 := by omega
def GotModK (kinds : Int) (sb K n1 : Nat) (w : World) (e : Ending) (w' : World) : Prop :=
 ∃ (i0 : Int) (L : List jac.T) (q : Option Addr) (c : Nat),e = .returned (.agg #[.slice q L.length c]) ∧ GoodK kinds i0 L ∧ 1 ≤ L.length ∧ L.length ≤ n1 ∧ (∃ (B : Nat) (cs : List (List Value)) (bss : List (List Nat)),w.heap.size ≤ B ∧ B ≤ w'.heap.size ∧ GrowOwn w' B 41 jac (.slice q L.length c) L cs bss ∧ Tys w' [33] bss.flatten) ∧ DrAt w' sb K ∧ Chg (fun b => b = sb) w w'
theorem l03DrawSomeK_any (sb K : Nat) (i0 kinds : Int) (w : World) (h : DrAt w sb K) (hK : K ≤ 100000) (hi : 1 ≤ i0 ∧ i0 ≤ 8) (hkd : 1 ≤ kinds ∧ kinds ≤ 6) :
 Calls Try.prog 55 #[.pointer (some ⟨sb,0,none⟩),.int .i64 i0,.int .i64 kinds] w (GotModK kinds sb (K + 20000) 3 w) := by
 have hlt0 := h.lt;obtain ⟨W0,hW0⟩ : ∃ W0,W0 = (w.alloc (.cells #[.slice none 0 0] 38)).alloc (.cells #[.slice none 0 0] 38) := ⟨_,rfl⟩;obtain ⟨E0,s0,b0,b1⟩ := box2 hW0;have b0 : HB W0 w.heap.size #[.slice none 0 0] 38 := b0;have b1 : HB W0 (w.heap.size + 1) #[.slice none 0 0] 38 := b1;have H0 := h.ext E0;clear h;go_enter Try.func55,Try.ntmps55;go_wp2_with fail;rw [← hW0];clear hW0;refine (jbp sb K 3 W0 H0 (by omega) (by omega)).mono ?_;rintro e w1 ⟨x,rfl,hx,_,H1,c1⟩
 have hx := hx (by omega);obtain ⟨M,hM⟩ : ∃ M : Nat,(1 : Int) + (x : Int) = (M : Int) := ⟨1 + x,by omega⟩;have hM1 : 1 ≤ M ∧ M ≤ 3 := by omega
 have B0 := b0.chg c1 (fun hh => by omega);have B1 := b1.chg c1 (fun hh => by omega);have C1 := (Chg.of_ext (S := fun b => b = sb) E0).trans c1;have z1 := c1.size;have hst : w1.ownsRow w1.heap.size 41 jac.sz (.slice none 0 0) 0 [] := ⟨rfl,.inl ⟨rfl,rfl⟩⟩;have hG0 : GoodK kinds i0 [] := ⟨⟨rfl,hi.1,hi.2,fun x hx => by simp at hx⟩,fun d hd => by simp at hd⟩;clear b0 b1 H0 c1 E0 hx;go_wp2;go_loopw [1,8] (fun inv kv wr => ∃ (i c : Nat) (L : List jac.T) (q : Option Addr) (cs : List (List Value)) (bss : List (List Nat)),i ≤ M ∧ inv = .int .i64 (lastO i0 L) ∧ kv = .int .i64 ((M : Int) - (i : Int)) ∧ Hid (L.length = i) ∧ HB wr (w.heap.size + 1) #[.slice q i c] 38 ∧ HB wr w.heap.size #[.slice none 0 0] 38 ∧ Hid (GrowOwn wr w1.heap.size 41 jac (.slice q i c) L cs bss) ∧ Hid (Tys wr [33] bss.flatten) ∧ Hid (GoodK kinds i0 L) ∧ DrAt wr sb (K + 2 + i * 5000) ∧ Chg (fun b => b = sb) w wr ∧ w1.heap.size ≤ wr.heap.size) (fun _ kv _ => (intOf kv).toNat)
 case atStart => exact ⟨0,0,[],none,[],[],by omega,rfl,by simp,rfl,B1,B0,GrowOwn.empty hst,fun b hb => by simp at hb,hG0,H1,C1,Nat.le_refl _⟩
 case round =>
  clear B1 B0 hst hG0 H1 C1;obtain ⟨i,c,L,q,cs,bss,hi2,rfl,rfl,HL,B1,B0,HG,HT,HQ,S,C,hz⟩ := hrel
  by_cases hlt : i < M
  · have hgt : decide (0 < (M : Int) - (i : Int)) = true := by simp;omega
    have hq1 := HQ.out.1.2.1;have hq2 := HQ.out.1.2.2.1;have HIN := hid (rfl : lastO i0 L = lastO i0 L);obtain ⟨inn,hinn⟩ : ∃ z,z = lastO i0 L := ⟨_,rfl⟩;rw [← hinn] at hq1 hq2 ⊢;have HI := hid hinn;clear hinn HIN;go_wp2_with fail;refine (jbp sb (K + 2 + i * 5000) kinds wr S (by omega) (by omega)).mono ?_;rintro e w2 ⟨kd,rfl,hk1,_,S2,c2⟩
    have hk1 := hk1 (by omega);go_wp2_with fail;refine (drOne_any sb (K + 2 + i * 5000 + 2) 2 w2 S2 (by omega) (by omega)).mono ?_;rintro e w3 ⟨bb,rfl,S3,c3⟩
    clear S2 S
    cases bb
    · go_wp2_with fail
      refine (jbp sb (K + 2 + i * 5000 + 4) 4 w3 S3 (by omega) (by omega)).mono ?_;rintro e w4 ⟨y,rfl,hy,_,S4,c4⟩
      have hy := hy (by omega);clear S3;have HC := l03DrawLayer_any sb (K + 2 + i * 5000 + 6) (kd : Int) inn (1 + (y : Int)) w4 S4 (by omega) (by omega) (by omega) (by omega);generalize (if ((kd : Int) : Int) = 0 then (1 + (y : Int)) else inn) = O at HC;go_wp2_with fail;refine HC.mono ?_;rintro e w5 ⟨ws,bs,pw,pb,cw,cb,rfl,hlb,hws,hbs,⟨bl,ol,ndl,lol,tyl⟩,S5,c5,_⟩
      have CC := ((c2.trans c3).trans c4).trans c5;have C5 := C.trans CC;have z2 := (c2.trans (c3.trans c4)).size;have z5 := c5.size;have B5 := B1.chg CC (fun hh => by omega);have Z5 := B0.chg CC (fun hh => by omega);have hrow := HG.out.row;rw [HL.out] at hrow;have row5 := jag hrow CC (fun b hb => by have hb : b = sb := hb;omega);have hlw := hid (rfl : ws.length = ws.length);obtain ⟨lw,hlw⟩ : ∃ lw,lw = ws.length := ⟨_,rfl⟩;obtain ⟨lb,hlb2⟩ : ∃ lb,lb = bs.length := ⟨_,rfl⟩;rw [← hlw,← hlb2] at ol ⊢;rw [← hlw,← hlb2] at hlb;have HLW := hid hlw;have HLB := hid hlb2;clear hlw hlb2 c2 c3 c4 c5 HC S4 C B1 B0;have E6 := Ext.alloc w5 (.cells #[.int .i64 (kd : Int),.int .i64 inn,.int .i64 O,.slice pw lw cw,.slice pb lb cb] 41);have b10 := HB.new w5 #[.int .i64 (kd : Int),.int .i64 inn,.int .i64 O,.slice pw lw cw,.slice pb lb cb] 41;obtain ⟨W6,hW6⟩ : ∃ W6,W6 = w5.alloc (.cells #[.int .i64 (kd : Int),.int .i64 inn,.int .i64 O,.slice pw lw cw,.slice pb lb cb] 41) := ⟨_,rfl⟩;rw [← hW6] at E6 b10;have g7 := E6.cell (B5.cell 0 rfl);have k0 := b10.cell 0 rfl;have k1 := b10.cell 1 rfl;have k2 := b10.cell 2 rfl;have k3 := b10.cell 3 rfl;have k4 := b10.cell 4 rfl;have z6 := E6.size;have l6 := b10.lt;have HW6 := hid hW6;clear hW6;rw [HW6.out] at g7 k0 k1 k2 k3 k4;go_wp2_with (first | ((with_reducible show gx6);rw [← HW6.out];refine ja9 (u := .agg #[.int .i64 (kd : Int),.int .i64 inn,.int .i64 O,.slice pw lw cw,.slice pb lb cb]) rfl rfl rfl rfl rfl (by rfl) (by rfl) (fun _ => rfl) (fun _ => rfl) (jah row5 E6) (by unfold maxLen;omega) (by omega) (by omega) ?_;intro g9 c9 w9 own9 gr9 hw9;have hg9 : HB w9 (w.heap.size + 1) #[.slice q i c] 38 := (B5.ext E6).chg (.of_grown gr9) (fun h => by have := jas row5 _ h.symm;omega);have r9 : HB w9 w5.heap.size #[.int .i64 (kd : Int),.int .i64 inn,.int .i64 O,.slice pw lw cw,.slice pb lb cb] 41 := b10.chg (.of_grown gr9) (fun h => by have := own_lt row5 _ h.symm;omega)) | ((with_reducible show gx9);refine wl_stHB (j := 0) rfl rfl hg9 rfl rfl rfl rfl ?_;intro w10 b11 ch10;have r10 := r9.chg ch10 (fun h => by omega);have o2 := r10.cell 2 rfl));go_roundw
      case rel =>
       have hw : ws.length = lw := HLW.out.symm;have hb : bs.length = lb := HLB.out.symm
       have G10 : GoodK kinds i0 (L ++ [((kd : Int),inn,O,ws,bs,())]) := by
        rw [HI.out];refine ⟨HQ.out.1.snoc (by rw [hw,hb,← HI.out];exact hlb) hws hbs,fun d hd => ?_⟩;rcases List.mem_append.1 hd with h | h
        · exact HQ.out.2 d h
        · rw [List.mem_singleton] at h
          subst h;exact kd_ok _ (by omega) (by omega)
       have ol6 : Own W6 jac [.int .i64 (kd : Int),.int .i64 inn,.int .i64 O,.slice pw lw cw,.slice pb lb cb] ((kd : Int),inn,O,ws,bs,()) bl := ol.chg (Chg.of_ext (S := fun _ => False) E6) (fun _ _ h => h);have CC6 := CC.trans (.of_ext E6);have H9 := (HG.out.snocC CC6 (fun b hb => by have hb : b = sb := hb;omega) ol6 ndl (fun b hb => by have := lol b hb;omega) hz (n := i) HL.out own9 gr9 (by rcases hw9 with h | h;exact .inl h;right;omega)).chgB ch10 (fun b hb => by have hb : b = _ := hb;omega)
       have T9 : Tys w10 [33] (bss ++ [bl]).flatten := by
        have hh : (bss ++ [bl]).flatten = bss.flatten ++ bl := by simp
        rw [hh];refine ((((HT.out.chg CC6 (fun b hb h => by have h : b = sb := h;have := (HG.out.lo b hb).1;omega)).app (tyl.ext E6)).chg (.of_grown gr9) (fun b hb h => ?_)).chg ch10 (fun b hb h => ?_))
        · rcases List.mem_append.1 hb with hb | hb
          · exact (HG.out.lo b hb).2 h.symm
          · have := own_lt hrow b h.symm;have := lol b hb;omega
        · have h : b = _ := h
          rcases List.mem_append.1 hb with hb | hb
          · have := (HG.out.lo b hb).1;omega
          · have := lol b hb;omega
       have S9 := (((S5.ext E6).chg (.of_grown gr9) (fun b hb => by have := jas row5 b hb.symm;omega)).chg ch10 (fun b hb => by have hb : b = _ := hb;omega)).mono (show K + 2 + i * 5000 + 6 + 4000 ≤ K + 2 + (i + 1) * 5000 by omega);have C9 := ((C5.trans (.of_ext E6)).late (.of_grown gr9) (fun b hb => by left;have := jas row5 b hb.symm;omega)).late ch10 (fun b hb => by left;have hb : b = _ := hb;omega);have Z9 : HB w10 w.heap.size #[.slice none 0 0] 38 := ((Z5.ext E6).chg (.of_grown gr9) (fun h => by have := jas row5 _ h.symm;omega)).chg ch10 (fun h => by omega);exact ⟨i + 1,c9,L ++ [((kd : Int),inn,O,ws,bs,())],some ⟨g9,0,none⟩,_,_,by omega,by rw [lastO_snoc];rfl,by go_num,by rw [Hid,List.length_append,HL.out];rfl,b11,Z9,H9,T9,G10,S9,C9,by have := gr9.size;have := ch10.size;omega⟩
      case measure => simp [intOf];omega
    · go_wp2_with fail
      refine (jbp sb (K + 2 + i * 5000 + 4) 4 w3 S3 (by omega) (by omega)).mono ?_;rintro e w4 ⟨y,rfl,hy,_,S4,c4⟩
      have hy := hy (by omega);clear S3;have HC := l03DrawLayer_any sb (K + 2 + i * 5000 + 6) 0 inn (1 + (y : Int)) w4 S4 (by omega) (by omega) (by omega) (by omega);generalize (if (0 : Int) = 0 then (1 + (y : Int)) else inn) = O at HC;go_wp2_with fail;refine HC.mono ?_;rintro e w5 ⟨ws,bs,pw,pb,cw,cb,rfl,hlb,hws,hbs,⟨bl,ol,ndl,lol,tyl⟩,S5,c5,_⟩
      have CC := ((c2.trans c3).trans c4).trans c5;have C5 := C.trans CC;have z2 := (c2.trans (c3.trans c4)).size;have z5 := c5.size;have B5 := B1.chg CC (fun hh => by omega);have Z5 := B0.chg CC (fun hh => by omega);have hrow := HG.out.row;rw [HL.out] at hrow;have row5 := jag hrow CC (fun b hb => by have hb : b = sb := hb;omega);have hlw := hid (rfl : ws.length = ws.length);obtain ⟨lw,hlw⟩ : ∃ lw,lw = ws.length := ⟨_,rfl⟩;obtain ⟨lb,hlb2⟩ : ∃ lb,lb = bs.length := ⟨_,rfl⟩;rw [← hlw,← hlb2] at ol ⊢;rw [← hlw,← hlb2] at hlb;have HLW := hid hlw;have HLB := hid hlb2;clear hlw hlb2 c2 c3 c4 c5 HC S4 C B1 B0;have E6 := Ext.alloc w5 (.cells #[.int .i64 0,.int .i64 inn,.int .i64 O,.slice pw lw cw,.slice pb lb cb] 41);have b10 := HB.new w5 #[.int .i64 0,.int .i64 inn,.int .i64 O,.slice pw lw cw,.slice pb lb cb] 41;obtain ⟨W6,hW6⟩ : ∃ W6,W6 = w5.alloc (.cells #[.int .i64 0,.int .i64 inn,.int .i64 O,.slice pw lw cw,.slice pb lb cb] 41) := ⟨_,rfl⟩;rw [← hW6] at E6 b10;have g7 := E6.cell (B5.cell 0 rfl);have k0 := b10.cell 0 rfl;have k1 := b10.cell 1 rfl;have k2 := b10.cell 2 rfl;have k3 := b10.cell 3 rfl;have k4 := b10.cell 4 rfl;have z6 := E6.size;have l6 := b10.lt;have HW6 := hid hW6;clear hW6;rw [HW6.out] at g7 k0 k1 k2 k3 k4;go_wp2_with (first | ((with_reducible show gx6);rw [← HW6.out];refine ja9 (u := .agg #[.int .i64 0,.int .i64 inn,.int .i64 O,.slice pw lw cw,.slice pb lb cb]) rfl rfl rfl rfl rfl (by rfl) (by rfl) (fun _ => rfl) (fun _ => rfl) (jah row5 E6) (by unfold maxLen;omega) (by omega) (by omega) ?_;intro g9 c9 w9 own9 gr9 hw9;have hg9 : HB w9 (w.heap.size + 1) #[.slice q i c] 38 := (B5.ext E6).chg (.of_grown gr9) (fun h => by have := jas row5 _ h.symm;omega);have r9 : HB w9 w5.heap.size #[.int .i64 0,.int .i64 inn,.int .i64 O,.slice pw lw cw,.slice pb lb cb] 41 := b10.chg (.of_grown gr9) (fun h => by have := own_lt row5 _ h.symm;omega)) | ((with_reducible show gx9);refine wl_stHB (j := 0) rfl rfl hg9 rfl rfl rfl rfl ?_;intro w10 b11 ch10;have r10 := r9.chg ch10 (fun h => by omega);have o2 := r10.cell 2 rfl));go_roundw
      case rel =>
       have hw : ws.length = lw := HLW.out.symm;have hb : bs.length = lb := HLB.out.symm
       have G10 : GoodK kinds i0 (L ++ [((0 : Int),inn,O,ws,bs,())]) := by
        rw [HI.out];refine ⟨HQ.out.1.snoc (by rw [hw,hb,← HI.out];exact hlb) hws hbs,fun d hd => ?_⟩;rcases List.mem_append.1 hd with h | h
        · exact HQ.out.2 d h
        · rw [List.mem_singleton] at h
          subst h;exact kd_ok _ (by omega) (by omega)
       have ol6 : Own W6 jac [.int .i64 (0 : Int),.int .i64 inn,.int .i64 O,.slice pw lw cw,.slice pb lb cb] ((0 : Int),inn,O,ws,bs,()) bl := ol.chg (Chg.of_ext (S := fun _ => False) E6) (fun _ _ h => h);have CC6 := CC.trans (.of_ext E6);have H9 := (HG.out.snocC CC6 (fun b hb => by have hb : b = sb := hb;omega) ol6 ndl (fun b hb => by have := lol b hb;omega) hz (n := i) HL.out own9 gr9 (by rcases hw9 with h | h;exact .inl h;right;omega)).chgB ch10 (fun b hb => by have hb : b = _ := hb;omega)
       have T9 : Tys w10 [33] (bss ++ [bl]).flatten := by
        have hh : (bss ++ [bl]).flatten = bss.flatten ++ bl := by simp
        rw [hh];refine ((((HT.out.chg CC6 (fun b hb h => by have h : b = sb := h;have := (HG.out.lo b hb).1;omega)).app (tyl.ext E6)).chg (.of_grown gr9) (fun b hb h => ?_)).chg ch10 (fun b hb h => ?_))
        · rcases List.mem_append.1 hb with hb | hb
          · exact (HG.out.lo b hb).2 h.symm
          · have := own_lt hrow b h.symm;have := lol b hb;omega
        · have h : b = _ := h
          rcases List.mem_append.1 hb with hb | hb
          · have := (HG.out.lo b hb).1;omega
          · have := lol b hb;omega
       have S9 := (((S5.ext E6).chg (.of_grown gr9) (fun b hb => by have := jas row5 b hb.symm;omega)).chg ch10 (fun b hb => by have hb : b = _ := hb;omega)).mono (show K + 2 + i * 5000 + 6 + 4000 ≤ K + 2 + (i + 1) * 5000 by omega);have C9 := ((C5.trans (.of_ext E6)).late (.of_grown gr9) (fun b hb => by left;have := jas row5 b hb.symm;omega)).late ch10 (fun b hb => by left;have hb : b = _ := hb;omega);have Z9 : HB w10 w.heap.size #[.slice none 0 0] 38 := ((Z5.ext E6).chg (.of_grown gr9) (fun h => by have := jas row5 _ h.symm;omega)).chg ch10 (fun h => by omega);exact ⟨i + 1,c9,L ++ [((0 : Int),inn,O,ws,bs,())],some ⟨g9,0,none⟩,_,_,by omega,by rw [lastO_snoc];rfl,by go_num,by rw [Hid,List.length_append,HL.out];rfl,b11,Z9,H9,T9,G10,S9,C9,by have := gr9.size;have := ch10.size;omega⟩
      case measure => simp [intOf];omega
  · obtain rfl : M = i := by omega
    have hB0 := B0.lt;have g2 := B1.cell 0 rfl;have g1 := B0.cell 0 rfl;have g3 := B0.froz 0;go_wp2;refine bodyPost_ret (v := .agg #[.slice q M c]) (by simp [results,Try.results55,go_sem,g1,g3]) rfl ?_;have ch := jbc wr w.heap.size 0 (.slice q M c);have HLo := HL.out;subst HLo;exact ⟨i0,L,q,c,rfl,HQ.out,hM1.1,hM1.2,⟨w1.heap.size,cs,bss,by omega,by have := ch.size;omega,HG.out.chgB ch (fun b hb => by have hb : b = _ := hb;omega),HT.out.chg ch (fun b hb h => by have h : b = _ := h;have := (HG.out.lo b hb).1;omega)⟩,(S.chg ch (fun b hb => by have hb : b = _ := hb;omega)).mono (by omega),C.late ch (fun b hb => by left;have hb : b = _ := hb;omega)⟩
def GotMT (w : World) (e : Ending) (w' : World) : Prop :=
 ∃ (L : List jac.T) (q : Option Addr) (c : Nat),e = .returned (.agg #[.slice q L.length c]) ∧ modB L = true ∧ tapeB L = true ∧ Fit (.sl jac) L ∧ IsOwnY [41,33] w.heap.size (.sl jac) w' [.slice q L.length c] L ∧ Ext w w'
theorem R8Model_any (p : Option Addr) (n c : Nat) (bs : List Nat) (w : World) (hc : Cs w p (u8s bs)) (hl : bs.length = n) (hn : n ≤ 1048576) (hb : ∀ b ∈ bs,b < 256) : Calls Try.prog 16 #[.slice p n c] w (GotMT w) := by
 obtain ⟨W0,hW0⟩ : ∃ W0,W0 = w.alloc (.cells #[.slice none 0 0] 38) := ⟨_,rfl⟩;have E0 : Ext w W0 := by rw [hW0];exact Ext.alloc _ _
 have b0 : HB W0 w.heap.size #[.slice none 0 0] 38 := by rw [hW0];exact HB.new _ _ _
 have s0 := b0.lt;go_enter Try.func16,Try.ntmps16;go_wp2_with fail;rw [← hW0];clear hW0;refine (l00From_any p n c bs W0 (hc.ext E0) hl hn hb).mono ?_;rintro e w1 ⟨rfl,src,e1⟩
 have hsz := e1.size;have hlt0 := src.lt;go_wp2_with fail;refine (jbp W0.heap.size 0 4 w1 src (by omega) (by omega)).mono ?_;rintro e w2 ⟨x,rfl,hx,_,src2,c2⟩
 have hx := hx (by omega);go_wp2_with fail;refine (l03DrawSomeK_any W0.heap.size (0 + 2) (1 + (x : Int)) 3 w2 src2 (by omega) (by omega) (by omega)).mono ?_;intro e w3 h;have hz2 := c2.size;obtain ⟨i0,L,q,c3,rfl,hG,h1,h2,⟨B,cs,bss,hB,hB2,G,T⟩,_,C⟩ := h;have ce := (chg_new e1 (c2.trans C) (Nat.le_refl _));have hE3 := E0.trans ce;have B2 := b0.ext ce;have r0 := B2.cell 0 rfl;have f0 := B2.froz 0
 have hmod : modB L = true := by
  unfold modB;simp only [Bool.and_eq_true,decide_eq_true_eq];exact ⟨h1,by omega,hG.1.1⟩
 have htp : tapeB L = true := by
  unfold tapeB;rw [List.all_eq_true];intro d hd;have := hG.2 d hd;simp only [decide_eq_true_eq];exact kd_3 _ this.1 this.2
 have ho := hid ((G.ownY (ts := [41,33]) (T.mono (by simp)) (by simp)));have hM := hid hmod;have hT := hid htp;have hF := hid hG.1.2.2.2;clear hmod htp hG G T;go_wp2;refine bodyPost_ret (v := .agg #[.slice q L.length c3]) (by simp [results,Try.results16,go_sem,r0,f0]) rfl ?_;have ch := jbc w3 w.heap.size 0 (.slice q L.length c3);exact ⟨L,q,c3,rfl,hM.out,hT.out,hF.out,(IsOwnY.chg ho.out ch (fun b hb => by have hb : b = _ := hb;omega)).base (by omega),hE3.chg ch (fun b hb => by have hb : b = _ := hb;omega)⟩
structure Nx (w : World) (v : Value) (m : Nat) (us : List Value) (l : List (List Nat)) : Prop where
 at' : ∀ i,i < m → ∃ q c vs,us[i]? = some (.slice q (l.getD i []).length c) ∧ Cs w q vs ∧ F32s vs (l.getD i []) ∧ (l.getD i []).length ≤ c ∧ (vs ≠ [] → ∀ b,v.ownBlock = some b → (adr q 0).block ≠ b)
 len : l.length = m
 cnt : us.length = m
theorem Nx.ext {w w' : World} {v : Value} {m : Nat} {us : List Value} {l : List (List Nat)} (h : Nx w v m us l) (e : Ext w w') : Nx w' v m us l :=
 ⟨fun i hi => by obtain ⟨q,c,vs,h1,h2,h3,h4,h5⟩ := h.at' i hi;exact ⟨q,c,vs,h1,h2.ext e,h3,h4,h5⟩,h.len,h.cnt⟩
theorem Nx.nil {w : World} {v : Value} : Nx w v 0 [] [] := ⟨fun i hi => by omega,rfl,rfl⟩
theorem Nx.snoc {w w' : World} {v : Value} {m : Nat} {us : List Value} {l : List (List Nat)} (h : Nx w v m us l) {q : Option Addr} {k c : Nat} {vs : List Value} {x : List Nat} (hk : x.length = k) (hc : Cs w q vs) (hf : F32s vs x) (hkc : k ≤ c)
 (hn : vs ≠ [] → ∀ b,v.ownBlock = some b → (adr q 0).block ≠ b) {g c9 : Nat} (gr : w.grownBy w' v.ownBlock) (hg : v.ownBlock = some g ∨ w.heap.size ≤ g) : Nx w' (.slice (some ⟨g,0,none⟩) (m + 1) c9) (m + 1) (us ++ [.slice q k c]) (l ++ [x]) := by
 subst hk
 have keep : ∀ {p : Option Addr} {ws : List Value},Cs w p ws → (ws ≠ [] → ∀ b,v.ownBlock = some b → (adr p 0).block ≠ b) → Cs w' p ws ∧ (ws ≠ [] → ∀ b,(Value.slice (some ⟨g,0,none⟩) (m + 1) c9).ownBlock = some b → (adr p 0).block ≠ b) := by
  intro p ws h1 h2;refine ⟨h1.keep fun h3 => gr.block _ (h1.blk h3) (fun hh => h2 h3 _ hh.symm rfl),fun h3 b hb => ?_⟩;simp [Value.ownBlock] at hb;subst hb;rcases hg with hg | hg
  · exact h2 h3 _ hg
  · have := h1.blk h3;omega
 refine ⟨fun i hi => ?_,by rw [List.length_append,h.len];rfl,by rw [List.length_append,h.cnt];rfl⟩
 by_cases hm : i < m
 · obtain ⟨p,d,ws,h1,h2,h3,h4,h5⟩ := h.at' i hm
   have e : (l ++ [x]).getD i [] = l.getD i [] := by rw [List.getD_eq_getElem?_getD,List.getD_eq_getElem?_getD,List.getElem?_append_left (by rw [h.len];exact hm)]
   obtain ⟨k1,k2⟩ := keep h2 h5;rw [e];exact ⟨p,d,ws,by rw [List.getElem?_append_left (by rw [h.cnt];exact hm)];exact h1,k1,h3,h4,k2⟩
 · obtain rfl : i = m := by omega
   have e : (l ++ [x]).getD i [] = x := by rw [List.getD_eq_getElem?_getD,List.getElem?_append_right (by rw [h.len];exact Nat.le_refl _),h.len,Nat.sub_self];rfl
   obtain ⟨k1,k2⟩ := keep hc hn;rw [e];exact ⟨q,c,vs,by rw [List.getElem?_append_right (by rw [h.cnt];exact Nat.le_refl _),h.cnt,Nat.sub_self];rfl,k1,hf,hkc,k2⟩
theorem Fls.tail {w : World} {p : Option Addr} {n c : Nat} {us : List Value} {l : List (List Nat)} (h : Fls w p n us l) (h1 : 1 ≤ n) (hc : n ≤ c) : Cs w (subp p 1 1 c) (us.drop 1) := by
 have := h.cs.sub (s := 1) (l := 1) (hi := n) (c := c) h1 hc
 rwa [Nat.mul_one,Nat.mul_one,List.take_of_length_le (by rw [h.cnt];exact Nat.le_refl _)] at this
theorem layD_le {d : jac.T} (h : layD d = true) : d.2.2.2.1.length ≤ 64 ∧ d.2.2.2.2.1.length ≤ 8 := by
 obtain ⟨k,i,o,a,b,u⟩ := d;unfold layD layB at h;dsimp only at h ⊢;simp only [Bool.and_eq_true,jar,decide_eq_true_eq] at h;obtain ⟨h1,h2,h3,_,h5,h6⟩ := h;have hm := mul_bd h2 h3
 have key : ∀ (k i o : Int) (x y : Nat),0 ≤ i * o ∧ i * o ≤ 64 → 1 ≤ i ∧ i ≤ 8 → 1 ≤ o ∧ o ≤ 8 → (x : Int) = wCnt k i o → (y : Int) = bCnt k i o → x ≤ 64 ∧ y ≤ 8 := by
  intro k i o x y h1 h2 h3 h4 h5;unfold wCnt at h4;unfold bCnt at h5
  split at h4 <;> split at h5 <;> (try split at h4) <;> (try split at h5) <;> (try split at h4) <;> (try split at h5) <;> omega
 exact key k i o _ _ hm h2 h3 h5 h6
theorem modGo_allS : ∀ {p : Option Int} {l : List jac.T},modGo p l = true → ∀ d ∈ l,layD d = true
 | _,[],_,d,hd => by simp at hd
 | p,x :: l,h,d,hd => by
   simp only [modGo,Bool.and_eq_true] at h;rcases List.mem_cons.1 hd with rfl | hd
   · exact h.1
   · exact modGo_allS h.2.2 d hd
theorem parF_small : ∀ {l : List jac.T},(∀ d ∈ l,layD d = true) → (parF l).length ≤ 72 * l.length
 | [],_ => by simp [parF]
 | d :: l,h => by
   have h1 := layD_le (h d (by simp));have h2 := parF_small (l := l) fun x hx => h x (by simp [hx])
   have : parF (d :: l) = ((d.2.2.2.1 : List Nat) ++ d.2.2.2.2.1) ++ parF l := by simp [parF]
   rw [this,List.length_append,List.length_append,List.length_cons];omega
theorem modB_par {l : List jac.T} (h : modB l = true) : (parF l).length ≤ 432 := by
 unfold modB at h;simp only [Bool.and_eq_true,decide_eq_true_eq] at h;have := parF_small (modGo_allS h.2.2);omega
end Go.Proofs.Ytmbckkcgiafagaa
namespace Go.Proofs.Ytmbckkcgiafagaa.lReduceLists
open Go.RowKit
section
variable {P : Program} {w : World} {ops : Array Oper} {rest : List Oper} {o1 o2 : Oper} {a : Act} {Q : Exit → Act → World → Prop}
theorem wl_idxloadW {t e b : Nat} {z : Value} [SlTy P t e 1 z b] [Cell1 P e] {x ix : Operand} {d : Tmp} (hw1 : Region.wanted o1 (yielded ops a.tmps) = true) (ho1 : o1.op = .indexAddr t x ix) (hw2 : ∀ y,Region.wanted o2 (yielded ops (a.put o1.dst y).tmps) = true) (ho2 : o2.op = .load e (.tmp d))
 {p : Option Addr} {n c : Nat} {k : IntKind} {i : Int} {j : Nat} (hd : ∀ y,(a.put o1.dst y).eval (.tmp d) = y)
 (hx : a.eval x = .slice p n c) (hi : a.eval ix = .int k i) (hij : i = j) {vs : List Value} (hc : Cs w p vs) (hvn : vs.length = n) (hn : j < n) {u : Value} (hu : vs[j]? = some u)
 (h : wpList P ops Q rest ((a.put o1.dst (.pointer (some (adr p j)))).put o2.dst u) w) : wpList P ops Q (o1 :: o2 :: rest) a w := by
 subst hij;have hp : p.isSome = true := hc.isS (by intro h0;rw [h0] at hu;simp at hu);refine wl_valueW hw1 (w' := w) (v := .pointer (some (adr p j))) (by simp [execOp,ho1,hx,hi,run_indexAt (P := P) (t := t) (s := 1) hp (show (0 : Int) ≤ (j : Int) by omega) (show (j : Int) < n by omega)]) ?_;exact wl_valueW (hw2 _) (by simp [execOp,ho2,hd,jce (hc.cell _ _ hu)]) h
end
def len0 (D : List (List Nat)) : Nat := (D.getD 0 []).length
def evenB (D : List (List Nat)) : Bool := !anyTo (fun i => !decide ((D.getD i []).length = len0 D)) D.length
def okR (k : Int) (D : List (List Nat)) : Prop := inB k 0 2 = true ∧ 1 ≤ D.length ∧ D.length ≤ 8 ∧ len0 D ≤ 512 ∧ evenB D = true
instance (k : Int) (D : List (List Nat)) : Decidable (okR k D) := by unfold okR;infer_instance
end Go.Proofs.Ytmbckkcgiafagaa.lReduceLists
namespace Go.Proofs.Ytmbckkcgiafagaa
open Go.RowKit
theorem widen_lt {a : Nat} (na : (FloatKind.f32.decode a).isNaN = false) : jbr .f32 a .f64 < 18446744073709551616 := by
 have ho := jcg a
 have key : jbr .f32 a .f64 = Ieee.double.write (Ieee.single.read a) := by
  have hne : ¬ (FloatKind.f32 = FloatKind.f64) := by decide
  unfold fover at ho;rw [na] at ho;simp only [Bool.not_false,Bool.true_and] at ho;unfold jbr
  cases h : floatToFloatBits .f32 a .f64 with
  | none => rw [h] at ho;cases ho
  | some r =>
    simp only [floatToFloatBits,hne,if_false] at h
    split at h
    · cases h
    · rename_i hd;cases h;show _ = Ieee.double.write (FloatKind.f32.decode a);rw [hd];rfl
    · rename_i hd
      split at h
      · cases h
      · cases h;show _ = Ieee.double.write (FloatKind.f32.decode a);rw [hd];rfl
 rw [key];exact Ieee.double.write_lt _
theorem same_e (a b : Nat) (w : World) (h : cn .f32 a = cn .f32 b) : Calls Try.prog 14 #[.float .f32 a,.float .f32 b] w fun e w' => e = .returned (.bool true) ∧ w' = w := by
 by_cases hna : (FloatKind.f32.decode a).isNaN = true
 · have h1 : (FloatKind.f32.format.order a a != some .eq) = true := by rw [order_nan hna];rfl
   have hnb : (FloatKind.f32.decode b).isNaN = true := (isNaN_of_cn h).symm.trans hna;have h2 : (FloatKind.f32.format.order b b != some .eq) = true := by rw [order_nan hnb];rfl
   clear h hna hnb;go_enter Try.func14,Try.ntmps14;go_wp2;go_ret;exact ⟨rfl,rfl⟩
 · have hna' : (FloatKind.f32.decode a).isNaN = false := by simpa using hna
   have hnb' : (FloatKind.f32.decode b).isNaN = false := (isNaN_of_cn h).symm.trans hna';rw [jcs hna',jcs hnb'] at h;subst h;have h1 : (FloatKind.f32.format.order a a != some .eq) = false := by rw [order_self hna'];rfl
   have h4 : (FloatKind.f32.format.order a a == some .eq) = true := by rw [order_self hna'];rfl
   have ca := widen_some hna';have va := fun w => run_convert_float_float w 33 83 .f32 .f64 a _ (by rw [jb2];rfl) jb0 ca
   have Ha := fun w => Signbit_any (jbr .f32 a .f64) w (widen_lt hna')
   generalize jbr .f32 a .f64 = x at *;clear hna hna' hnb' ca;generalize decide (9223372036854775808 ≤ x) = p at *;go_enter Try.func14,Try.ntmps14;go_wp2_with fail;refine (Ha _).mono ?_;rintro e w1 ⟨rfl,rfl⟩
   go_wp2_with fail;refine (Ha _).mono ?_;rintro e w1 ⟨rfl,rfl⟩
   go_wp2;go_ret;exact ⟨by simp,rfl⟩
end Go.Proofs.Ytmbckkcgiafagaa
