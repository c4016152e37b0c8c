/- A part of the proofs: TnWt, TnWg. -/
import Derived.Test.YtmbckkcgiafagaaTnMeFnMo
import Derived.Test.YtmbckkcgiafagaaZ07FnMode
import Derived.Test.YtmbckkcgiafagaaZ11FnMode
import Derived.Test.YtmbckkcgiafagaaZ02FnMode
import Derived.Test.YtmbckkcgiafagaaZ06FnMode
set_option linter.unusedSimpArgs false
set_option linter.unusedVariables false
set_option maxRecDepth 100000
set_option maxHeartbeats 16000000
namespace Go.Proofs.Ytmbckkcgiafagaa
open Go.RowKit
def opD (o : shOp.T) : List Nat := o.2.2.2.2.1.2.2.1
def wData (ops : List shOp.T) (ws : List Int) : List Nat := (ws.map fun z => opD (ops.getD z.toNat o0)).flatten
theorem wData_app {ops more : List shOp.T} {ws : List Int} (h : ∀ z ∈ ws,0 ≤ z ∧ z < (ops.length : Int)) : wData (ops ++ more) ws = wData ops ws := by
 unfold wData
 congr 1
 refine List.map_congr_left fun z hz => ?_
 have := h z hz;rw [getD_appl _ _ _ _ (by omega)]
theorem wData_more (ops : List shOp.T) (ws vs : List Int) : wData ops (ws ++ vs) = wData ops ws ++ wData ops vs := by simp [wData]
theorem mtStep_data {l : jac.T} {s : Mt} (h : ∀ z ∈ s.2.1,0 ≤ z ∧ z < (s.1.length : Int)) (hk : l.1 = 0 ∨ l.1 = 1 ∨ l.1 = 2) (hl : layD l = true) :
 wData (ja6 l s).1 (ja6 l s).2.1 = wData s.1 s.2.1 ++ ((l.2.2.2.1 : List Nat) ++ l.2.2.2.2.1) ∧ ∀ z ∈ (ja6 l s).2.1,0 ≤ z ∧ z < ((ja6 l s).1.length : Int) := by
 obtain ⟨ops,ws,j⟩ := s;obtain ⟨k,i,o,W,Bs,u⟩ := l;dsimp only at h hk ⊢;unfold layD layB at hl;dsimp only at hl;simp only [Bool.and_eq_true,jar,decide_eq_true_eq] at hl;obtain ⟨_,_,_,_,h5,h6⟩ := hl;unfold ja6;dsimp only;rcases hk with rfl | rfl | rfl
 · rw [if_pos rfl]
   refine ⟨?_,fun z hz => ?_⟩
   · dsimp only
     rw [wData_more,wData_app h]
     congr 1
     simp only [wData,List.map_cons,List.map_nil,List.flatten_cons,List.flatten_nil,Int.toNat_natCast,List.append_nil];rw [jbj _ _ _ _ (Nat.le_refl _),jbj _ _ _ _ (Nat.le_succ _),Nat.sub_self,show ops.length + 1 - ops.length = 1 by omega];rfl
   · dsimp only at hz ⊢
     rw [List.mem_append] at hz;rw [List.length_append];rcases hz with hz | hz
     · have := h z hz;simp only [List.length_cons,List.length_nil];omega
     · simp only [List.mem_cons,List.not_mem_nil,or_false] at hz;simp only [List.length_cons,List.length_nil];omega
 · rw [if_neg (by decide),if_pos rfl]
   have hW : W = [] := by
    unfold wCnt at h5;rw [if_neg (by decide)] at h5
    simpa using h5
   have hB : Bs = [] := by
    unfold bCnt at h6
    simpa using h6
   subst hW;subst hB;refine ⟨?_,fun z hz => ?_⟩
   · dsimp only
     rw [wData_app h];simp
   · dsimp only at hz ⊢
     have := h z hz;rw [List.length_append];simp only [List.length_cons,List.length_nil];omega
 · rw [if_neg (by decide),if_neg (by decide)]
   have hB : Bs = [] := by
    unfold bCnt at h6
    simpa using h6
   subst hB;refine ⟨?_,fun z hz => ?_⟩
   · dsimp only
     rw [wData_more,wData_app h]
     congr 1
     simp only [wData,List.map_cons,List.map_nil,List.flatten_cons,List.flatten_nil,Int.toNat_natCast,List.append_nil];rw [jbj _ _ _ _ (Nat.le_refl _),Nat.sub_self];rfl
   · dsimp only at hz ⊢
     rw [List.mem_append] at hz;rw [List.length_append];rcases hz with hz | hz
     · have := h z hz;simp only [List.length_cons,List.length_nil];omega
     · simp only [List.mem_cons,List.not_mem_nil,or_false] at hz;simp only [List.length_cons,List.length_nil];omega
theorem mtTo_data {L : List jac.T} (hm : ModOk L) (ht : tapeB L = true) (x y : jaa.T) : ∀ i,i ≤ L.length → wData (mtTo L x y i).1 (mtTo L x y i).2.1 = parF (L.take i) ∧ ∀ z ∈ (mtTo L x y i).2.1,0 ≤ z ∧ z < ((mtTo L x y i).1.length : Int)
 | 0,_ => by simp [mtTo,wData,parF]
 | i + 1,hi => by
   have hil : i < L.length := by omega
   obtain ⟨h1,h2⟩ := mtTo_data hm ht x y i (by omega);have hk : (L[i].1 : Int) = 0 ∨ (L[i].1 : Int) = 1 ∨ (L[i].1 : Int) = 2 := by simpa using List.all_eq_true.1 ht L[i] (List.getElem_mem _)
   have hs : mtTo L x y (i + 1) = ja6 L[i] (mtTo L x y i) := by simp [mtTo,List.getD_eq_getElem?_getD,hil]
   obtain ⟨k1,k2⟩ := mtStep_data h2 hk (hm.lay i hil);rw [hs];exact ⟨by rw [k1,h1,parF_take hil],k2⟩
theorem mtape_data {L : List jac.T} (hm : ModOk L) (ht : tapeB L = true) (x y : jaa.T) (z : Nat) : wData (mtape L x y z) (jcf L x y) = parF L := by
 obtain ⟨h1,h2⟩ := mtTo_data hm ht x y L.length (Nat.le_refl _);rw [List.take_length] at h1;unfold mtape jcf mtEnd;rw [wData_app h2,h1]
def InpW (ops : List shOp.T) (ws : List Int) : Prop := ∀ z ∈ ws,0 ≤ z ∧ z < (ops.length : Int) ∧ (ops.getD z.toNat o0).1 = 0
theorem InpW.app {ops : List shOp.T} {ws : List Int} (h : InpW ops ws) (more : List shOp.T) : InpW (ops ++ more) ws := by
 intro z hz;obtain ⟨a,b,c⟩ := h z hz;refine ⟨a,by rw [List.length_append];omega,?_⟩;rw [getD_appl _ _ _ _ (by omega)];exact c
theorem mtStep_inp {l : jac.T} {s : Mt} (h : InpW s.1 s.2.1) : InpW (ja6 l s).1 (ja6 l s).2.1 := by
 obtain ⟨ops,ws,j⟩ := s;unfold ja6;dsimp only at h ⊢
 split
 · intro z hz
   dsimp only at hz ⊢;rw [List.mem_append] at hz;rcases hz with hz | hz
   · exact h.app _ z hz
   · simp only [List.mem_cons,List.not_mem_nil,or_false] at hz
     rw [List.length_append];rcases hz with rfl | rfl
     · refine ⟨by omega,by simp only [List.length_cons];omega,?_⟩
       rw [jbj _ _ _ _ (by omega),Int.toNat_natCast,Nat.sub_self];rfl
     · refine ⟨by omega,by simp only [List.length_cons];omega,?_⟩
       rw [jbj _ _ _ _ (by omega),Int.toNat_natCast,show ops.length + 1 - ops.length = 1 by omega];rfl
 · split
   · exact h.app _
   · intro z hz
     dsimp only at hz ⊢;rw [List.mem_append] at hz;rcases hz with hz | hz
     · exact h.app _ z hz
     · simp only [List.mem_cons,List.not_mem_nil,or_false] at hz
       rw [List.length_append];subst hz;refine ⟨by omega,by simp only [List.length_cons];omega,?_⟩;rw [jbj _ _ _ _ (by omega),Int.toNat_natCast,Nat.sub_self];rfl
theorem mtTo_inp (L : List jac.T) (x y : jaa.T) : ∀ i,InpW (mtTo L x y i).1 (mtTo L x y i).2.1
 | 0 => by intro z hz;simp [mtTo] at hz
 | i + 1 => by simp only [mtTo];exact mtStep_inp (mtTo_inp L x y i)
theorem mtape_inp (L : List jac.T) (x y : jaa.T) (z : Nat) : InpW (mtape L x y z) (jcf L x y) := by
 unfold mtape jcf mtEnd;exact (mtTo_inp L x y L.length).app _
theorem flatW_data {sh : Nat → Nat × Nat} {ops : List shOp.T} (hT : jbz sh ops) (h1 : 1 ≤ ops.length) : ∀ ws : List Int,InpW ops ws → (jbq ops ws).length = (wData ops ws).length
 | [],_ => by simp [jbq,wData]
 | z :: ws,h => by
   have ih := flatW_data hT h1 ws (fun x hx => h x (by simp [hx]));obtain ⟨z0,z1,z2⟩ := h z (by simp);have hzl : z.toNat < ops.length := by omega
   obtain ⟨xs,e,l⟩ := grads_shaped hT h1 hzl;have hok := hT.ok z.toNat hzl
   have hd : (opD (ops.getD z.toNat o0)).length = (sh z.toNat).1 * (sh z.toNat).2 := by
    generalize ops.getD z.toNat o0 = o at *
    cases hok with
    | inp r c xs hl hs => rw [hs];exact hl
    | _ => exact absurd z2 (by simp [mkOp])
   simp only [jbq,wData,List.map_cons,List.flatten_cons,List.length_append] at ih ⊢;rw [ih,hd,e];simp only [tn];rw [l]
def partL (xs : List Nat) (a n C : Nat) : List Nat := (xs.take ((a + n) * C)).drop (a * C)
def wTape (L : List jac.T) (K : Nat) (xs : List Nat) (K2 : Nat) (ys : List Nat) (a c z : Nat) : List shOp.T := mtape L ((c : Int),(K : Int),partL xs a c K,()) ((c : Int),(K2 : Int),partL ys a c K2,()) z
def wWts (L : List jac.T) (K : Nat) (xs : List Nat) (K2 : Nat) (ys : List Nat) (a c : Nat) : List Int := wtsOf L c K (partL xs a c K) c K2 (partL ys a c K2)
structure WgOwn (w' : World) (B : Nat) (Ls : List (List Nat)) (ys : List Nat) (v : Value) (q : Option Addr) (n c : Nat) (css : List (List Value)) (bss : List (List Nat)) (vs : List Value) : Prop where
 ls : GrowOwn w' B 25 (.sl .flt) v Ls css bss
 fs : w'.ownsRow B 33 1 (.slice q n c) n vs
 fl : F32s vs ys
 ne : ∀ b,(Value.slice q n c).ownBlock = some b → v.ownBlock ≠ some b ∧ b ∉ bss.flatten
theorem WgOwn.ext {w w' : World} {B : Nat} {Ls : List (List Nat)} {ys : List Nat} {v : Value} {q : Option Addr} {n c : Nat} {css : List (List Value)} {bss : List (List Nat)} {vs : List Value} (h : WgOwn w B Ls ys v q n c css bss vs) (e : Ext w w') : WgOwn w' B Ls ys v q n c css bss vs :=
 ⟨h.ls.ext e,jah h.fs e,h.fl,h.ne⟩
theorem WgOwn.base {w : World} {B B' : Nat} {Ls : List (List Nat)} {ys : List Nat} {v : Value} {q : Option Addr} {n c : Nat} {css : List (List Value)} {bss : List (List Nat)} {vs : List Value} (h : WgOwn w B Ls ys v q n c css bss vs) (hB : B' ≤ B) : WgOwn w B' Ls ys v q n c css bss vs :=
 ⟨⟨jak h.ls.row hB,h.ls.els,h.ls.nodup,fun b hb => ⟨Nat.le_trans hB (h.ls.lo b hb).1,(h.ls.lo b hb).2⟩⟩,jak h.fs hB,h.fl,h.ne⟩
end Go.Proofs.Ytmbckkcgiafagaa
