/- A part of the proofs: RgT, Tp2, Tp3, Tp4, TnI8. -/
import Derived.Test.YtmbckkcgiafagaaZ15FnMode
import Derived.Test.YtmbckkcgiafagaaZ03FnMode
import Derived.Test.YtmbckkcgiafagaaZ13FnMode
import Derived.Test.YtmbckkcgiafagaaZ06FnMode
set_option linter.unusedSimpArgs false
set_option linter.unusedVariables false
set_option maxRecDepth 100000
set_option maxHeartbeats 16000000
namespace Go.Proofs.Ytmbckkcgiafagaa
open Go.RowKit
theorem put_comm {a : Act} {i j : Tmp} (h : i ≠ j) (u v : Value) : (a.put (some i) u).put (some j) v = (a.put (some j) v).put (some i) u := by
 simp [Act.put,Array.setIfInBounds_comm _ _ h]
section
variable {P : Program} {ops : Array Oper} {Q : Exit → Act → World → Prop} {S : World → Prop} {a : Act} {w : World}
def twoB (ops : Array Oper) (listed : Array Bool) (k l : Nat) : Bool :=
 Region.ready .any ops listed == [k,l] && k != ops.size - 1 && l != ops.size - 1 && Region.ready .any ops (listed.setIfInBounds k true) == [l] && Region.ready .any ops (listed.setIfInBounds l true) == [k] && k != l
theorem hs_two {n k l dk dl : Nat} {listed : Array Bool} {ok ol : Oper} {tk tl : TypeId} {Zk Zl : Array Value} (hB : twoB ops listed k l = true) (hok : ops[k]? = some ok) (hol : ops[l]? = some ol) (hgk : ok.guard = none) (hgl : ol.guard = none)
 (hdk : ok.dst = some dk) (hdl : ol.dst = some dl) (hd : dk ≠ dl)
 (hrk : ∀ (W : World) (b : Act),(execOp b.eval ok).run P W = .ok (.value (.pointer (some ⟨W.heap.size,0,none⟩))) (W.alloc (.cells Zk tk)))
 (hrl : ∀ (W : World) (b : Act),(execOp b.eval ol).run P W = .ok (.value (.pointer (some ⟨W.heap.size,0,none⟩))) (W.alloc (.cells Zl tl)))
 (hS : ∀ W,Ext w W → S W)
 (h : ∀ bk bl W,Ext w W → w.heap.size ≤ bk → w.heap.size ≤ bl → bk ≠ bl → HB W bk Zk tk → HB W bl Zl tl →
  wpT P ops Q S n ((listed.setIfInBounds k true).setIfInBounds l true) ((a.put (some dk) (.pointer (some ⟨bk,0,none⟩))).put (some dl) (.pointer (some ⟨bl,0,none⟩))) W) : wpT P ops Q S (n + 2) listed a w := by
 simp only [twoB,Bool.and_eq_true,beq_iff_eq,bne_iff_ne,ne_eq] at hB;obtain ⟨⟨⟨⟨⟨h1,h2⟩,h3⟩,h4⟩,h5⟩,h6⟩ := hB;refine ⟨by rw [h1];simp,fun i hi => ?_⟩;rw [h1] at hi;rcases List.mem_cons.1 hi with rfl | hi
 · refine ⟨h2,jcp hok hgk (hrk w a) ?_⟩
   rw [hdk];have e1 := Ext.alloc w (.cells Zk tk);refine ⟨hS _ e1,by rw [h4];simp,fun j hj => ?_⟩;rw [h4] at hj;obtain rfl : j = l := by simpa using hj
   refine ⟨h3,jcp hol hgl (hrl _ _) ?_⟩;rw [hdl];have e2 := Ext.alloc (w.alloc (.cells Zk tk)) (.cells Zl tl);exact ⟨hS _ (e1.trans e2),h _ _ _ (e1.trans e2) (Nat.le_refl _) (by simp) (by simp) ((HB.new w Zk tk).ext e2) (HB.new _ _ _)⟩
 · obtain rfl : i = l := by simpa using hi
   refine ⟨h3,jcp hol hgl (hrl w a) ?_⟩;rw [hdl];have e1 := Ext.alloc w (.cells Zl tl);refine ⟨hS _ e1,by rw [h5];simp,fun j hj => ?_⟩;rw [h5] at hj;obtain rfl : j = k := by simpa using hj
   refine ⟨h2,jcp hok hgk (hrk _ _) ?_⟩;rw [hdk];have e2 := Ext.alloc (w.alloc (.cells Zl tl)) (.cells Zk tk);have h7 := h _ _ _ (e1.trans e2) (by simp) (Nat.le_refl _) (by simp) (HB.new _ Zk tk) ((HB.new w Zl tl).ext e2);rw [Array.setIfInBounds_comm _ _ h6,put_comm hd] at h7;exact ⟨hS _ (e1.trans e2),h7⟩
theorem jaz {K : Act → World → Prop} {i : Nat} {o : Oper} {w' : World} (ho : ops[i]? = some o) (hg : o.guard = none) (hr : (execOp a.eval o).run P w = .ok .skip w') (h : K (a.put o.dst undef) w') : wpOp P ops Q i K a w := by
 unfold wpOp;simp only [ho];rw [if_pos (by simp [Region.wanted,hg])];refine .inl ?_;unfold Oper.wp;rw [hr];exact h
theorem jbi {n k : Nat} {listed : Array Bool} {o : Oper} {t e s b : Nat} {z : Value} [SlTy P t e s z b] {x ix : Operand} {p : Option Addr} {m c : Nat} {kk : IntKind} {i : Int} {j : Nat} (hB : takeB ops listed k = true) (ho : ops[k]? = some o) (hg : o.guard = none) (hQ : ∀ c a w,Q (.panic c) (a.put o.dst (.pointer (some (adr p (j * s))))) w → Q (.panic c) a w) (hS : S w)
 (hop : o.op = .indexAddr t x ix) (hx : a.eval x = .slice p m c) (hi : a.eval ix = .int kk i) (hij : i = j) (hp : p.isSome = true) (hm : j < m)
 (h : wpT P ops Q S n (listed.setIfInBounds k true) (a.put o.dst (.pointer (some (adr p (j * s))))) w) : wpT P ops Q S (n + 1) listed a w := by
 subst hij;exact jad _ hB ho hg hQ hS (fun W _ => by simp [execOp,hop,hx,hi,run_indexAt hp (show (0 : Int) ≤ (j : Int) by omega) (show (j : Int) < (m : Int) by omega)]) h
theorem jby {n k : Nat} {listed : Array Bool} {o : Oper} {t : TypeId} {s : Sh} [ElTy P t s] {x : Operand} {q : Addr} {cs : List Value} (hB : takeB ops listed k = true) (ho : ops[k]? = some o) (hg : o.guard = none) (hQ : ∀ c a w,Q (.panic c) (a.put o.dst (ofCs s cs)) w → Q (.panic c) a w) (hS : S w)
 (hop : o.op = .load t x) (hx : a.eval x = .pointer (some q)) (hl : cs.length = s.sz) (hc : ∀ W,S W → Cs W (some q) cs)
 (h : wpT P ops Q S n (listed.setIfInBounds k true) (a.put o.dst (ofCs s cs)) w) : wpT P ops Q S (n + 1) listed a w :=
 jad _ hB ho hg hQ hS (fun W hW => by simp [execOp,hop,hx,run_loadE (P := P) (t := t) (s := s) (hc W hW) hl]) h
end
abbrev shOp : Sh := .pr .int (.pr .int (.pr .int (.pr .flt (.pr jaa .un))))
def tn (r c : Nat) (xs : List Nat) : jaa.T := ((r : Int),(c : Int),xs,())
def t0 : jaa.T := (0,0,[],())
def opV (k : Nat) (z : Nat) (v w : jaa.T) : jaa.T :=
 match k with
 | 1 => (v.1,v.2.1,addX v.2.2.1.length v.2.2.1 w.2.2.1,())
 | 2 => (v.1,v.2.1,addRX v.2.2.1.length v.2.1.toNat v.2.2.1 w.2.2.1,())
 | 3 => (v.1,v.2.1,mulX v.2.2.1.length v.2.2.1 w.2.2.1,())
 | 4 => (v.1,v.2.1,mulRX v.2.2.1.length v.2.1.toNat v.2.2.1 w.2.2.1,())
 | 5 => (v.1,v.2.1,sclX v.2.2.1.length v.2.2.1 z,())
 | 6 => (v.1,w.2.1,mmX v.1.toNat v.2.1.toNat w.2.1.toNat v.2.2.1 w.2.2.1,())
 | 7 => (v.2.1,v.1,turnX v.1.toNat v.2.1.toNat v.2.2.1,())
 | 8 => (v.1,v.2.1,rluX v.2.2.1.length v.2.2.1,())
 | 9 => (v.1,v.2.1,mulX v.2.2.1.length v.2.2.1 v.2.2.1,())
 | _ => (1,1,[sumG (fun j => (v.2.2.1 : List Nat).getD j 0) v.2.2.1.length],())
def mkOp (k a b z : Nat) (t : jaa.T) : shOp.T := ((k : Int),(a : Int),(b : Int),z,t,())
def valT (o : shOp.T) (vs : List jaa.T) : jaa.T := if o.1 = 0 then o.2.2.2.2.1 else opV o.1.toNat o.2.2.2.1 (vs.getD o.2.1.toNat t0) (vs.getD o.2.2.1.toNat t0)
def o0 : shOp.T := (0,0,0,0,t0,())
def jb7 (ops : List shOp.T) : Nat → List jaa.T
 | 0 => []
 | i + 1 => jb7 ops i ++ [valT (ops.getD i o0) (jb7 ops i)]
theorem valsT_len (ops : List shOp.T) : ∀ i,(jb7 ops i).length = i
 | 0 => rfl
 | i + 1 => by simp [jb7,valsT_len ops i]
def vAt (ops : List shOp.T) (i : Nat) : jaa.T := (jb7 ops (i + 1)).getD i t0
theorem valsT_at (ops : List shOp.T) {j : Nat} : ∀ {i : Nat},j < i → (jb7 ops i).getD j t0 = vAt ops j
 | i + 1,h => by
   by_cases hj : j = i
   · subst hj;rfl
   · have h1 : j < i := by omega
     rw [← valsT_at ops h1];have h2 := valsT_len ops i;simp only [jb7];rw [getD_appl _ _ _ _ (by omega)]
inductive OpOk (sh : Nat → Nat × Nat) (i : Nat) : shOp.T → Prop
 | inp (r c : Nat) (xs : List Nat) : xs.length = r * c → sh i = (r,c) → OpOk sh i (mkOp 0 0 0 0 (tn r c xs))
 | add (a b : Nat) : a < i → b < i → sh b = sh a → sh i = sh a → OpOk sh i (mkOp 1 a b 0 t0)
 | addR (a b : Nat) : a < i → b < i → sh b = (1,(sh a).2) → sh i = sh a → OpOk sh i (mkOp 2 a b 0 t0)
 | mul (a b : Nat) : a < i → b < i → sh b = sh a → sh i = sh a → OpOk sh i (mkOp 3 a b 0 t0)
 | mulR (a b : Nat) : a < i → b < i → sh b = (1,(sh a).2) → sh i = sh a → OpOk sh i (mkOp 4 a b 0 t0)
 | scl (a z : Nat) : a < i → sh i = sh a → OpOk sh i (mkOp 5 a 0 z t0)
 | mm (a b : Nat) : a < i → b < i → (sh b).1 = (sh a).2 → sh i = ((sh a).1,(sh b).2) → OpOk sh i (mkOp 6 a b 0 t0)
 | turn (a : Nat) : a < i → sh i = ((sh a).2,(sh a).1) → OpOk sh i (mkOp 7 a 0 0 t0)
 | relu (a : Nat) : a < i → sh i = sh a → OpOk sh i (mkOp 8 a 0 0 t0)
 | sqr (a : Nat) : a < i → sh i = sh a → OpOk sh i (mkOp 9 a 0 0 t0)
 | sum (a : Nat) : a < i → sh i = (1,1) → OpOk sh i (mkOp 10 a 0 0 t0)
structure jbz (sh : Nat → Nat × Nat) (ops : List shOp.T) : Prop where
 ok : ∀ i,i < ops.length → OpOk sh i (ops.getD i o0)
 side : ∀ i,i < ops.length → 1 ≤ (sh i).1 ∧ (sh i).1 ≤ 16 ∧ 1 ≤ (sh i).2 ∧ (sh i).2 ≤ 16
 len : ops.length ≤ 48
def jbk (s : Nat × Nat) (t : jaa.T) : Prop := ∃ xs : List Nat,t = tn s.1 s.2 xs ∧ xs.length = s.1 * s.2
theorem valT_shaped {sh : Nat → Nat × Nat} {i : Nat} {o : shOp.T} {vs : List jaa.T} (h : OpOk sh i o) (hv : ∀ j,j < i → jbk (sh j) (vs.getD j t0)) : jbk (sh i) (valT o vs) := by
 have key : ∀ (a : Nat),a < i → ∃ xs : List Nat,vs.getD a t0 = tn (sh a).1 (sh a).2 xs ∧ xs.length = (sh a).1 * (sh a).2 := fun a ha => hv a ha
 cases h with
 | inp r c xs hl hs => exact ⟨xs,by rw [hs];rfl,by rw [hs];exact hl⟩
 | add a b ha hb h1 h2 =>
   obtain ⟨xs,e,l⟩ := key a ha;refine ⟨_,by rw [h2];simp only [valT,mkOp,Int.toNat_natCast,e];rfl,?_⟩;simp only [tn,addX,jaf];rw [h2];exact l
 | addR a b ha hb h1 h2 =>
   obtain ⟨xs,e,l⟩ := key a ha;refine ⟨_,by rw [h2];simp only [valT,mkOp,Int.toNat_natCast,e];rfl,?_⟩;simp only [tn,addRX,jaf];rw [h2];exact l
 | mul a b ha hb h1 h2 =>
   obtain ⟨xs,e,l⟩ := key a ha;refine ⟨_,by rw [h2];simp only [valT,mkOp,Int.toNat_natCast,e];rfl,?_⟩;simp only [tn,mulX,jaf];rw [h2];exact l
 | mulR a b ha hb h1 h2 =>
   obtain ⟨xs,e,l⟩ := key a ha;refine ⟨_,by rw [h2];simp only [valT,mkOp,Int.toNat_natCast,e];rfl,?_⟩;simp only [tn,mulRX,jaf];rw [h2];exact l
 | scl a z ha h2 =>
   obtain ⟨xs,e,l⟩ := key a ha;refine ⟨_,by rw [h2];simp only [valT,mkOp,Int.toNat_natCast,e];rfl,?_⟩;simp only [tn,sclX,jaf];rw [h2];exact l
 | mm a b ha hb h1 h2 =>
   obtain ⟨xs,e,l⟩ := key a ha;obtain ⟨ys,e',l'⟩ := key b hb;refine ⟨_,by rw [h2];simp only [valT,mkOp,Int.toNat_natCast,e,e'];rfl,?_⟩;simp only [tn,mmX,jaf,Int.toNat_natCast];rw [h2]
 | turn a ha h2 =>
   obtain ⟨xs,e,l⟩ := key a ha;refine ⟨_,by rw [h2];simp only [valT,mkOp,Int.toNat_natCast,e];rfl,?_⟩;simp only [tn,turnX,jaf,Int.toNat_natCast];rw [h2]
 | relu a ha h2 =>
   obtain ⟨xs,e,l⟩ := key a ha;refine ⟨_,by rw [h2];simp only [valT,mkOp,Int.toNat_natCast,e];rfl,?_⟩;simp only [tn,rluX,jaf];rw [h2];exact l
 | sqr a ha h2 =>
   obtain ⟨xs,e,l⟩ := key a ha;refine ⟨_,by rw [h2];simp only [valT,mkOp,Int.toNat_natCast,e];rfl,?_⟩;simp only [tn,mulX,jaf];rw [h2];exact l
 | sum a ha h2 => exact ⟨_,by rw [h2];rfl,by rw [h2];rfl⟩
theorem vals_shaped {sh : Nat → Nat × Nat} {ops : List shOp.T} (h : jbz sh ops) : ∀ i,i ≤ ops.length → ∀ j,j < i → jbk (sh j) ((jb7 ops i).getD j t0)
 | 0,_,j,hj => by omega
 | i + 1,hi,j,hj => by
   have ih := vals_shaped h i (by omega)
   by_cases hji : j = i
   · subst hji
     rw [show (jb7 ops (j + 1)).getD j t0 = valT (ops.getD j o0) (jb7 ops j) by
      have := valsT_len ops j;simp only [jb7];rw [jbj _ _ _ _ (by omega)];simp [this]]
     exact valT_shaped (h.ok j (by omega)) ih
   · have h1 : j < i := by omega
     rw [valsT_at ops hj,← valsT_at ops h1];exact ih j h1
theorem jck {sh : Nat → Nat × Nat} {ops : List shOp.T} (h : jbz sh ops) {i : Nat} (hi : i < ops.length) : jbk (sh i) (vAt ops i) := vals_shaped h (i + 1) (by omega) i (by omega)
theorem vAt_eq {ops : List shOp.T} (i : Nat) : vAt ops i = valT (ops.getD i o0) (jb7 ops i) := by
 have := valsT_len ops i;simp only [vAt,jb7];rw [jbj _ _ _ _ (by omega)];simp [this]
def tMul (a b : jaa.T) : jaa.T := (a.1,a.2.1,mulX a.2.2.1.length a.2.2.1 b.2.2.1,())
def tAdd (a b : jaa.T) : jaa.T := (a.1,a.2.1,addX a.2.2.1.length a.2.2.1 b.2.2.1,())
def tTurn (v : jaa.T) : jaa.T := (v.2.1,v.1,turnX v.1.toNat v.2.1.toNat v.2.2.1,())
def tMM (v w : jaa.T) : jaa.T := (v.1,w.2.1,mmX v.1.toNat v.2.1.toNat w.2.1.toNat v.2.2.1 w.2.2.1,())
def tFill (r c : Nat) (z : Nat) : jaa.T := tn r c (List.replicate (r * c) z)
def partA (k z : Nat) (g v w : jaa.T) : jaa.T :=
 match k with
 | 1 => g
 | 2 => g
 | 3 => tMul g w
 | 4 => (g.1,g.2.1,mulRX g.2.2.1.length g.2.1.toNat g.2.2.1 w.2.2.1,())
 | 5 => (g.1,g.2.1,sclX g.2.2.1.length g.2.2.1 z,())
 | 6 => tMM g (tTurn w)
 | 7 => tTurn g
 | 8 => (v.1,v.2.1,rpX v.2.2.1.length v.2.2.1 g.2.2.1,())
 | 9 => tMul g (tAdd v v)
 | _ => tFill v.1.toNat v.2.1.toNat ((g.2.2.1 : List Nat).getD 0 0)
def partB (k : Nat) (g v w : jaa.T) : jaa.T :=
 match k with
 | 1 => g
 | 2 => (1,g.2.1,sumRX g.2.1.toNat g.2.2.1,())
 | 3 => tMul g v
 | 4 => (1,g.2.1,sumRX g.2.1.toNat (tMul g v).2.2.1,())
 | 6 => tMM (tTurn v) g
 | _ => t0
def twoK (k : Nat) : Bool := k == 1 || k == 2 || k == 3 || k == 4 || k == 6
def giveG (gs : List (Option jaa.T)) (to : Nat) (p : jaa.T) : List (Option jaa.T) :=
 gs.set to (some (match gs.getD to none with | some q => tAdd q p | none => p))
def stepG (ops : List shOp.T) (i : Nat) (gs : List (Option jaa.T)) : List (Option jaa.T) :=
 match gs.getD i none with
 | none => gs
 | some g =>
   let o := ops.getD i o0
   if o.1 = 0 then gs else
   let v := vAt ops o.2.1.toNat
   let w := vAt ops o.2.2.1.toNat
   let gs1 := giveG gs o.2.1.toNat (partA o.1.toNat o.2.2.2.1 g v w)
   if twoK o.1.toNat then giveG gs1 o.2.2.1.toNat (partB o.1.toNat g v w) else gs1
def jcl : Nat := 1065353216
def jbe (ops : List shOp.T) : Nat → List (Option jaa.T)
 | 0 => (List.replicate ops.length none).set (ops.length - 1) (some (tFill (vAt ops (ops.length - 1)).1.toNat (vAt ops (ops.length - 1)).2.1.toNat jcl))
 | m + 1 => stepG ops (ops.length - 1 - m) (jbe ops m)
def zeroT (ops : List shOp.T) (j : Nat) : jaa.T := tFill (vAt ops j).1.toNat (vAt ops j).2.1.toNat 0
def gAt (ops : List shOp.T) (gs : List (Option jaa.T)) (j : Nat) : jaa.T := (gs.getD j none).getD (zeroT ops j)
def jca (ops : List shOp.T) : List jaa.T := (List.range ops.length).map (gAt ops (jbe ops ops.length))
theorem giveG_len (gs : List (Option jaa.T)) (to : Nat) (p : jaa.T) : (giveG gs to p).length = gs.length := by simp [giveG]
theorem stepG_len (ops : List shOp.T) (i : Nat) (gs : List (Option jaa.T)) : (stepG ops i gs).length = gs.length := by
 unfold stepG
 split
 · rfl
 · dsimp only
   split
   · rfl
   · split
     · exact (giveG_len _ _ _).trans (giveG_len _ _ _)
     · exact giveG_len _ _ _
theorem jcc (ops : List shOp.T) : ∀ m,(jbe ops m).length = ops.length
 | 0 => by simp [jbe]
 | m + 1 => by rw [jbe,stepG_len,jcc ops m]
def GsOk (sh : Nat → Nat × Nat) (gs : List (Option jaa.T)) : Prop := ∀ j t,gs.getD j none = some t → jbk (sh j) t
theorem tMul_shaped {s : Nat × Nat} {a : jaa.T} (b : jaa.T) (h : jbk s a) : jbk s (tMul a b) := by
 obtain ⟨xs,rfl,l⟩ := h;exact ⟨_,rfl,by simp only [tn,mulX,jaf];exact l⟩
theorem tAdd_shaped {s : Nat × Nat} {a : jaa.T} (b : jaa.T) (h : jbk s a) : jbk s (tAdd a b) := by
 obtain ⟨xs,rfl,l⟩ := h;exact ⟨_,rfl,by simp only [tn,addX,jaf];exact l⟩
theorem tTurn_shaped {s : Nat × Nat} {a : jaa.T} (h : jbk s a) : jbk (s.2,s.1) (tTurn a) := by
 obtain ⟨xs,rfl,l⟩ := h;exact ⟨_,rfl,by simp only [tn,turnX,jaf,Int.toNat_natCast]⟩
theorem tMM_shaped {s t : Nat × Nat} {a b : jaa.T} (h : jbk s a) (k : jbk t b) : jbk (s.1,t.2) (tMM a b) := by
 obtain ⟨xs,rfl,l⟩ := h;obtain ⟨ys,rfl,l'⟩ := k;exact ⟨_,rfl,by simp only [tn,mmX,jaf,Int.toNat_natCast]⟩
theorem tFill_shaped (r c z : Nat) : jbk (r,c) (tFill r c z) := ⟨_,rfl,by simp⟩
theorem partA_shaped {sh : Nat → Nat × Nat} {i : Nat} {o : shOp.T} {g v w : jaa.T} (h : OpOk sh i o) (hk : o.1 ≠ 0) (hg : jbk (sh i) g) (hv : jbk (sh o.2.1.toNat) v) (hw : twoK o.1.toNat = true → jbk (sh o.2.2.1.toNat) w) :
 jbk (sh o.2.1.toNat) (partA o.1.toNat o.2.2.2.1 g v w) := by
 cases h with
 | inp => exact absurd rfl hk
 | add a b ha hb h1 h2 => rw [h2] at hg;exact hg
 | addR a b ha hb h1 h2 => rw [h2] at hg;exact hg
 | mul a b ha hb h1 h2 => rw [h2] at hg;exact tMul_shaped _ hg
 | mulR a b ha hb h1 h2 =>
   rw [h2] at hg;obtain ⟨xs,rfl,l⟩ := hg;exact ⟨_,rfl,by simp only [tn,mulRX,jaf];exact l⟩
 | scl a z ha h2 =>
   rw [h2] at hg;obtain ⟨xs,rfl,l⟩ := hg;exact ⟨_,rfl,by simp only [tn,sclX,jaf];exact l⟩
 | mm a b ha hb h1 h2 =>
   rw [h2] at hg;have h3 := tMM_shaped hg (tTurn_shaped (hw rfl));have h4 : ((sh a).1,(sh b).1) = sh a := by rw [h1]
   exact h4 ▸ h3
 | turn a ha h2 => rw [h2] at hg;exact tTurn_shaped hg
 | relu a ha h2 =>
   obtain ⟨xs,rfl,l⟩ := hv;exact ⟨_,rfl,by simp only [tn,rpX,jaf];exact l⟩
 | sqr a ha h2 => rw [h2] at hg;exact tMul_shaped _ hg
 | sum a ha h2 =>
   obtain ⟨xs,rfl,l⟩ := hv;exact tFill_shaped _ _ _
theorem partB_shaped {sh : Nat → Nat × Nat} {i : Nat} {o : shOp.T} {g v w : jaa.T} (h : OpOk sh i o) (hk : twoK o.1.toNat = true) (hg : jbk (sh i) g) (hv : jbk (sh o.2.1.toNat) v) :
 jbk (sh o.2.2.1.toNat) (partB o.1.toNat g v w) := by
 cases h with
 | inp => cases hk
 | add a b ha hb h1 h2 => rw [h2,← h1] at hg;exact hg
 | addR a b ha hb h1 h2 =>
   rw [h2] at hg;obtain ⟨xs,rfl,l⟩ := hg;exact ⟨sumRX (sh a).2 xs,by rw [show sh (mkOp 2 a b 0 t0).2.2.1.toNat = (1,(sh a).2) from h1];rfl,by rw [show sh (mkOp 2 a b 0 t0).2.2.1.toNat = (1,(sh a).2) from h1];simp only [sumRX,jaf];omega⟩
 | mul a b ha hb h1 h2 => rw [h2,← h1] at hg;exact tMul_shaped _ hg
 | mulR a b ha hb h1 h2 =>
   rw [h2] at hg;obtain ⟨xs,rfl,l⟩ := hg;exact ⟨sumRX (sh a).2 (tMul (tn (sh a).1 (sh a).2 xs) v).2.2.1,by rw [show sh (mkOp 4 a b 0 t0).2.2.1.toNat = (1,(sh a).2) from h1];rfl,by rw [show sh (mkOp 4 a b 0 t0).2.2.1.toNat = (1,(sh a).2) from h1];simp only [sumRX,jaf];omega⟩
 | scl => cases hk
 | mm a b ha hb h1 h2 =>
   rw [h2] at hg;have h3 := tMM_shaped (tTurn_shaped hv) hg;have h4 : ((sh a).2,(sh b).2) = sh b := by rw [← h1]
   exact h4 ▸ h3
 | turn => cases hk
 | relu => cases hk
 | sqr => cases hk
 | sum => cases hk
theorem giveG_get (gs : List (Option jaa.T)) (to : Nat) (p : jaa.T) (hto : to < gs.length) (j : Nat) : (giveG gs to p).getD j none = if j = to then some (match gs.getD to none with | some q => tAdd q p | none => p) else gs.getD j none := by
 unfold giveG
 by_cases h : j = to
 · subst h;simp [hto]
 · rw [if_neg h]
   simp [List.getD_eq_getElem?_getD,List.getElem?_set,Ne.symm h]
theorem giveG_ok {sh : Nat → Nat × Nat} {gs : List (Option jaa.T)} {to : Nat} {p : jaa.T} (h : GsOk sh gs) (hp : jbk (sh to) p) (hto : to < gs.length) : GsOk sh (giveG gs to p) := by
 intro j t hj;rw [giveG_get gs to p hto j] at hj
 by_cases e : j = to
 · rw [if_pos e] at hj
   subst e
   cases hq : gs.getD j none with
   | none => rw [hq] at hj;cases hj;exact hp
   | some q => rw [hq] at hj;cases hj;exact tAdd_shaped _ (h j q hq)
 · rw [if_neg e] at hj;exact h j t hj
theorem op_lt {sh : Nat → Nat × Nat} {i : Nat} {o : shOp.T} (h : OpOk sh i o) (hk : o.1 ≠ 0) : o.2.1.toNat < i ∧ (twoK o.1.toNat = true → o.2.2.1.toNat < i) := by
 cases h <;> first | exact absurd rfl hk | (refine ⟨by simp only [mkOp,Int.toNat_natCast];assumption,fun h => ?_⟩;first | cases h;done | (simp only [mkOp,Int.toNat_natCast];assumption))
theorem stepG_ok {sh : Nat → Nat × Nat} {ops : List shOp.T} (hT : jbz sh ops) {i : Nat} (hi : i < ops.length) {gs : List (Option jaa.T)} (hl : gs.length = ops.length) (h : GsOk sh gs) : GsOk sh (stepG ops i gs) := by
 unfold stepG
 cases hg : gs.getD i none with
 | none => exact h
 | some g =>
   dsimp only
   by_cases hk : (ops.getD i o0).1 = 0
   · rw [if_pos hk];exact h
   · rw [if_neg hk]
     have ho := hT.ok i hi;obtain ⟨l1,l2⟩ := op_lt ho hk;have hgs := h i g hg;have hv := jck hT (show (ops.getD i o0).2.1.toNat < ops.length by omega);have h1 := giveG_ok (gs := gs) h (partA_shaped ho hk hgs hv (w := vAt ops (ops.getD i o0).2.2.1.toNat) (fun h2 => jck hT (by have := l2 h2;omega))) (by omega)
     by_cases h2 : twoK (ops.getD i o0).1.toNat = true
     · rw [if_pos h2]
       exact giveG_ok h1 (partB_shaped ho h2 hgs hv) (by rw [giveG_len];have := l2 h2;omega)
     · rw [if_neg h2];exact h1
theorem gradT_ok {sh : Nat → Nat × Nat} {ops : List shOp.T} (hT : jbz sh ops) (h0 : 1 ≤ ops.length) : ∀ m,m ≤ ops.length → GsOk sh (jbe ops m)
 | 0,_ => by
   intro j t hj;unfold jbe at hj;have hl := jck hT (show ops.length - 1 < ops.length by omega)
   by_cases e : j = ops.length - 1
   · subst e
     have : ((List.replicate ops.length (none : Option jaa.T)).set (ops.length - 1) (some (tFill (vAt ops (ops.length - 1)).1.toNat (vAt ops (ops.length - 1)).2.1.toNat jcl))).getD (ops.length - 1) none = some (tFill (vAt ops (ops.length - 1)).1.toNat (vAt ops (ops.length - 1)).2.1.toNat jcl) := by simp [show ops.length - 1 < ops.length by omega]
     rw [this] at hj
     cases hj
     obtain ⟨xs,e2,_⟩ := hl;rw [e2];exact tFill_shaped _ _ _
   · rw [List.getD_eq_getElem?_getD,List.getElem?_set,if_neg (Ne.symm e),List.getElem?_replicate] at hj
     split at hj <;> simp at hj
 | m + 1,hm => stepG_ok hT (by omega) (jcc ops m) (gradT_ok hT h0 m (by omega))
theorem OpOk.congr {sh sh' : Nat → Nat × Nat} {i : Nat} {o : shOp.T} (h : OpOk sh i o) (he : ∀ j,j ≤ i → sh' j = sh j) : OpOk sh' i o := by
 cases h with
 | inp r c xs hl hs => exact .inp r c xs hl (by rw [he i (by omega)];exact hs)
 | add a b ha hb h1 h2 => exact .add a b ha hb (by rw [he a (by omega),he b (by omega)];exact h1) (by rw [he i (by omega),he a (by omega)];exact h2)
 | addR a b ha hb h1 h2 => exact .addR a b ha hb (by rw [he a (by omega),he b (by omega)];exact h1) (by rw [he i (by omega),he a (by omega)];exact h2)
 | mul a b ha hb h1 h2 => exact .mul a b ha hb (by rw [he a (by omega),he b (by omega)];exact h1) (by rw [he i (by omega),he a (by omega)];exact h2)
 | mulR a b ha hb h1 h2 => exact .mulR a b ha hb (by rw [he a (by omega),he b (by omega)];exact h1) (by rw [he i (by omega),he a (by omega)];exact h2)
 | scl a z ha h2 => exact .scl a z ha (by rw [he i (by omega),he a (by omega)];exact h2)
 | mm a b ha hb h1 h2 => exact .mm a b ha hb (by rw [he a (by omega),he b (by omega)];exact h1) (by rw [he i (by omega),he a (by omega),he b (by omega)];exact h2)
 | turn a ha h2 => exact .turn a ha (by rw [he i (by omega),he a (by omega)];exact h2)
 | relu a ha h2 => exact .relu a ha (by rw [he i (by omega),he a (by omega)];exact h2)
 | sqr a ha h2 => exact .sqr a ha (by rw [he i (by omega),he a (by omega)];exact h2)
 | sum a ha h2 => exact .sum a ha (by rw [he i (by omega)];exact h2)
def shUp (sh : Nat → Nat × Nat) (n : Nat) (s : Nat × Nat) : Nat → Nat × Nat := fun j => if j = n then s else sh j
theorem shUp_at (sh : Nat → Nat × Nat) (n : Nat) (s : Nat × Nat) : shUp sh n s n = s := by simp [shUp]
theorem shUp_lt (sh : Nat → Nat × Nat) {n j : Nat} (s : Nat × Nat) (h : j < n) : shUp sh n s j = sh j := by simp [shUp,Nat.ne_of_lt h]
def jam (s : Nat × Nat) : Prop := 1 ≤ s.1 ∧ s.1 ≤ 16 ∧ 1 ≤ s.2 ∧ s.2 ≤ 16
theorem jbz.snoc {sh : Nat → Nat × Nat} {ops : List shOp.T} (h : jbz sh ops) {o : shOp.T} {s : Nat × Nat} {n : Nat} (hn : ops.length = n) (ho : OpOk (shUp sh n s) n o) (hs : jam s) (hl : n + 1 ≤ 48) : jbz (shUp sh n s) (ops ++ [o]) := by
 subst hn;refine ⟨fun i hi => ?_,fun i hi => ?_,by simp;omega⟩
 · by_cases e : i = ops.length
   · subst e
     rw [jbj _ _ _ _ (by omega)]
     simpa using ho
   · have hi' : i < ops.length := by simp at hi;omega
     rw [getD_appl _ _ _ _ hi'];exact (h.ok i hi').congr fun j hj => shUp_lt _ _ (by omega)
 · by_cases e : i = ops.length
   · subst e;rw [shUp_at];exact hs
   · have hi' : i < ops.length := by simp at hi;omega
     rw [shUp_lt _ _ hi'];exact h.side i hi'
def negOne : Nat := 3212836864
abbrev Mt := List shOp.T × List Int × Nat
def ja6 (l : jac.T) (s : Mt) : Mt :=
 let n := s.1.length
 if l.1 = 0 then (s.1 ++ [mkOp 0 0 0 0 (l.2.2.1,l.2.1,l.2.2.2.1,()),mkOp 0 0 0 0 (1,l.2.2.1,l.2.2.2.2.1,()),mkOp 7 n 0 0 t0,mkOp 6 s.2.2 (n + 2) 0 t0,mkOp 2 (n + 3) (n + 1) 0 t0],s.2.1 ++ [(n : Int),((n + 1 : Nat) : Int)],n + 4)
 else if l.1 = 1 then (s.1 ++ [mkOp 8 s.2.2 0 0 t0],s.2.1,n)
 else (s.1 ++ [mkOp 0 0 0 0 (1,l.2.1,l.2.2.2.1,()),mkOp 4 s.2.2 n 0 t0],s.2.1 ++ [(n : Int)],n + 1)
def mtTo (L : List jac.T) (x y : jaa.T) : Nat → Mt
 | 0 => ([mkOp 0 0 0 0 x,mkOp 0 0 0 0 y],[],0)
 | i + 1 => ja6 (L.getD i (0,0,0,[],[],())) (mtTo L x y i)
def mtEnd (s : Mt) (z : Nat) : List shOp.T := s.1 ++ [mkOp 5 1 0 negOne t0,mkOp 1 s.2.2 s.1.length 0 t0,mkOp 9 (s.1.length + 1) 0 0 t0,mkOp 10 (s.1.length + 2) 0 0 t0,mkOp 5 (s.1.length + 3) 0 z t0]
def mtape (L : List jac.T) (x y : jaa.T) (z : Nat) : List shOp.T := mtEnd (mtTo L x y L.length) z
def jcf (L : List jac.T) (x y : jaa.T) : List Int := (mtTo L x y L.length).2.1
theorem mtStep_len (l : jac.T) (s : Mt) : s.1.length < (ja6 l s).1.length ∧ (ja6 l s).1.length ≤ s.1.length + 5 ∧ (ja6 l s).2.2 + 1 = (ja6 l s).1.length := by
 unfold ja6;dsimp only
 split
 · simp
 · split <;> simp
theorem mtTo_len (L : List jac.T) (x y : jaa.T) : ∀ i,2 ≤ (mtTo L x y i).1.length ∧ (mtTo L x y i).1.length ≤ 2 + 5 * i ∧ (mtTo L x y i).2.2 < (mtTo L x y i).1.length
 | 0 => by simp [mtTo]
 | i + 1 => by
   have h := mtTo_len L x y i;have k := mtStep_len (L.getD i (0,0,0,[],[],())) (mtTo L x y i);simp only [mtTo];omega
instance slTens : SlTy Try.prog 59 27 3 (.agg #[.int .i64 0,.int .i64 0,.slice none 0 0]) 40 := ⟨by kernel_rfl,by kernel_rfl,by kernel_rfl,by decide,by decide⟩
instance szTens : SlTy Try.prog 59 27 (Sh.sz jaa) (.agg #[.int .i64 0,.int .i64 0,.slice none 0 0]) 40 := slTens
instance c1Tens : Cell1 Try.prog 59 := ⟨by kernel_rfl,by kernel_rfl⟩
instance elOp : ElTy Try.prog 98 shOp := ⟨by kernel_rfl,by kernel_rfl⟩
instance slOp : SlTy Try.prog 56 98 7 (.agg #[.int .i64 0,.int .i64 0,.int .i64 0,.float .f32 0,.int .i64 0,.int .i64 0,.slice none 0 0]) 72 := ⟨by kernel_rfl,by kernel_rfl,by kernel_rfl,by decide,by decide⟩
instance szOp : SlTy Try.prog 56 98 (Sh.sz shOp) (.agg #[.int .i64 0,.int .i64 0,.int .i64 0,.float .f32 0,.int .i64 0,.int .i64 0,.slice none 0 0]) 72 := slOp
instance c1Ops : Cell1 Try.prog 56 := ⟨by kernel_rfl,by kernel_rfl⟩
structure Tens (w : World) (p : Option Addr) (n : Nat) (css : List (List Value)) (vs : List jaa.T) : Prop where
 cs : Cs w p css.flatten
 all : All2 (Rep w jaa) css vs
 cnt : css.length = n
theorem Tens.ext {w w' : World} {p : Option Addr} {n : Nat} {css : List (List Value)} {vs : List jaa.T} (h : Tens w p n css vs) (e : Ext w w') : Tens w' p n css vs :=
 ⟨h.cs.ext e,h.all.imp fun _ _ => Rep.ext e,h.cnt⟩
theorem Tens.len {w : World} {p : Option Addr} {n : Nat} {css : List (List Value)} {vs : List jaa.T} (h : Tens w p n css vs) : vs.length = n := by rw [← h.cnt];exact h.all.length.symm
theorem Tens.size {w : World} {p : Option Addr} {n : Nat} {css : List (List Value)} {vs : List jaa.T} (h : Tens w p n css vs) : ∀ c ∈ css,c.length = jaa.sz := by
 intro c hc;obtain ⟨i,hi,rfl⟩ := List.mem_iff_getElem.1 hc;have hv : i < vs.length := by rw [h.len,← h.cnt];exact hi
 obtain ⟨_,hr⟩ := h.all.get' i hv;exact hr.size
def jbg (w : World) (cs : List Value) (s : Nat × Nat) (d : jaa.T) : Prop := ∃ (q : Option Addr) (c : Nat) (us : List Value) (xs : List Nat),cs = [.int .i64 s.1,.int .i64 s.2,.slice q (s.1 * s.2) c] ∧ d = tn s.1 s.2 xs ∧ xs.length = s.1 * s.2 ∧ Cs w q us ∧ F32s us xs ∧ s.1 * s.2 ≤ c ∧ c ≤ maxLen
theorem tenAt_of {w : World} {cs : List Value} {s : Nat × Nat} {d : jaa.T} (h : Rep w jaa cs d) (hs : jbk s d) : jbg w cs s d := by
 obtain ⟨xs,rfl,l⟩ := hs;obtain ⟨p,c,us,h1,h2,h3,h4,h5⟩ := jay h;simp only [tn] at h1 h3 h4;rw [l] at h1 h4;exact ⟨p,c,us,xs,h1,rfl,l,h2,h3,h4,h5⟩
theorem Tens.at' {w : World} {p : Option Addr} {n : Nat} {css : List (List Value)} {vs : List jaa.T} (h : Tens w p n css vs) {sh : Nat → Nat × Nat} (hs : ∀ j,j < n → jbk (sh j) (vs.getD j t0)) {j : Nat} (hj : j < n) : ∃ cs,css[j]? = some cs ∧ jbg w cs (sh j) (vs.getD j t0) := by
 have hv : j < vs.length := by rw [h.len];exact hj
 obtain ⟨h1,hr⟩ := h.all.get' j hv;refine ⟨css[j],by simp,?_⟩;have h2 := hs j hj;rw [show vs.getD j t0 = vs[j] by simp [hv]] at h2 ⊢;exact tenAt_of hr h2
theorem ja3 {w : World} {cs : List Value} {k a b z : Nat} {t : jaa.T} (h : Rep w shOp cs (mkOp k a b z t)) : ∃ (zb : Nat) (ct : List Value),cs = [.int .i64 k,.int .i64 a,.int .i64 b,.float .f32 zb] ++ ct ∧ cn .f32 zb = z ∧ Rep w jaa ct t := by
 obtain ⟨_,_,rfl,rfl,_,_,rfl,rfl,_,_,rfl,rfl,_,_,rfl,⟨zb,rfl,hz⟩,ct,_,rfl,ht,rfl⟩ := h;exact ⟨zb,ct,by simp [mkOp],hz,ht⟩
theorem jaq {w : World} {b : Nat} {x0 x1 x2 y0 y1 y2 : Value} (h : HB w b #[x0,x1,x2] 27) (h0 : y0.oneCell' = true) (h1 : y1.oneCell' = true) (h2 : y2.oneCell' = true) :
 ∃ w',(Instr.storeAt 27 (.pointer (some ⟨b,0,none⟩)) (.agg #[y0,y1,y2])).run Try.prog w = .ok () w' ∧ HB w' b #[y0,y1,y2] 27 ∧ Chg (fun k => k = b) w w' := by
 have hb' : w.heap[b]? = some (.cells #[x0,x1,x2] 27 (0,0)) := h;have hst := run_storeCells_at Try.prog b 0 27 [y0,y1,y2] 0 #[x0,x1,x2] w hb' (by simp) (by intro v hv;simp at hv;rcases hv with rfl | rfl | rfl <;> assumption);obtain ⟨i,hi,hz⟩ := Option.map_eq_some_iff.1 (ElTy.inf (P := Try.prog) (t := 27) (s := jaa));have hcells : (Value.agg #[y0,y1,y2]).cells = #[y0,y1,y2] := rfl;refine ⟨_,?_,setRow_heap w b #[x0,x1,x2] _ 27 (0,0) hb',⟨rfl,rfl,rfl,by simp,fun j hj hn' => setRow_other w b j _ hn'⟩⟩;simp [Instr.storeAt,Instr.sureAddr,storeVar,sizeOf,typeInfo,hi,hz,hcells];rw [if_pos (show 3 = jaa.sz from rfl),hst];rfl
theorem value_inp (r c : Nat) (xs : List Nat) (oc : List Value) (p : Option Addr) (n cp : Nat) (w : World) (hl : xs.length = r * c) (hr : r ≤ 16) (hc : c ≤ 16) (ho : Rep w shOp oc (mkOp 0 0 0 0 (tn r c xs))) :
 Calls Try.prog 108 #[ofCs shOp oc,.slice p n cp] w (jao w r c xs) := by
 obtain ⟨zb,ct,rfl,hz,ht⟩ := ja3 ho;obtain ⟨q,cq,us,xs',rfl,e1,l1,h1,h2,h3,h4⟩ := tenAt_of (s := (r,c)) ht ⟨xs,rfl,hl⟩;simp only [tn,Prod.mk.injEq,true_and,and_true] at e1;subst e1;obtain ⟨N,hN⟩ : ∃ N,N = r * c := ⟨_,rfl⟩;have hN2 : N ≤ 256 := by rw [hN];exact Nat.mul_le_mul hr hc
 simp only [← hN] at l1 h3 ⊢;simp only [ofCs,Sh.agg,if_true,List.cons_append,List.nil_append];obtain ⟨W0,hW0⟩ : ∃ W0,W0 = (w.alloc (.cells #[.int .i64 0,.int .i64 0,.int .i64 0,.float .f32 zb,.int .i64 r,.int .i64 c,.slice q N cq] 98)).alloc (.cells #[.int .i64 0,.int .i64 0,.slice none 0 0] 27) := ⟨_,rfl⟩;obtain ⟨E0,s0,b0,b1⟩ := box2 hW0;have b1 : HB W0 (w.heap.size + 1) #[.int .i64 0,.int .i64 0,.slice none 0 0] 27 := b1;have K := hid (copyTensor_any r c q N cq us xs W0 l1 (by omega) h3 (h1.ext E0) h2);have L1 := hid l1;clear hN ho ht h1 h2 h3 h4 hl l1;go_enter Try.func108,Try.ntmps108;go_wp2_with fail;rw [← hW0];clear hW0;refine K.out.mono ?_;rintro e w1 ⟨q',k,ws,rfl,own,hf3,e1⟩
 rw [L1.out] at own ⊢;have d1 := b1.ext e1;have n0 := d1.cell 0 rfl;have n1 := d1.cell 1 rfl;have n2 := d1.cell 2 rfl;have m0 := d1.froz 0;have m1 := d1.froz 1;have m2 := d1.froz 2;go_wp2;refine bodyPost_ret (v := .agg #[.int .i64 r,.int .i64 c,.slice q' N k]) (by simp [results,Try.results108,go_sem,n0,n1,n2,m0,m1,m2]) rfl ?_;exact jao.of L1.out (jak (jag (S := fun k => k = w.heap.size + 1) own (by (repeat (first | (with_reducible first | exact Chg.refl _ _ | exact Chg.of_ext (by assumption) | assumption) | ((with_reducible refine Chg.setCell ?_ ?_ _);rotate_left;focus (first | (simp;done) | (simp;omega))) | (with_reducible first | refine Chg.alloc ?_ _ | refine Chg.drew ?_ | refine px3 ?_ (by assumption))))) (fun k hk => by omega)) (by omega)) hf3 rfl (Ext.chg (S := fun k => k = w.heap.size + 1) (E0.trans e1) (by (repeat (first | (with_reducible first | exact Chg.refl _ _ | exact Chg.of_ext (by assumption) | assumption) | ((with_reducible refine Chg.setCell ?_ ?_ _);rotate_left;focus (first | (simp;done) | (simp;omega))) | (with_reducible first | refine Chg.alloc ?_ _ | refine Chg.drew ?_ | refine px3 ?_ (by assumption))))) (fun k hk => by omega))
end Go.Proofs.Ytmbckkcgiafagaa
