/- A part of the proofs: Step, Sh, Ty, Int, F32, Cont, Har. -/
import Derived.Test.YtmbckkcgiafagaaZ01FnFuse
import Derived.Shelf.Abstract
set_option linter.unusedSimpArgs false
set_option linter.unusedVariables false
set_option maxRecDepth 100000
set_option maxHeartbeats 16000000
namespace Go.Proofs.Ytmbckkcgiafagaa
open Go.RowKit
theorem jad (l : List Value) (d : List Deferred) (i : Nat) : Act.eval ⟨l.toArray,d⟩ (.tmp i) = l.getD i undef := by simp [Act.eval]
/-! ### Floats,one after another -/
section
variable {P : Program} {w : World} {ops : Array Oper} {rest : List Oper} {o o1 o2 : Oper} {a : Act} {Q : Exit → Act → World → Prop}
def isArith (op : BinOp) : Bool := match op with | .add | .sub | .mul | .quo => true | _ => false
theorem isArith_or {op : BinOp} (h : isArith op = true) : op = .add ∨ op = .sub ∨ op = .mul ∨ op = .quo := by cases op <;> first | (cases h;done) | simp
theorem eqGuard_arith {op : BinOp} (h : isArith op = true) (t : TypeId) (x y : Operand) (u v : Value) : eqGuard op t x y u v = pure () := by cases op <;> first | (cases h;done) | rfl
theorem run_fop {op : BinOp} {t t' : TypeId} {x y : Operand} {k : FloatKind} {b c : Nat} (hop : isArith op = true) (ho : o.op = .binOp op t x y t') (hx : a.eval x = .float k b) (hy : a.eval y = .float k c) (w : World) :
 ∃ r n,(execOp a.eval o).run P w = .ok (.value (.float k r)) (w.drewN n) ∧ cn k r = fop op k (cn k b) (cn k c) := by
 obtain ⟨r,n,h1,h2⟩ := run_farith (P := P) w op (isArith_or hop) t k b c;exact ⟨r,n,by simp [execOp,ho,hx,hy,eqGuard_arith hop,h1],h2⟩
theorem run_conv {src dst : TypeId} {x : Operand} {s k : FloatKind} {b : Nat} (ho : o.op = .convert src dst x) (hx : a.eval x = .float s b) (hs : (P.underlying src).isSome = true) (hd : P.underlying dst = some (.float k)) (hov : fover s (cn s b) k = false) (w : World) :
 ∃ r n,(execOp a.eval o).run P w = .ok (.value (.float k r)) (w.drewN n) ∧ cn k r = jam s (cn s b) k := by
 obtain ⟨r,n,h1,h2⟩ := run_fconv (P := P) w src dst s k b hs hd hov;exact ⟨r,n,by simp [execOp,ho,hx,h1],h2⟩
theorem wl_fop {op : BinOp} {t t' : TypeId} {x y : Operand} {k : FloatKind} {b c : Nat} (hg : o.guard = none) (ho : o.op = .binOp op t x y t') (hop : isArith op = true) (hx : a.eval x = .float k b) (hy : a.eval y = .float k c)
 (h : ∀ r w',Ext w w' → cn k r = fop op k (cn k b) (cn k c) → wpList P ops Q rest (a.put o.dst (.float k r)) w') : wpList P ops Q (o :: rest) a w := by
 obtain ⟨r,n,h1,h2⟩ := run_fop (P := P) hop ho hx hy w;exact jbi hg h1 (h r _ (Ext.drewN w n) h2)
theorem wl_conv {src dst : TypeId} {x : Operand} {s k : FloatKind} {b : Nat} (hg : o.guard = none) (ho : o.op = .convert src dst x) (hx : a.eval x = .float s b) (hs : (P.underlying src).isSome = true) (hd : P.underlying dst = some (.float k)) (hov : fover s (cn s b) k = false)
 (h : ∀ r w',Ext w w' → cn k r = jam s (cn s b) k → wpList P ops Q rest (a.put o.dst (.float k r)) w') : wpList P ops Q (o :: rest) a w := by
 obtain ⟨r,n,h1,h2⟩ := run_conv (P := P) ho hx hs hd hov w;exact jbi hg h1 (h r _ (Ext.drewN w n) h2)
theorem wl_ldF {t e b : Nat} {z : Value} [SlTy P t e 1 z b] [Cell1 P e] {x ix : Operand} {d : Tmp} (hg1 : o1.guard = none) (ho1 : o1.op = .indexAddr t x ix) (hg2 : o2.guard = none) (ho2 : o2.op = .load e (.tmp d))
 {p : Option Addr} {n c : Nat} {k : IntKind} {i : Int} (hd : ∀ y,(a.put o1.dst y).eval (.tmp d) = y)
 (hx : a.eval x = .slice p n c) (hi : a.eval ix = .int k i) {vs : List Value} {xs : List Nat} (hc : Cs w p vs) (hf : F32s vs xs) (hvn : xs.length = n) (h0 : 0 ≤ i) (hn : i < n)
 (h : ∀ r,cn .f32 r = xs.getD i.toNat 0 → wpList P ops Q rest ((a.put o1.dst (.pointer (some (adr p i.toNat)))).put o2.dst (.float .f32 r)) w) : wpList P ops Q (o1 :: o2 :: rest) a w := by
 refine wl_idxload hg1 ho1 hg2 ho2 hd hx hi hc (by rw [hf.1,hvn]) h0 hn fun u hu => ?_
 obtain ⟨r,h1,h2⟩ := hf.2 i.toNat (by omega);rw [hu] at h1;cases h1;exact h r h2
end
/-! ### A region whose order is drawn -/
section
variable {P : Program} {w wf : World} {ops : Array Oper} {rest : List Oper} {o o1 o2 : Oper} {a : Act} {Q : Act → Prop} {F : Option Tmp → World → World → Value → Prop} {G : Option Tmp → World → Value → Prop}
theorem ja6 (h : Q a) : wpX P ops F w wf Q [] a := h
theorem jar (hw : Region.wanted o (yielded ops a.tmps) = false) (h : wpX P ops F w wf Q rest (a.put o.dst undef)) : wpX P ops F w wf Q (o :: rest) a := by
 refine ⟨fun hw' => (by rw [hw] at hw';cases hw'),fun u hu => ?_⟩;rcases hu with ⟨hw',_⟩ | ⟨_,rfl⟩
 · rw [hw] at hw';cases hw'
 · exact h
theorem x_val {V : Value → Prop} (hw : Region.wanted o (yielded ops a.tmps) = true) (hr : ∀ w1,Ext w w1 → ∃ u w2,(execOp a.eval o).run P w1 = .ok (.value u) w2 ∧ Ext w1 w2 ∧ V u)
 (h : ∀ u,V u → wpX P ops F w wf Q rest (a.put o.dst u)) : wpX P ops F w wf Q (o :: rest) a := by
 refine ⟨fun _ w1 h1 _ => ?_,fun u hu => ?_⟩
 · obtain ⟨u,w2,h2,h3,_⟩ := hr w1 h1
   rw [h2];exact h3
 · rcases hu with ⟨_,w1,h1,_,h2⟩ | ⟨hw',_⟩
   · obtain ⟨u',w2,h3,h4,h5⟩ := hr w1 h1
     rw [h3] at h2;obtain ⟨rfl,_⟩ := h2;exact h _ h5
   · rw [hw] at hw';cases hw'
theorem x_made {V : World → Value → Prop} (hw : Region.wanted o (yielded ops a.tmps) = true) (hr : ∀ w1,Ext w w1 → ∃ u w2,(execOp a.eval o).run P w1 = .ok (.value u) w2 ∧ Ext w1 w2 ∧ ∀ wf,Ext w2 wf → V wf u)
 (h : ∀ u,V wf u → wpX P ops F w wf Q rest (a.put o.dst u)) : wpX P ops F w wf Q (o :: rest) a := by
 refine ⟨fun _ w1 h1 _ => ?_,fun u hu => ?_⟩
 · obtain ⟨u,w2,h2,h3,_⟩ := hr w1 h1
   rw [h2];exact h3
 · rcases hu with ⟨_,w1,h1,_,h2⟩ | ⟨hw',_⟩
   · obtain ⟨u',w2,h3,h4,h5⟩ := hr w1 h1
     rw [h3] at h2;obtain ⟨rfl,h6⟩ := h2;exact h _ (h5 wf h6)
   · rw [hw] at hw';cases hw'
theorem x_pure {v : Value} (hw : Region.wanted o (yielded ops a.tmps) = true) (hr : ∀ w1,Ext w w1 → (execOp a.eval o).run P w1 = .ok (.value v) w1)
 (h : wpX P ops F w wf Q rest (a.put o.dst v)) : wpX P ops F w wf Q (o :: rest) a :=
 x_val (V := fun u => u = v) hw (fun w1 h1 => ⟨v,w1,hr w1 h1,Ext.refl _,rfl⟩) (fun u hu => by subst hu;exact h)
theorem x_mv {x : Operand} {v : Value} (hw : Region.wanted o (yielded ops a.tmps) = true) (ho : o.op = .move x) (hx : a.eval x = v) (h : wpX P ops F w wf Q rest (a.put o.dst v)) : wpX P ops F w wf Q (o :: rest) a :=
 x_pure hw (fun w1 _ => by simp [execOp,ho,hx]) h
theorem x_as {x : Operand} {v : Value} (hw : Region.wanted o (yielded ops a.tmps) = true) (ho : o.op = .assign x) (hx : a.eval x = v) (h : wpX P ops F w wf Q rest (a.put o.dst v)) : wpX P ops F w wf Q (o :: rest) a :=
 x_pure hw (fun w1 _ => by simp [execOp,ho,hx]) h
def xRun (K : Act → Prop) (a : Act) (d : Option Tmp) (w1 : World) : Result Next → Prop
 | .ok (.value u) w2 => w2 = w1 ∧ K (a.put d u)
 | _ => False
@[go_sem] theorem xRun_value (K : Act → Prop) (a : Act) (d : Option Tmp) (w1 : World) (u : Value) : xRun K a d w1 (.ok (.value u) w1) = K (a.put d u) := by simp [xRun]
theorem ja7 (hw : Region.wanted o (yielded ops a.tmps) = true) (h : ∀ K : Act → Prop,(∀ a,wpX P ops F w wf Q rest a → K a) → ∀ w1,Ext w w1 → xRun K a o.dst w1 ((execOp a.eval o).run P w1)) : wpX P ops F w wf Q (o :: rest) a := by
 have h' := h (wpX P ops F w wf Q rest) (fun _ h => h);refine ⟨fun _ w1 h1 _ => ?_,fun u hu => ?_⟩
 · have h2 := h' w1 h1
   generalize (execOp a.eval o).run P w1 = r at h2
   cases r with
   | ok n w2 => cases n <;> simp only [xRun] at h2;obtain ⟨rfl,_⟩ := h2;exact Ext.refl _
   | halt x w2 => simp only [xRun] at h2
 · rcases hu with ⟨_,w1,h1,_,h2⟩ | ⟨hw',_⟩
   · have h3 := h' w1 h1
     generalize (execOp a.eval o).run P w1 = r at h2 h3
     cases r with
     | ok n w2 => cases n <;> simp only [xRun] at h3;obtain ⟨rfl,h4⟩ := h3;obtain ⟨rfl,_⟩ := h2;exact h4
     | halt x w2 => simp only [xRun] at h3
   · rw [hw] at hw';cases hw'
theorem x_idx {t e s b : Nat} {z : Value} [SlTy P t e s z b] {x ix : Operand} (hw : Region.wanted o (yielded ops a.tmps) = true) (ho : o.op = .indexAddr t x ix) {p : Option Addr} {n c : Nat} {k : IntKind} {i : Int}
 (hx : a.eval x = .slice p n c) (hi : a.eval ix = .int k i) (hp : p.isSome = true) (h0 : 0 ≤ i) (hn : i < n)
 (h : wpX P ops F w wf Q rest (a.put o.dst (.pointer (some (adr p (i.toNat * s)))))) : wpX P ops F w wf Q (o :: rest) a :=
 x_pure hw (fun w1 _ => by simp [execOp,ho,hx,hi,run_indexAt hp h0 hn]) h
theorem x_load1 {t : TypeId} [Cell1 P t] {x : Operand} (hw : Region.wanted o (yielded ops a.tmps) = true) (ho : o.op = .load t x) {q : Addr} {u : Value} (hx : a.eval x = .pointer (some q)) (hc : w.cell? q = some u)
 (h : wpX P ops F w wf Q rest (a.put o.dst u)) : wpX P ops F w wf Q (o :: rest) a :=
 x_pure hw (fun w1 h1 => by simp [execOp,ho,hx,run_load1 (h1.cell hc)]) h
theorem x_idxload {t e b : Nat} {z : Value} [SlTy P t e 1 z b] [Cell1 P e] {x ix : Operand} {d : Tmp} (hw1 : Region.wanted o1 (yielded ops a.tmps) = true) (ho1 : o1.op = .indexAddr t x ix) (hw2 : ∀ y,Region.wanted o2 (yielded ops (a.put o1.dst y).tmps) = true) (ho2 : o2.op = .load e (.tmp d))
 {p : Option Addr} {n c : Nat} {k : IntKind} {i : Int} (hd : ∀ y,(a.put o1.dst y).eval (.tmp d) = y)
 (hx : a.eval x = .slice p n c) (hi : a.eval ix = .int k i) {vs : List Value} (hc : Cs w p vs) (hvn : vs.length = n) (h0 : 0 ≤ i) (hn : i < n)
 (h : ∀ u,vs[i.toNat]? = some u → wpX P ops F w wf Q rest ((a.put o1.dst (.pointer (some (adr p i.toNat)))).put o2.dst u)) : wpX P ops F w wf Q (o1 :: o2 :: rest) a := by
 have hlt : i.toNat < vs.length := by omega
 have hu : vs[i.toNat]? = some vs[i.toNat] := by simp [hlt]
 refine x_idx hw1 ho1 hx hi (hc.isS (by intro h;simp [h] at hlt)) h0 hn ?_;rw [Nat.mul_one];exact x_load1 (hw2 _) ho2 (hd _) (hc.cell _ _ hu) (h _ hu)
theorem x_ldF {t e b : Nat} {z : Value} [SlTy P t e 1 z b] [Cell1 P e] {x ix : Operand} {d : Tmp} (hw1 : Region.wanted o1 (yielded ops a.tmps) = true) (ho1 : o1.op = .indexAddr t x ix) (hw2 : ∀ y,Region.wanted o2 (yielded ops (a.put o1.dst y).tmps) = true) (ho2 : o2.op = .load e (.tmp d))
 {p : Option Addr} {n c : Nat} {k : IntKind} {i : Int} (hd : ∀ y,(a.put o1.dst y).eval (.tmp d) = y)
 (hx : a.eval x = .slice p n c) (hi : a.eval ix = .int k i) {vs : List Value} {xs : List Nat} (hc : Cs w p vs) (hf : F32s vs xs) (hvn : xs.length = n) (h0 : 0 ≤ i) (hn : i < n)
 (h : ∀ r,cn .f32 r = xs.getD i.toNat 0 → wpX P ops F w wf Q rest ((a.put o1.dst (.pointer (some (adr p i.toNat)))).put o2.dst (.float .f32 r))) : wpX P ops F w wf Q (o1 :: o2 :: rest) a := by
 refine x_idxload hw1 ho1 hw2 ho2 hd hx hi hc (by rw [hf.1,hvn]) h0 hn fun u hu => ?_
 obtain ⟨r,h1,h2⟩ := hf.2 i.toNat (by omega);rw [hu] at h1;cases h1;exact h r h2
theorem x_fop {op : BinOp} {t t' : TypeId} {x y : Operand} {k : FloatKind} {b c : Nat} (hw : Region.wanted o (yielded ops a.tmps) = true) (ho : o.op = .binOp op t x y t') (hop : isArith op = true) (hx : a.eval x = .float k b) (hy : a.eval y = .float k c)
 (h : ∀ r,cn k r = fop op k (cn k b) (cn k c) → wpX P ops F w wf Q rest (a.put o.dst (.float k r))) : wpX P ops F w wf Q (o :: rest) a :=
 x_val (V := fun u => ∃ r,u = .float k r ∧ cn k r = fop op k (cn k b) (cn k c)) hw
  (fun w1 _ => by obtain ⟨r,n,h1,h2⟩ := run_fop (P := P) hop ho hx hy w1;exact ⟨_,_,h1,Ext.drewN w1 n,r,rfl,h2⟩) (fun u hu => by obtain ⟨r,rfl,h2⟩ := hu;exact h r h2)
theorem x_conv {src dst : TypeId} {x : Operand} {s k : FloatKind} {b : Nat} (hw : Region.wanted o (yielded ops a.tmps) = true) (ho : o.op = .convert src dst x) (hx : a.eval x = .float s b) (hs : (P.underlying src).isSome = true) (hd : P.underlying dst = some (.float k)) (hov : fover s (cn s b) k = false)
 (h : ∀ r,cn k r = jam s (cn s b) k → wpX P ops F w wf Q rest (a.put o.dst (.float k r))) : wpX P ops F w wf Q (o :: rest) a :=
 x_val (V := fun u => ∃ r,u = .float k r ∧ cn k r = jam s (cn s b) k) hw
  (fun w1 _ => by obtain ⟨r,n,h1,h2⟩ := run_conv (P := P) ho hx hs hd hov w1;exact ⟨_,_,h1,Ext.drewN w1 n,r,rfl,h2⟩) (fun u hu => by obtain ⟨r,rfl,h2⟩ := hu;exact h r h2)
theorem y_callK {f : FuncId} {fn : Func} {xs : Array Operand} {ts : Array TypeId} {args : Array Value} (hw : Region.wanted o (yielded ops a.tmps) = true) (ho : o.op = .call { callee := .value (.func f),args := xs,argTypes := ts })
 (hf : P.funcs[f]? = some fn) (hb : fn.body.isNone = false) (hn : (fn.name == "runtime.NumGoroutine") = false) (hargs : xs.map a.eval = args)
 (hc : ∀ w1,Ext w w1 → KnownC P ops F w o a w1 → Calls P f args w1 (fun e w3 => ∃ u,e = .returned u ∧ Ext w1 w3 ∧ F o.dst w1 w3 u))
 (h : ∀ u w1 w3,Ext w w1 → KnownC P ops F w o a w1 → Ext w1 w3 → Ext w3 wf → F o.dst w1 w3 u → wpX P ops F w wf Q rest (a.put o.dst u)) : wpX P ops F w wf Q (o :: rest) a := by
 have hr := fun w1 => run_callf (P := P) (a := a) ho hf hb hn hargs w1
 refine ⟨fun _ w1 h1 hk => ?_,fun u hu => ?_⟩
 · rw [hr w1];exact ⟨Ext.refl _,hc w1 h1 (known_C hk)⟩
 · rcases hu with ⟨_,w1,h1,hk,h2⟩ | ⟨hw',_⟩
   · rw [hr w1] at h2
     obtain ⟨w3,h3,h4,h5⟩ := h2;exact h u w1 w3 h1 hk h3 h4 h5
   · rw [hw] at hw';cases hw'
theorem jay {f : FuncId} {fn : Func} {xs : Array Operand} {ts : Array TypeId} {args : Array Value} (hw : Region.wanted o (yielded ops a.tmps) = true) (ho : o.op = .call { callee := .value (.func f),args := xs,argTypes := ts })
 (hf : P.funcs[f]? = some fn) (hb : fn.body.isNone = false) (hn : (fn.name == "runtime.NumGoroutine") = false) (hargs : xs.map a.eval = args)
 (hc : ∀ w1,Ext w w1 → Calls P f args w1 (fun e w3 => ∃ u,e = .returned u ∧ Ext w1 w3 ∧ G o.dst w3 u))
 (h : ∀ u w3,Ext w w3 → Ext w3 wf → G o.dst w3 u → wpX P ops (fun d _ W u => G d W u) w wf Q rest (a.put o.dst u)) : wpX P ops (fun d _ W u => G d W u) w wf Q (o :: rest) a :=
 y_callK hw ho hf hb hn hargs (fun w1 h1 _ => hc w1 h1) (fun u _ w3 h1 _ h3 h4 h5 => h u w3 (h1.trans h3) h4 h5)
theorem knownC_call {o x : Oper} {w1 : World} (hk : KnownC P ops F w o a w1) {j : Nat} {d : Tmp} {f : FuncId} {fn : Func} {xs : Array Operand} {ts : Array TypeId} (hj : (o.after.any fun e => Region.binds .any e && e.on == j) = true) (hx : ops[j]? = some x) (hd : x.dst = some d) (hg : x.guard = none)
 (ho : x.op = .call { callee := .value (.func f),args := xs,argTypes := ts }) (hf : P.funcs[f]? = some fn) (hb : fn.body.isNone = false) (hn : (fn.name == "runtime.NumGoroutine") = false) (hr : d < a.tmps.size) :
 ∃ w0 w3,Ext w w0 ∧ Ext w0 w3 ∧ Ext w3 w1 ∧ F (some d) w0 w3 (a.eval (.tmp d)) := by
 rw [Array.any_eq_true'] at hj;obtain ⟨e,he,hje⟩ := hj;simp only [Bool.and_eq_true,beq_iff_eq] at hje;obtain ⟨h1,h2⟩ := hje;subst h2;exact hk e he h1 x d hx hd hr ⟨hg,f,xs,ts,fn,ho,hf,hb,hn⟩
end
inductive Sh where
 | int | flt | bool | str | un
 | sl (e : Sh)
 | pr (a b : Sh)
abbrev Sh.T : Sh → Type
 | .int => Int
 | .flt => Nat
 | .bool => Bool
 | .str => ByteArray
 | .un => Unit
 | .sl e => List e.T
 | .pr a b => a.T × b.T
def Sh.sz : Sh → Nat
 | .un => 0
 | .pr a b => a.sz + b.sz
 | _ => 1
inductive All2 {A B : Type} (R : A → B → Prop) : List A → List B → Prop
 | nil : All2 R [] []
 | cons {a b us bs} : R a b → All2 R us bs → All2 R (a :: us) (b :: bs)
theorem All2.length {A B : Type} {R : A → B → Prop} {us : List A} {bs : List B} (h : All2 R us bs) : us.length = bs.length := by
 induction h with
 | nil => rfl
 | cons _ _ ih => simp [ih]
theorem All2.imp {A B : Type} {R S : A → B → Prop} {us : List A} {bs : List B} (h : All2 R us bs) (hi : ∀ a b,R a b → S a b) : All2 S us bs := by
 induction h with
 | nil => exact .nil
 | cons h _ ih => exact .cons (hi _ _ h) ih
theorem All2.get {A B : Type} {R : A → B → Prop} {us : List A} {bs : List B} (h : All2 R us bs) : ∀ (i : Nat) (b : B),bs[i]? = some b → ∃ a,us[i]? = some a ∧ R a b := by
 induction h with
 | nil => intro i b hb;simp at hb
 | cons h _ ih =>
   intro i b hb
   cases i with
   | zero => simp at hb;subst hb;exact ⟨_,rfl,h⟩
   | succ i => simpa using ih i b (by simpa using hb)
theorem All2.get' {A B : Type} {R : A → B → Prop} {us : List A} {bs : List B} (h : All2 R us bs) (i : Nat) (hi : i < bs.length) : ∃ (h1 : i < us.length),R us[i] bs[i] := by
 obtain ⟨a,h1,h2⟩ := h.get i bs[i] (by simp [hi]);obtain ⟨h3,h4⟩ := List.getElem?_eq_some_iff.1 h1;exact ⟨h3,by rw [h4];exact h2⟩
theorem All2.of_get {A B : Type} {R : A → B → Prop} : ∀ {us : List A} {bs : List B},us.length = bs.length → (∀ (i : Nat) (a : A) (b : B),us[i]? = some a → bs[i]? = some b → R a b) → All2 R us bs
 | [],[],_,_ => .nil
 | [],_ :: _,h,_ => by simp at h
 | _ :: _,[],h,_ => by simp at h
 | a :: us,b :: bs,h,hr => .cons (hr 0 a b rfl rfl) (All2.of_get (by simpa using h) fun i a' b' h1 h2 => hr (i + 1) a' b' (by simpa using h1) (by simpa using h2))
def Rep (w : World) : (s : Sh) → List Value → s.T → Prop
 | .int,cs,n => cs = [.int .i64 n]
 | .flt,cs,x => ∃ b,cs = [.float .f32 b] ∧ cn .f32 b = x
 | .bool,cs,b => cs = [.bool b]
 | .str,cs,s => cs = [.string s]
 | .un,cs,_ => cs = []
 | .sl e,cs,l => ∃ p c css,cs = [.slice p l.length c] ∧ Cs w p (List.flatten css) ∧ l.length ≤ c ∧ c ≤ maxLen ∧ All2 (Rep w e) css l
 | .pr a b,cs,x => ∃ ca cb,cs = ca ++ cb ∧ Rep w a ca x.1 ∧ Rep w b cb x.2
theorem Rep.ext {w w' : World} (h : Ext w w') : ∀ {s : Sh} {cs : List Value} {d : s.T},Rep w s cs d → Rep w' s cs d
 | .int,_,_,r => r
 | .flt,_,_,r => r
 | .bool,_,_,r => r
 | .str,_,_,r => r
 | .un,_,_,r => r
 | .sl e,_,_,⟨p,c,css,h1,h2,h3,h4,h5⟩ => ⟨p,c,css,h1,h2.ext h,h3,h4,h5.imp fun _ _ => Rep.ext h (s := e)⟩
 | .pr _ _,_,_,⟨ca,cb,h1,h2,h3⟩ => ⟨ca,cb,h1,Rep.ext h h2,Rep.ext h h3⟩
theorem Rep.size {w : World} : ∀ {s : Sh} {cs : List Value} {d : s.T},Rep w s cs d → cs.length = s.sz
 | .int,_,_,r => by cases r;rfl
 | .flt,_,_,⟨_,r,_⟩ => by cases r;rfl
 | .bool,_,_,r => by cases r;rfl
 | .str,_,_,r => by cases r;rfl
 | .un,_,_,r => by cases r;rfl
 | .sl e,_,_,⟨p,c,css,h1,_⟩ => by cases h1;rfl
 | .pr a b,_,_,⟨ca,cb,h1,h2,h3⟩ => by rw [h1,List.length_append,h2.size,h3.size];rfl
def jbb (w : World) (p : Option Addr) (n c : Nat) (vs : List Value) : Prop :=
 (p = none ∧ n = 0 ∧ c = 0 ∧ vs = []) ∨ ∃ g cur e,p = some ⟨g,0,none⟩ ∧ w.heap[g]? = some (.cells cur e (0,0)) ∧ cur.toList.take vs.length = vs
def jac : Option Addr → List Nat
 | none => []
 | some a => [a.block]
def Own (w : World) : (s : Sh) → List Value → s.T → List Nat → Prop
 | .int,cs,n,bs => cs = [.int .i64 n] ∧ bs = []
 | .flt,cs,x,bs => (∃ b,cs = [.float .f32 b] ∧ cn .f32 b = x) ∧ bs = []
 | .bool,cs,b,bs => cs = [.bool b] ∧ bs = []
 | .str,cs,s,bs => cs = [.string s] ∧ bs = []
 | .un,cs,_,bs => cs = [] ∧ bs = []
 | .sl e,cs,l,bs => ∃ p c css bss,cs = [.slice p l.length c] ∧ jbb w p l.length c (List.flatten css) ∧ l.length ≤ c ∧ c ≤ maxLen ∧ All2 (fun (x : List Value × List Nat) d => Own w e x.1 d x.2) (css.zip bss) l ∧ css.length = l.length ∧ bss.length = l.length ∧ bs = jac p ++ bss.flatten
 | .pr a b,cs,x,bs => ∃ ca cb ba bb,cs = ca ++ cb ∧ Own w a ca x.1 ba ∧ Own w b cb x.2 bb ∧ bs = ba ++ bb
theorem jbb.cs {w : World} {p : Option Addr} {n c : Nat} {vs : List Value} (h : jbb w p n c vs) : Cs w p vs := by
 rcases h with ⟨_,_,_,rfl⟩ | ⟨g,cur,e,rfl,hg,ht⟩
 · exact Cs.nil w p
 · refine ⟨fun i u hu => ?_,fun _ => rfl⟩
   have hi : i < vs.length := (List.getElem?_eq_some_iff.1 hu).1;rw [jap];unfold World.cell?;rw [hg];simp only [Option.isSome_none,Bool.false_eq_true,if_false];rw [← ht,List.getElem?_take,if_pos hi] at hu
   simpa using hu
theorem zip_fst {A B : Type} {R : A → Prop} : ∀ {us : List A} {bs : List B},us.length = bs.length → ∀ {C : Type} {ds : List C} {S : A × B → C → Prop} {T : A → C → Prop},(∀ x d,S x d → T x.1 d) → All2 S (us.zip bs) ds → All2 T us ds
 | [],[],_,_,_,_,_,_,h => by cases h;exact .nil
 | [],_ :: _,h,_,_,_,_,_,_ => by simp at h
 | _ :: _,[],h,_,_,_,_,_,_ => by simp at h
 | a :: us,b :: bs,h,_,_,_,_,hi,hz => by
   cases hz with
   | cons h1 h2 => exact .cons (hi _ _ h1) (zip_fst (R := R) (by simpa using h) hi h2)
theorem Own.rep {w : World} : ∀ {s : Sh} {cs : List Value} {d : s.T} {bs : List Nat},Own w s cs d bs → Rep w s cs d
 | .int,_,_,_,r => r.1
 | .flt,_,_,_,r => r.1
 | .bool,_,_,_,r => r.1
 | .str,_,_,_,r => r.1
 | .un,_,_,_,r => r.1
 | .sl e,_,_,_,⟨p,c,css,bss,h1,h2,h3,h4,h5,h6,h7,_⟩ => ⟨p,c,css,h1,h2.cs,h3,h4,zip_fst (R := fun _ => True) (by rw [h6,h7]) (fun _ _ h => Own.rep (s := e) h) h5⟩
 | .pr a b,_,_,_,⟨ca,cb,_,_,h1,h2,h3,_⟩ => ⟨ca,cb,h1,h2.rep,h3.rep⟩
structure Chg (S : Nat → Prop) (w w' : World) : Prop where
 os : w'.os = w.os
 tape : w'.tape = w.tape
 output : w'.output = w.output
 size : w.heap.size ≤ w'.heap.size
 block : ∀ k,k < w.heap.size → ¬ S k → w'.heap[k]? = w.heap[k]?
theorem Chg.refl (S : Nat → Prop) (w : World) : Chg S w w := ⟨rfl,rfl,rfl,Nat.le_refl _,fun _ _ _ => rfl⟩
theorem Chg.of_ext {S : Nat → Prop} {w w' : World} (h : Ext w w') : Chg S w w' := ⟨h.os,h.tape,h.output,h.size,fun k hk _ => h.block k hk⟩
theorem Chg.mono {S S' : Nat → Prop} {w w' : World} (h : Chg S w w') (hs : ∀ k,S k → S' k) : Chg S' w w' := ⟨h.os,h.tape,h.output,h.size,fun k hk hn => h.block k hk fun h' => hn (hs k h')⟩
theorem Chg.trans {S : Nat → Prop} {a b c : World} (h : Chg S a b) (k : Chg S b c) : Chg S a c :=
 ⟨k.os.trans h.os,k.tape.trans h.tape,k.output.trans h.output,Nat.le_trans h.size k.size,fun i hi hn => (k.block i (Nat.lt_of_lt_of_le hi h.size) hn).trans (h.block i hi hn)⟩
theorem px3 {S : Nat → Prop} {a b c : World} (h : Chg S a b) (e : Ext b c) : Chg S a c := h.trans (Chg.of_ext e)
theorem Chg.of_grown {w w' : World} {row : Option Nat} (h : w.grownBy w' row) : Chg (fun k => some k = row) w w' := ⟨h.os,h.tape,h.output,h.size,fun k hk hn => h.block k hk hn⟩
theorem Ext.chg {S : Nat → Prop} {w0 w w' : World} (h : Ext w0 w) (k : Chg S w w') (hs : ∀ b,S b → w0.heap.size ≤ b) : Ext w0 w' :=
 ⟨k.os.trans h.os,k.tape.trans h.tape,k.output.trans h.output,Nat.le_trans h.size k.size,fun i hi => (k.block i (Nat.lt_of_lt_of_le hi h.size) (fun hb => by have := hs i hb;omega)).trans (h.block i hi)⟩
theorem jbb.lt {w : World} {p : Option Addr} {n c : Nat} {vs : List Value} (h : jbb w p n c vs) : ∀ b ∈ jac p,b < w.heap.size := by
 rcases h with ⟨rfl,_⟩ | ⟨g,cur,e,rfl,hg,_⟩
 · intro b hb;simp [jac] at hb
 · intro b hb
   simp [jac] at hb;subst hb;rcases Nat.lt_or_ge b w.heap.size with h' | h'
   · exact h'
   · simp [Array.getElem?_eq_none h'] at hg
theorem jbb.chg {S : Nat → Prop} {w w' : World} {p : Option Addr} {n c : Nat} {vs : List Value} (h : jbb w p n c vs) (k : Chg S w w') (hs : ∀ b ∈ jac p,¬ S b) : jbb w' p n c vs := by
 have hl := h.lt;rcases h with h | ⟨g,cur,e,rfl,hg,ht⟩
 · exact .inl h
 · exact .inr ⟨g,cur,e,rfl,by rw [k.block g (hl g (by simp [jac])) (hs g (by simp [jac]))];exact hg,ht⟩
theorem All2.mem_imp {A B : Type} {R S : A → B → Prop} {us : List A} {bs : List B} (h : All2 R us bs) (hi : ∀ a b,a ∈ us → R a b → S a b) : All2 S us bs := by
 induction h with
 | nil => exact .nil
 | cons h _ ih => exact .cons (hi _ _ (by simp) h) (ih fun a b ha => hi a b (by simp [ha]))
theorem Own.chg {S : Nat → Prop} {w w' : World} (k : Chg S w w') : ∀ {s : Sh} {cs : List Value} {d : s.T} {bs : List Nat},Own w s cs d bs → (∀ b ∈ bs,¬ S b) → Own w' s cs d bs
 | .int,_,_,_,r,_ => r
 | .flt,_,_,_,r,_ => r
 | .bool,_,_,_,r,_ => r
 | .str,_,_,_,r,_ => r
 | .un,_,_,_,r,_ => r
 | .sl e,_,_,_,⟨p,c,css,bss,h1,h2,h3,h4,h5,h6,h7,h8⟩,hs => by
   subst h8
   exact ⟨p,c,css,bss,h1,h2.chg k (fun b hb => hs b (by simp [hb])),h3,h4,
    h5.mem_imp (fun x d hx h => Own.chg k (s := e) h fun b hb => hs b (by
     have := (List.of_mem_zip (show (x.1,x.2) ∈ css.zip bss from hx)).2;simp only [List.mem_append,List.mem_flatten];exact .inr ⟨x.2,this,hb⟩)),h6,h7,rfl⟩
 | .pr a b,_,_,_,⟨ca,cb,ba,bb,h1,h2,h3,h4⟩,hs => by
   subst h4;exact ⟨ca,cb,ba,bb,h1,Own.chg k h2 (fun b hb => hs b (by simp [hb])),Own.chg k h3 (fun b hb => hs b (by simp [hb])),rfl⟩
theorem Own.ext {w w' : World} {s : Sh} {cs : List Value} {d : s.T} {bs : List Nat} (h : Own w s cs d bs) (e : Ext w w') : Own w' s cs d bs := h.chg (S := fun _ => False) (.of_ext e) (fun _ _ h => h)
theorem Own.lt {w : World} : ∀ {s : Sh} {cs : List Value} {d : s.T} {bs : List Nat},Own w s cs d bs → ∀ b ∈ bs,b < w.heap.size
 | .int,_,_,_,r,b,hb => by rw [r.2] at hb;cases hb
 | .flt,_,_,_,r,b,hb => by rw [r.2] at hb;cases hb
 | .bool,_,_,_,r,b,hb => by rw [r.2] at hb;cases hb
 | .str,_,_,_,r,b,hb => by rw [r.2] at hb;cases hb
 | .un,_,_,_,r,b,hb => by rw [r.2] at hb;cases hb
 | .sl e,_,l,_,⟨p,c,css,bss,h1,h2,h3,h4,h5,h6,h7,h8⟩,b,hb => by
   subst h8;rcases List.mem_append.1 hb with hb | hb
   · exact h2.lt b hb
   · obtain ⟨bs',h9,h10⟩ := List.mem_flatten.1 hb
     obtain ⟨i,hi,rfl⟩ := List.mem_iff_getElem.1 h9;have hil : i < l.length := by omega
     obtain ⟨h11,h12⟩ := h5.get' i hil;simp only [List.getElem_zip] at h12;exact Own.lt (s := e) h12 b h10
 | .pr a b,_,_,_,⟨ca,cb,ba,bb,h1,h2,h3,h4⟩,x,hx => by
   subst h4;rcases List.mem_append.1 hx with hx | hx
   · exact h2.lt x hx
   · exact h3.lt x hx
/-! ### Rows,read and written -/
theorem jbl {w : World} {B e s n c : Nat} {p : Option Addr} {vs : List Value} (h : w.ownsRow B e s (.slice p n c) n vs) : jbb w p n c vs := by
 obtain ⟨h1,h2⟩ := h;rcases h2 with ⟨hv,h0⟩ | ⟨g,cap,cur,hv,hg,hh,hn,hm,hs,ht⟩
 · cases hv;exact .inl ⟨rfl,rfl,rfl,List.eq_nil_of_length_eq_zero (by simpa using h1)⟩
 · cases hv;exact .inr ⟨g,cur,e,rfl,hh,by rw [h1];exact ht⟩
theorem jat {w : World} {B e s n c : Nat} {p : Option Addr} {vs : List Value} (h : w.ownsRow B e s (.slice p n c) n vs) : n ≤ c ∧ c ≤ maxLen := by
 rcases h.2 with ⟨hv,h0⟩ | ⟨g,cap,cur,hv,hg,hh,hn,hm,hs,ht⟩
 · cases hv;exact ⟨Nat.le_refl _,Nat.zero_le _⟩
 · cases hv;exact ⟨hn,hm⟩
theorem jbb.set {w : World} {p : Option Addr} {n c : Nat} {vs : List Value} (h : jbb w p n c vs) (i : Nat) (hi : i < vs.length) (u : Value) :
 jbb (w.setCell (adr p i) u) p n c (vs.set i u) ∧ Chg (fun b => b ∈ jac p) w (w.setCell (adr p i) u) ∧ w.frozen? (adr p i) = false ∧ ∃ v,w.cell? (adr p i) = some v := by
 rcases h with ⟨_,_,_,rfl⟩ | ⟨g,cur,e,rfl,hg,ht⟩
 · simp at hi
 · rw [jap]
   have hcs : i < cur.size := by
    have : (cur.toList.take vs.length).length = vs.length := by rw [ht]
    rw [List.length_take] at this;simp at this;omega
   refine ⟨.inr ⟨g,cur.setIfInBounds i u,e,rfl,?_,?_⟩,⟨rfl,rfl,rfl,by simp [World.setCell],fun k hk hn => Below.heap_setCell _ _ _ _ (fun h => hn (by simp [jac,h]))⟩,?_,?_⟩
   · simp [World.setCell,Array.getElem?_modify,hg]
   · rw [Array.toList_setIfInBounds,List.length_set,List.take_set,ht]
   · simp [World.frozen?,hg]
   · exact ⟨cur[i],by simp [World.cell?,hg,hcs]⟩
theorem F32s.cons {v : Value} {vs : List Value} {x : Nat} {xs : List Nat} {b : Nat} (hv : v = .float .f32 b) (hb : cn .f32 b = x) (h : F32s vs xs) : F32s (v :: vs) (x :: xs) :=
 ⟨by simp [h.1],fun i hi => by
  cases i with
  | zero => exact ⟨b,by simp [hv],by simpa using hb⟩
  | succ i => obtain ⟨b',h1,h2⟩ := h.2 i (by simpa using hi);exact ⟨b',by simpa using h1,by simpa using h2⟩⟩
theorem F32s.tail {v : Value} {vs : List Value} {x : Nat} {xs : List Nat} (h : F32s (v :: vs) (x :: xs)) : F32s vs xs :=
 ⟨by simpa using h.1,fun i hi => by obtain ⟨b,h1,h2⟩ := h.2 (i + 1) (by simpa using hi);exact ⟨b,by simpa using h1,by simpa using h2⟩⟩
theorem F32s.head {v : Value} {vs : List Value} {x : Nat} {xs : List Nat} (h : F32s (v :: vs) (x :: xs)) : ∃ b,v = .float .f32 b ∧ cn .f32 b = x := by
 obtain ⟨b,h1,h2⟩ := h.2 0 (by simp);exact ⟨b,by simpa using h1,by simpa using h2⟩
theorem flatten_map_one : ∀ (vs : List Value),(vs.map fun v => [v]).flatten = vs
 | [] => rfl
 | v :: vs => by simp [flatten_map_one vs]
theorem rep_flts_all {w : World} : ∀ {vs : List Value} {xs : List Nat},F32s vs xs → All2 (Rep w .flt) (vs.map fun v => [v]) xs
 | [],[],_ => .nil
 | [],_ :: _,h => by have := h.1;simp at this
 | _ :: _,[],h => by have := h.1;simp at this
 | v :: vs,x :: xs,h => .cons (by obtain ⟨b,rfl,hb⟩ := h.head;exact ⟨b,rfl,hb⟩) (rep_flts_all h.tail)
theorem flts_of_all {w : World} {css : List (List Value)} {xs : List Nat} (h : All2 (Rep w .flt) css xs) : F32s css.flatten xs := by
 induction h with
 | nil => exact ⟨rfl,fun i hi => by simp at hi⟩
 | cons h _ ih => obtain ⟨b,rfl,hb⟩ := h;exact F32s.cons rfl hb ih
theorem ja5 {w : World} {cs : List Value} {xs : List Nat} : Rep w (.sl .flt) cs xs ↔ ∃ p c vs,cs = [.slice p xs.length c] ∧ Cs w p vs ∧ F32s vs xs ∧ xs.length ≤ c ∧ c ≤ maxLen := by
 constructor
 · rintro ⟨p,c,css,h1,h2,h3,h4,h5⟩;exact ⟨p,c,_,h1,h2,flts_of_all h5,h3,h4⟩
 · rintro ⟨p,c,vs,h1,h2,h3,h4,h5⟩;exact ⟨p,c,_,h1,by rw [flatten_map_one];exact h2,h4,h5,rep_flts_all h3⟩
theorem zip_nils : ∀ (vs : List Value),((vs.map fun v => [v]).zip (vs.map fun _ => ([] : List Nat))) = vs.map fun v => ([v],[])
 | [] => rfl
 | v :: vs => by simp [zip_nils vs]
theorem own_flts_all {w : World} : ∀ {vs : List Value} {xs : List Nat},F32s vs xs → All2 (fun (x : List Value × List Nat) (d : Nat) => Own w .flt x.1 d x.2) (vs.map fun v => ([v],[])) xs
 | [],[],_ => .nil
 | [],_ :: _,h => by have := h.1;simp at this
 | _ :: _,[],h => by have := h.1;simp at this
 | v :: vs,x :: xs,h => .cons (by obtain ⟨b,rfl,hb⟩ := h.head;exact ⟨⟨b,rfl,hb⟩,rfl⟩) (own_flts_all h.tail)
theorem nils_flatten : ∀ (vs : List Value),(vs.map fun _ => ([] : List Nat)).flatten = []
 | [] => rfl
 | v :: vs => by simp [nils_flatten vs]
theorem own_nils {w : World} : ∀ {css : List (List Value)} {bss : List (List Nat)} {xs : List Nat},All2 (fun (x : List Value × List Nat) (d : Nat) => Own w .flt x.1 d x.2) (css.zip bss) xs → css.length = xs.length → bss.length = xs.length → bss.flatten = []
 | [],[],[],_,_,_ => rfl
 | [],_ :: _,[],_,_,h => by simp at h
 | _ :: _,_,[],_,h,_ => by simp at h
 | [],_,_ :: _,_,h,_ => by simp at h
 | _ :: _,[],_ :: _,_,_,h => by simp at h
 | cs :: css,bs :: bss,x :: xs,h,h1,h2 => by
   cases h with
   | cons h3 h4 =>
     have h5 : bs = [] := h3.2;rw [List.flatten_cons,h5,own_nils h4 (by simpa using h1) (by simpa using h2)];rfl
theorem jbv {w : World} {cs : List Value} {xs : List Nat} {bs : List Nat} : Own w (.sl .flt) cs xs bs ↔ ∃ p c vs,cs = [.slice p xs.length c] ∧ jbb w p xs.length c vs ∧ F32s vs xs ∧ xs.length ≤ c ∧ c ≤ maxLen ∧ bs = jac p := by
 constructor
 · rintro ⟨p,c,css,bss,h1,h2,h3,h4,h5,h6,h7,h8⟩
   refine ⟨p,c,css.flatten,h1,h2,flts_of_all (zip_fst (R := fun _ => True) (T := Rep w .flt) (by rw [h6,h7]) (fun _ _ h => Own.rep (s := .flt) h) h5),h3,h4,?_⟩;rw [h8,own_nils h5 h6 h7,List.append_nil]
 · rintro ⟨p,c,vs,h1,h2,h3,h4,h5,h6⟩
   refine ⟨p,c,vs.map fun v => [v],vs.map fun _ => [],h1,by rw [flatten_map_one];exact h2,h4,h5,by rw [zip_nils];exact own_flts_all h3,by rw [List.length_map];exact h3.1,by rw [List.length_map];exact h3.1,?_⟩;rw [h6,nils_flatten,List.append_nil]
instance tyI64 : SlTy Try.prog 45 2 1 (.int .i64 0) 8 := ⟨by kernel_rfl,by kernel_rfl,by kernel_rfl,by decide,by decide⟩
instance tyF32 : SlTy Try.prog 25 33 1 (.float .f32 0) 4 := ⟨by kernel_rfl,by kernel_rfl,by kernel_rfl,by decide,by decide⟩
instance tyU8 : SlTy Try.prog 22 5 1 (.int .u8 0) 1 := ⟨by kernel_rfl,by kernel_rfl,by kernel_rfl,by decide,by decide⟩
instance tyI64s : SlTy Try.prog 42 45 1 (.slice none 0 0) 24 := ⟨by kernel_rfl,by kernel_rfl,by kernel_rfl,by decide,by decide⟩
instance tyF32s : SlTy Try.prog 30 25 1 (.slice none 0 0) 24 := ⟨by kernel_rfl,by kernel_rfl,by kernel_rfl,by decide,by decide⟩
instance c1I64 : Cell1 Try.prog 2 := ⟨by kernel_rfl,by kernel_rfl⟩
instance c1Int : Cell1 Try.prog 3 := ⟨by kernel_rfl,by kernel_rfl⟩
instance c1Bool : Cell1 Try.prog 4 := ⟨by kernel_rfl,by kernel_rfl⟩
instance c1U8 : Cell1 Try.prog 5 := ⟨by kernel_rfl,by kernel_rfl⟩
instance c1Str : Cell1 Try.prog 9 := ⟨by kernel_rfl,by kernel_rfl⟩
instance c1F32 : Cell1 Try.prog 33 := ⟨by kernel_rfl,by kernel_rfl⟩
instance c1F64 : Cell1 Try.prog 83 := ⟨by kernel_rfl,by kernel_rfl⟩
instance c1SlI64 : Cell1 Try.prog 45 := ⟨by kernel_rfl,by kernel_rfl⟩
instance c1SlF32 : Cell1 Try.prog 25 := ⟨by kernel_rfl,by kernel_rfl⟩
instance c1SlU8 : Cell1 Try.prog 22 := ⟨by kernel_rfl,by kernel_rfl⟩
def inB (n lo hi : Int) : Bool := decide (lo ≤ n) && decide (n ≤ hi)
theorem jas {n lo hi : Int} : inB n lo hi = true ↔ lo ≤ n ∧ n ≤ hi := by simp [inB]
theorem inB_false {n lo hi : Int} : inB n lo hi = false ↔ n < lo ∨ hi < n := by simp [inB];omega
theorem ret_bool {a b : Bool} (h : a = b) : Ending.returned (.bool a) = .returned (.bool b) := by rw [h]
theorem jau (n lo hi : Int) (w : World) :
 Calls Try.prog 57 #[.int .i64 n,.int .i64 lo,.int .i64 hi] w fun e w' => e = .returned (.bool (inB n lo hi)) ∧ w = w' := by
 by_cases h1 : lo ≤ n
 · by_cases h2 : n ≤ hi
   all_goals
    go_enter Try.func57,Try.ntmps57;go_wp2;go_ret;exact ⟨by simp [inB,h1,h2],rfl⟩
 · go_enter Try.func57,Try.ntmps57
   go_wp2;go_ret;exact ⟨ret_bool (inB_false.2 (Or.inl (by omega))).symm,rfl⟩
theorem l00In_any (n lo hi : Int) (w : World) :
 Calls Try.prog 151 #[.int .i64 n,.int .i64 lo,.int .i64 hi] w fun e w' => e = .returned (.bool (inB n lo hi)) ∧ w = w' := by
 by_cases h1 : lo ≤ n
 · by_cases h2 : n ≤ hi
   all_goals
    go_enter Try.func151,Try.ntmps151;go_wp2;go_ret;exact ⟨by simp [inB,h1,h2],rfl⟩
 · go_enter Try.func151,Try.ntmps151
   go_wp2;go_ret;exact ⟨ret_bool (inB_false.2 (Or.inl (by omega))).symm,rfl⟩
theorem isSide_any (n : Int) (w : World) :
 Calls Try.prog 56 #[.int .i64 n] w fun e w' => e = .returned (.bool (inB n 1 16)) ∧ w = w' := by
 go_enter Try.func56,Try.ntmps56;go_wp2_with (go_at_call 57;refine (jau _ _ _ _).mono ?_;rintro e w' ⟨rfl,rfl⟩);go_ret;exact ⟨rfl,rfl⟩
theorem order_self {k : FloatKind} {x : Nat} (h : (k.decode x).isNaN = false) : k.format.order x x = some .eq := by
 unfold Ieee.Format.order;rw [jby]
 cases hd : k.decode x with
 | nan s f => rw [hd] at h;simp [Ieee.Datum.isNaN] at h
 | infinity s => simp [Ieee.Datum.order]
 | number s m e => simp [Ieee.Datum.order]
theorem order_nan {k : FloatKind} {x : Nat} (h : (k.decode x).isNaN = true) (y : Nat) : k.format.order x y = none := by
 unfold Ieee.Format.order;rw [jby,jby];exact order_nan_l h
theorem isNaN_of_cn {k : FloatKind} {x y : Nat} (h : cn k x = cn k y) : (k.decode x).isNaN = (k.decode y).isNaN := by
 rw [← jbj k x,h,jbj]
theorem eq_of_cn {k : FloatKind} {x y : Nat} (h : cn k x = cn k y) (hx : (k.decode x).isNaN = false) : x = y := by
 have hy : (k.decode y).isNaN = false := by rw [← isNaN_of_cn h];exact hx
 rw [jba hx,jba hy] at h;exact h
theorem F32s.get {vs : List Value} {xs : List Nat} (h : F32s vs xs) {i : Nat} (hi : i < xs.length) : ∃ b,vs[i]? = some (.float .f32 b) ∧ cn .f32 b = xs.getD i 0 := h.2 i hi
theorem F32s.nil : F32s [] [] := ⟨rfl,fun i hi => by simp at hi⟩
theorem jax : Try.prog.underlying 83 = some (.float .f64) := by kernel_rfl
theorem jaq : Try.prog.underlying 33 = some (.float .f32) := by kernel_rfl
def anyTo (q : Nat → Bool) : Nat → Bool
 | 0 => false
 | n + 1 => anyTo q n || q n
theorem anyTo_true {q : Nat → Bool} : ∀ {n : Nat},anyTo q n = true ↔ ∃ i,i < n ∧ q i = true
 | 0 => by simp [anyTo]
 | n + 1 => by
   rw [anyTo,Bool.or_eq_true,anyTo_true]
   constructor
   · rintro (⟨i,h1,h2⟩ | h)
     · exact ⟨i,by omega,h2⟩
     · exact ⟨n,by omega,h⟩
   · rintro ⟨i,h1,h2⟩
     by_cases hi : i = n
     · subst hi;exact .inr h2
     · exact .inl ⟨i,by omega,h2⟩
theorem anyTo_false {q : Nat → Bool} {n : Nat} (h : ∀ i,i < n → q i = false) : anyTo q n = false := by
 rw [← Bool.not_eq_true,anyTo_true];rintro ⟨i,h1,h2⟩;rw [h i h1] at h2;cases h2
def PredOk (fn : Nat) (cap : Array Value) (vs : List Value) (q : Nat → Bool) (w : World) : Prop :=
 ∀ (i : Nat) (u : Value) (W : World),vs[i]? = some u → Ext w W → Calls Try.prog fn (#[u] ++ cap) W fun e w' => e = .returned (.bool (q i)) ∧ Ext W w'
theorem indexFuncF32_any (fn : Nat) (cap : Array Value) (eg : ∀ args w,(callFunc fn args).run Try.prog w = .ok (.enter fn args) w) (p : Option Addr) (n c : Nat) (vs : List Value) (q : Nat → Bool) (w : World) (hv : vs.length = n) (hn : n ≤ maxLen) (hc : Cs w p vs) (hq : PredOk fn cap vs q w) :
 Calls Try.prog 128 #[.slice p n c,.func (.func fn) #[] cap] w fun e w' => ∃ z : Int,e = .returned (.int .i64 z) ∧ (0 ≤ z ↔ anyTo q n = true) ∧ Ext w w' := by
 have Hv := hid hv;have Hq := hid hq;clear hv hq;unfold maxLen at hn;go_enter Try.func128,Try.ntmps128;go_wp2;go_loopw [8] (fun iv wr => ∃ i : Nat,i ≤ n ∧ iv = .int .i64 i ∧ Hid (∀ j,j < i → q j = false) ∧ Ext w wr) (fun iv _ => n - (intOf iv).toNat)
 case atStart => exact ⟨0,by omega,rfl,fun j hj => by omega,Ext.refl w⟩
 case round =>
  obtain ⟨i,hi,rfl,Hall,he⟩ := hrel
  by_cases hlt : i < n
  · have hp' := hc.ext he
    have hvi : i < vs.length := by rw [Hv.out];exact hlt
    have hu : vs[i]? = some vs[i] := by simp
    have hcall := Hq.out i vs[i] wr hu he
    cases hqi : q i with
    | true =>
      have Hqi := hid hqi;clear hqi;rw [Hqi.out] at hcall;go_wp2_with (first | (go_at_fn fn;refine hcall.mono ?_;rintro e w1 ⟨rfl,e1⟩) | (refine wl_idxload rfl rfl rfl rfl (fun _ => rfl) rfl rfl hp' Hv.out (by omega) (by omega) ?_;intro u hu';rw [Int.toNat_natCast,hu] at hu';cases hu'));go_ret;refine ⟨i,rfl,⟨fun _ => anyTo_true.2 ⟨i,hlt,Hqi.out⟩,fun _ => by omega⟩,he.trans e1⟩
    | false =>
      have Hqi := hid hqi;clear hqi;rw [Hqi.out] at hcall;go_wp2_with (first | (go_at_fn fn;refine hcall.mono ?_;rintro e w1 ⟨rfl,e1⟩) | (refine wl_idxload rfl rfl rfl rfl (fun _ => rfl) rfl rfl hp' Hv.out (by omega) (by omega) ?_;intro u hu';rw [Int.toNat_natCast,hu] at hu';cases hu'));go_roundw
      case rel =>
       refine ⟨i + 1,by omega,by go_num,fun j hj => ?_,he.trans e1⟩
       by_cases hji : j = i
       · subst hji;exact Hqi.out
       · exact Hall j (by omega)
      case measure => simp [intOf];omega
  · obtain rfl : i = n := by omega
    go_wp2;go_ret;exact ⟨-1,rfl,by rw [anyTo_false Hall.out];simp,he⟩
theorem containsFuncF32_any (fn : Nat) (cap : Array Value) (eg : ∀ args w,(callFunc fn args).run Try.prog w = .ok (.enter fn args) w) (p : Option Addr) (n c : Nat) (vs : List Value) (q : Nat → Bool) (w : World) (hv : vs.length = n) (hn : n ≤ maxLen) (hc : Cs w p vs) (hq : PredOk fn cap vs q w) :
 Calls Try.prog 82 #[.slice p n c,.func (.func fn) #[] cap] w fun e w' => e = .returned (.bool (anyTo q n)) ∧ Ext w w' := by
 have hcall := indexFuncF32_any fn cap eg p n c vs q w hv hn hc hq;generalize anyTo q n = b at *;clear hv hc hq eg;go_enter Try.func82,Try.ntmps82;go_wp2_with fail;refine hcall.mono ?_;rintro e w1 ⟨z,rfl,hz,he⟩
 have Hz := hid hz;clear hz;go_wp2;go_ret;refine ⟨ret_bool ?_,he⟩;have := Hz.out
 cases b <;> simp at this <;> simp <;> omega
def tot : (s : Sh) → s.T → Nat
 | .sl e,l => l.length + (l.map (tot e)).sum
 | .str,s => s.size
 | .pr a b,x => tot a x.1 + tot b x.2
 | _,_ => 0
def Sh.agg : Sh → Bool
 | .pr _ _ => true
 | .un => true
 | _ => false
def ofCs (s : Sh) (cs : List Value) : Value := if s.agg then .agg cs.toArray else cs.headD undef
def most : Nat := 1048576
theorem Own.keep {w : World} {s : Sh} {cs : List Value} {d : s.T} {bs : List Nat} (h : Own w s cs d bs) {B : Nat} (hb : ∀ b ∈ bs,B ≤ b) {a : Addr} (ha : a.block < B) (v : Value) : Own (w.setCell a v) s cs d bs :=
 h.chg (S := fun b => b = a.block) (show Chg _ w (w.setCell a v) from ⟨rfl,rfl,rfl,by simp [World.setCell],fun k hk hn => Below.heap_setCell _ _ _ _ hn⟩) (fun b hb' he => by have := hb b hb';omega)
theorem Own.alloc {w : World} {s : Sh} {cs : List Value} {d : s.T} {bs : List Nat} (h : Own w s cs d bs) (o : Obj) : Own (w.alloc o) s cs d bs := h.ext (Ext.alloc w o)
theorem rep_val {w : World} {e : Sh} {cs : List Value} {l : List e.T} (h : Rep w (.sl e) cs l) : ∃ p c,cs = [.slice p l.length c] ∧ l.length ≤ maxLen := by
 obtain ⟨p,c,_,h1,_,h3,h4,_⟩ := h;exact ⟨p,c,h1,Nat.le_trans h3 h4⟩
theorem tot_flts (xs : List Nat) : tot (.sl .flt) xs = xs.length := by
 have : ∀ l : List Nat,(l.map (tot .flt)).sum = 0 := fun l => by induction l with | nil => rfl | cons x l ih => simpa [tot] using ih
 show xs.length + (xs.map (tot .flt)).sum = _;rw [this];rfl
theorem Ext.cellOf {W w1 : World} (h : Ext W w1) {b : Nat} (hb : b < W.heap.size) : (∀ o,w1.cell? ⟨b,o,none⟩ = W.cell? ⟨b,o,none⟩) ∧ (∀ o,w1.frozen? ⟨b,o,none⟩ = W.frozen? ⟨b,o,none⟩) :=
 ⟨fun o => World.cell?_of_block (h.block b hb),fun o => World.frozen?_of_block (h.block b hb)⟩
theorem Chg.cellOf {S : Nat → Prop} {W w1 : World} (h : Chg S W w1) {b : Nat} (hb : b < W.heap.size) (hn : ¬ S b) : (∀ o,w1.cell? ⟨b,o,none⟩ = W.cell? ⟨b,o,none⟩) ∧ (∀ o,w1.frozen? ⟨b,o,none⟩ = W.frozen? ⟨b,o,none⟩) :=
 ⟨fun o => World.cell?_of_block (h.block b hb hn),fun o => World.frozen?_of_block (h.block b hb hn)⟩
theorem Chg.setCell {S : Nat → Prop} {w0 w : World} (h : Chg S w0 w) {p : Addr} (hp : S p.block) (u : Value) : Chg S w0 (w.setCell p u) :=
 h.trans ⟨rfl,rfl,rfl,by simp [World.setCell],fun k hk hn => Below.heap_setCell _ _ _ _ (fun he => hn (he ▸ hp))⟩
theorem Chg.alloc {S : Nat → Prop} {w0 w : World} (h : Chg S w0 w) (o : Obj) : Chg S w0 (w.alloc o) := h.trans (.of_ext (Ext.alloc w o))
theorem Chg.drew {S : Nat → Prop} {w0 w : World} (h : Chg S w0 w) : Chg S w0 w.drew := h.trans (.of_ext (Ext.drew w))
end Go.Proofs.Ytmbckkcgiafagaa
