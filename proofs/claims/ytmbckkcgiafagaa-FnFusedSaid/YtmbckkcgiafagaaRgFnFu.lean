/- Regions whose order is drawn: operations that only read old memory, make new memory or call what does so may come in any order; the walk goes once through the text's order. -/
import Derived.Test.YtmbckkcgiafagaaRows
import Derived.WalkKit
import Derived.WalkSpells
import Derived.WalkLawsBesides
import Derived.Deep.LoopGhost
set_option linter.unusedSimpArgs false
set_option linter.unusedVariables false
set_option maxRecDepth 100000
set_option maxHeartbeats 16000000
namespace Go.Proofs.Ytmbckkcgiafagaa
open Go.RowKit
theorem pu1 {T : Type} {i : Nat} {x : T} {l : List T} : l.toArray.setIfInBounds i x = (l.set i x).toArray := by simp
theorem pu2 {T : Type} {i : Nat} {x y : T} {l : List T} : (y :: l).set (i + 1) x = y :: l.set i x := rfl
theorem pu3 {T : Type} {x y : T} {l : List T} : (y :: l).set 0 x = x :: l := rfl
theorem pu4 {T : Type} {i : Nat} {x d : T} {l : List T} : (x :: l).getD (i + 1) d = l.getD i d := rfl
theorem pu5 {T : Type} {x d : T} {l : List T} : (x :: l).getD 0 d = x := rfl
theorem pv1 {T : Type} {l : List T} {i : Nat} (h : i < l.toArray.size) : l.toArray[i] = l[i]'(by simpa using h) := List.getElem_toArray h
theorem pv2 {T : Type} {x : T} {l : List T} {i : Nat} (h : i + 1 < (x :: l).length) : (x :: l)[i + 1] = l[i]'(by simpa using h) := List.getElem_cons_succ ..
theorem pw1 {T : Type} {i : Nat} {x : T} {l : List T} : (x :: l).take (i + 1) = x :: l.take i := rfl
theorem pw2 {T : Type} {l : List T} : l.take 0 = [] := by simp
theorem pw3 {T : Type} {i : Nat} {x : T} {l : List T} : (x :: l).drop (i + 1) = l.drop i := rfl
theorem pw4 {T : Type} {l : List T} : l.drop 0 = l := by simp
theorem pv3 {T : Type} {x : T} {l : List T} (h : 0 < (x :: l).length) : (x :: l)[0] = x := List.getElem_cons_zero ..
abbrev gx2 {P : Program} {o : Array Oper} {Q : Exit → Act → World → Prop} {d0 : Option Tmp} {t0 : TypeId} {s0 : String} {e0 : Array Edge} {g0 : Option (Nat × Bool)} {x00 : TypeId} {x01 : Operand} {x02 : Operand} {d1 : Option Tmp} {t1 : TypeId} {s1 : String} {e1 : Array Edge} {g1 : Option (Nat × Bool)} {x10 : TypeId} {x11 : Operand} {r : List Oper} {a : Act} {w : World} : Prop := wpList P o Q (Oper.mk d0 (Op.indexAddr x00 x01 x02) t0 s0 e0 g0 :: Oper.mk d1 (Op.load x10 x11) t1 s1 e1 g1 :: r) a w
abbrev gx3 {P : Program} {o : Array Oper} {Q : Exit → Act → World → Prop} {d0 : Option Tmp} {t0 : TypeId} {s0 : String} {e0 : Array Edge} {g0 : Option (Nat × Bool)} {x00 : BinOp} {x01 : TypeId} {x02 : Operand} {x03 : Operand} {x04 : TypeId} {r : List Oper} {a : Act} {w : World} : Prop := wpList P o Q (Oper.mk d0 (Op.binOp x00 x01 x02 x03 x04) t0 s0 e0 g0 :: r) a w
abbrev gx4 {P : Program} {o : Array Oper} {Q : Exit → Act → World → Prop} {d0 : Option Tmp} {t0 : TypeId} {s0 : String} {e0 : Array Edge} {g0 : Option (Nat × Bool)} {x00 : TypeId} {x01 : TypeId} {x02 : Operand} {r : List Oper} {a : Act} {w : World} : Prop := wpList P o Q (Oper.mk d0 (Op.convert x00 x01 x02) t0 s0 e0 g0 :: r) a w
abbrev gx8 {P : Program} {o : Array Oper} {Q : Exit → Act → World → Prop} {d0 : Option Tmp} {t0 : TypeId} {s0 : String} {e0 : Array Edge} {g0 : Option (Nat × Bool)} {x00 : Call} {r : List Oper} {a : Act} {w : World} : Prop := wpList P o Q (Oper.mk d0 (Op.call x00) t0 s0 e0 g0 :: r) a w
abbrev gx9 {P : Program} {o : Array Oper} {Q : Exit → Act → World → Prop} {d0 : Option Tmp} {t0 : TypeId} {s0 : String} {e0 : Array Edge} {g0 : Option (Nat × Bool)} {x00 : TypeId} {x01 : Nat} {x02 : Array (Nat × Operand)} {d1 : Option Tmp} {t1 : TypeId} {s1 : String} {e1 : Array Edge} {g1 : Option (Nat × Bool)} {x10 : Call} {r : List Oper} {a : Act} {w : World} : Prop := wpList P o Q (Oper.mk d0 (Op.buildSlice x00 x01 x02) t0 s0 e0 g0 :: Oper.mk d1 (Op.call x10) t1 s1 e1 g1 :: r) a w
abbrev gx10 {P : Program} {o : Array Oper} {Q : Exit → Act → World → Prop} {d0 : Option Tmp} {t0 : TypeId} {s0 : String} {e0 : Array Edge} {g0 : Option (Nat × Bool)} {x00 : TypeId} {x01 : Operand} {x02 : Operand} {d1 : Option Tmp} {t1 : TypeId} {s1 : String} {e1 : Array Edge} {g1 : Option (Nat × Bool)} {x10 : TypeId} {x11 : Operand} {x12 : Operand} {r : List Oper} {a : Act} {w : World} : Prop := wpList P o Q (Oper.mk d0 (Op.indexAddr x00 x01 x02) t0 s0 e0 g0 :: Oper.mk d1 (Op.store x10 x11 x12) t1 s1 e1 g1 :: r) a w
abbrev gx11 {P : Program} {o : Array Oper} {Q : Exit → Act → World → Prop} {d0 : Option Tmp} {t0 : TypeId} {s0 : String} {e0 : Array Edge} {g0 : Option (Nat × Bool)} {x00 : TypeId} {x01 : Operand} {x02 : Operand} {r : List Oper} {a : Act} {w : World} : Prop := wpList P o Q (Oper.mk d0 (Op.store x00 x01 x02) t0 s0 e0 g0 :: r) a w
abbrev gx12 {P : Program} {o : Array Oper} {Q : Exit → Act → World → Prop} {d0 : Option Tmp} {t0 : TypeId} {s0 : String} {e0 : Array Edge} {g0 : Option (Nat × Bool)} {x00 : TypeId} {x01 : Operand} {r : List Oper} {a : Act} {w : World} : Prop := wpList P o Q (Oper.mk d0 (Op.box x00 x01) t0 s0 e0 g0 :: r) a w
abbrev gx13 {P : Program} {o : Array Oper} {Q : Exit → Act → World → Prop} {d0 : Option Tmp} {t0 : TypeId} {s0 : String} {e0 : Array Edge} {g0 : Option (Nat × Bool)} {x00 : TypeId} {x01 : Operand} {r : List Oper} {a : Act} {w : World} : Prop := wpList P o Q (Oper.mk d0 (Op.load x00 x01) t0 s0 e0 g0 :: r) a w
abbrev gx14 {P : Program} {o : Array Oper} {Q : Exit → Act → World → Prop} {d0 : Option Tmp} {t0 : TypeId} {s0 : String} {e0 : Array Edge} {g0 : Option (Nat × Bool)} {x00 : TypeId} {x01 : Operand} {x02 : Operand} {d1 : Option Tmp} {t1 : TypeId} {s1 : String} {e1 : Array Edge} {g1 : Option (Nat × Bool)} {x10 : TypeId} {x11 : Operand} {x12 : Nat} {r : List Oper} {a : Act} {w : World} : Prop := wpList P o Q (Oper.mk d0 (Op.indexAddr x00 x01 x02) t0 s0 e0 g0 :: Oper.mk d1 (Op.fieldAddr x10 x11 x12) t1 s1 e1 g1 :: r) a w
theorem hid {p : Prop} (h : p) : Hid p := h
structure Ext (w w' : World) : Prop where
 os : w'.os = w.os
 tape : w'.tape = w.tape
 output : w'.output = w.output
 size : w.heap.size ≤ w'.heap.size
 block : ∀ k,k < w.heap.size → w'.heap[k]? = w.heap[k]?
theorem Ext.refl (w : World) : Ext w w := ⟨rfl,rfl,rfl,Nat.le_refl _,fun _ _ => rfl⟩
theorem Ext.trans {a b c : World} (h : Ext a b) (k : Ext b c) : Ext a c :=
 ⟨k.os.trans h.os,k.tape.trans h.tape,k.output.trans h.output,Nat.le_trans h.size k.size,fun i hi => (k.block i (Nat.lt_of_lt_of_le hi h.size)).trans (h.block i hi)⟩
theorem Ext.drewN (w : World) (n : Nat) : Ext w (w.drewN n) := ⟨rfl,rfl,rfl,Nat.le_refl _,fun _ _ => rfl⟩
theorem Ext.drew (w : World) : Ext w w.drew := Ext.drewN w 1
theorem Ext.alloc (w : World) (o : Obj) : Ext w (w.alloc o) :=
 ⟨rfl,rfl,rfl,by simp,fun k hk => Below.heap_alloc w o k hk⟩
theorem px1 {w w' : World} (h : Ext w w') (o : Obj) : Ext w (w'.alloc o) := h.trans (Ext.alloc w' o)
theorem px2 {w w' : World} (h : Ext w w') : Ext w w'.drew := h.trans (Ext.drew w')
theorem Ext.below {w w' : World} (h : Ext w w') : Below w.heap.size w w' := ⟨h.os,h.tape,h.output,h.size,h.block⟩
theorem Ext.of_below {w w' : World} (h : Below w.heap.size w w') : Ext w w' := ⟨h.os,h.tape,h.output,h.size,h.block⟩
theorem lt_of_cell {w : World} {p : Addr} {v : Value} (h : w.cell? p = some v) : p.block < w.heap.size := by
 rcases Nat.lt_or_ge p.block w.heap.size with h' | h'
 · exact h'
 · simp [World.cell?,Array.getElem?_eq_none h'] at h
theorem Ext.cell {w w' : World} (h : Ext w w') {p : Addr} {v : Value} (hp : w.cell? p = some v) : w'.cell? p = some v := by
 rw [World.cell?_of_block (h.block _ (lt_of_cell hp))];exact hp
theorem Ext.frozen {w w' : World} (h : Ext w w') {p : Addr} {b : Bool} (hb : p.block < w.heap.size) (hp : w.frozen? p = b) : w'.frozen? p = b := by
 rw [World.frozen?_of_block (h.block _ hb)];exact hp
section
variable {P : Program} {ops : Array Oper} {md : Region.Mode}
theorem run_callf {P : Program} {o : Oper} {a : Act} {f : FuncId} {fn : Func} {xs : Array Operand} {ts : Array TypeId} {args : Array Value} (ho : o.op = .call { callee := .value (.func f),args := xs,argTypes := ts })
 (hf : P.funcs[f]? = some fn) (hb : fn.body.isNone = false) (hn : (fn.name == "runtime.NumGoroutine") = false) (hargs : xs.map a.eval = args) (w : World) : (execOp a.eval o).run P w = .ok (.enter f args) w := by
 subst hargs;simp only [execOp,ho,resolve,Act.eval,Deferred.ofValue,invoke,callFunc,Sem.run_bind,Sem.run_pure,Result.andThen_ok];have hn' : ¬ fn.name = "runtime.NumGoroutine" := by simpa using hn
 have hb' : ¬ fn.body = none := by intro h;simp [h] at hb
 simp [Sem.run,hf,hb',hn',program,Sem.run_bind]
def XSafe (P : Program) (F : World → World → Value → Prop) (w1 : World) : Result Next → Prop
 | .ok (.value _) w2 => Ext w1 w2
 | .ok .skip w2 => Ext w1 w2
 | .ok (.enter f args) w2 => Ext w1 w2 ∧ Calls P f args w2 (fun e w3 => ∃ u,e = .returned u ∧ Ext w2 w3 ∧ F w2 w3 u)
 | _ => False
def XOut (P : Program) (F : World → World → Value → Prop) (K : World → Prop) (w : World) (wf : World) (s : Sem Next) (u : Value) : Prop :=
 ∃ w1,Ext w w1 ∧ K w1 ∧ match s.run P w1 with
   | .ok (.value v) w2 => v = u ∧ Ext w2 wf
   | .ok .skip w2 => u = undef ∧ Ext w2 wf
   | .ok (.enter _ _) w2 => ∃ w3,Ext w2 w3 ∧ Ext w3 wf ∧ F w2 w3 u
   | _ => False
def PlainCall (P : Program) (x : Oper) : Prop := x.guard = none ∧ ∃ (f : FuncId) (xs : Array Operand) (ts : Array TypeId) (fn : Func),x.op = .call { callee := .value (.func f),args := xs,argTypes := ts } ∧ P.funcs[f]? = some fn ∧ fn.body.isNone = false ∧ (fn.name == "runtime.NumGoroutine") = false
def KnownC (P : Program) (ops : Array Oper) (F : Option Tmp → World → World → Value → Prop) (w : World) (o : Oper) (a : Act) (w1 : World) : Prop :=
 ∀ e ∈ o.after,Region.binds .any e = true → ∀ x d,ops[e.on]? = some x → x.dst = some d → d < a.tmps.size → PlainCall P x → ∃ w0 w3,Ext w w0 ∧ Ext w0 w3 ∧ Ext w3 w1 ∧ F (some d) w0 w3 (a.eval (.tmp d))
def xOut (P : Program) (ops : Array Oper) (F : Option Tmp → World → World → Value → Prop) (w wf : World) (o : Oper) (a : Act) (u : Value) : Prop :=
 (Region.wanted o (yielded ops a.tmps) = true ∧ XOut P (F o.dst) (KnownC P ops F w o a) w wf (execOp a.eval o) u) ∨ (Region.wanted o (yielded ops a.tmps) = false ∧ u = undef)
def Known (P : Program) (ops : Array Oper) (F : Option Tmp → World → World → Value → Prop) (w : World) (o : Oper) (a : Act) (w1 : World) : Prop :=
 ∀ e ∈ o.after,Region.binds .any e = true → ∀ x d,ops[e.on]? = some x → x.dst = some d → d < a.tmps.size → ∃ a',xOut P ops F w w1 x a' (a.eval (.tmp d))
theorem known_C {F : Option Tmp → World → World → Value → Prop} {w w1 : World} {o : Oper} {a : Act} (h : Known P ops F w o a w1) : KnownC P ops F w o a w1 := by
 intro e he hb x d hx hd hr ⟨hg,f,xs,ts,fn,ho,hf,hbd,hn⟩;obtain ⟨a',hx'⟩ := h e he hb x d hx hd hr;rcases hx' with ⟨_,w2,e2,_,hx'⟩ | ⟨hw',_⟩
 · rw [run_callf ho hf hbd hn (args := xs.map a'.eval) rfl] at hx'
   obtain ⟨w3,h3,h4,h5⟩ := hx';rw [hd] at h5;exact ⟨w2,w3,e2,h3,h4,h5⟩
 · simp [Region.wanted,hg] at hw'
def xSafe (P : Program) (ops : Array Oper) (F : Option Tmp → World → World → Value → Prop) (w : World) (o : Oper) (a : Act) : Prop :=
 Region.wanted o (yielded ops a.tmps) = true → ∀ w1,Ext w w1 → Known P ops F w o a w1 → XSafe P (F o.dst) w1 ((execOp a.eval o).run P w1)
def wpX (P : Program) (ops : Array Oper) (F : Option Tmp → World → World → Value → Prop) (w wf : World) (Q : Act → Prop) : List Oper → Act → Prop
 | [],a => Q a
 | o :: rest,a => xSafe P ops F w o a ∧ ∀ u,xOut P ops F w wf o a u → wpX P ops F w wf Q rest (a.put o.dst u)
variable {F : Option Tmp → World → World → Value → Prop} {w : World}
theorem xOut_mono {wf wg : World} {o : Oper} {a : Act} {u : Value} (h : xOut P ops F w wf o a u) (hg : Ext wf wg) : xOut P ops F w wg o a u := by
 rcases h with ⟨hw,w1,h1,hk,h2⟩ | h
 · refine .inl ⟨hw,w1,h1,hk,?_⟩
   split at h2
   · exact ⟨h2.1,h2.2.trans hg⟩
   · exact ⟨h2.1,h2.2.trans hg⟩
   · obtain ⟨w3,h3,h4,h5⟩ := h2;exact ⟨w3,h3,h4.trans hg,h5⟩
   · exact h2.elim
 · exact .inr h
theorem xSafe.some {o : Oper} {a : Act} (h : xSafe P ops F w o a) (w1 : World) (h1 : Ext w w1) (hk : Known P ops F w o a w1) :
 ∃ u w2,Ext w1 w2 ∧ xOut P ops F w w2 o a u := by
 by_cases hw : Region.wanted o (yielded ops a.tmps) = true
 · have h2 := h hw w1 h1 hk
   generalize hr : (execOp a.eval o).run P w1 = r at h2
   cases r with
   | ok n w2 =>
     cases n <;> simp only [XSafe] at h2
     case value v => exact ⟨v,w2,h2,.inl ⟨hw,w1,h1,known_C hk,by rw [hr];exact ⟨rfl,Ext.refl _⟩⟩⟩
     case skip => exact ⟨undef,w2,h2,.inl ⟨hw,w1,h1,known_C hk,by rw [hr];exact ⟨rfl,Ext.refl _⟩⟩⟩
     case enter f args =>
      obtain ⟨h3,hc⟩ := h2;obtain ⟨e,w3,_,⟨u,_,h4,h5⟩,_⟩ := hc [];exact ⟨u,w3,h3.trans h4,.inl ⟨hw,w1,h1,known_C hk,by rw [hr];exact ⟨w3,h4,Ext.refl _,h5⟩⟩⟩
   | halt x w2 => simp only [XSafe] at h2
 · have hw' : Region.wanted o (yielded ops a.tmps) = false := by simpa using hw
   exact ⟨undef,w1,Ext.refl _,.inr ⟨hw',rfl⟩⟩
def AgreeOn (l : List Tmp) (a b : Act) : Prop := ∀ t ∈ l,a.eval (.tmp t) = b.eval (.tmp t)
theorem exec_agree {o : Oper} (hs : ∀ cs b,o.op ≠ .select cs b) {a b : Act} (h : AgreeOn (o.looksAt ops) a b) : execOp a.eval o = execOp b.eval o :=
 execOp_congr o hs fun x hx => by
  cases x with
  | tmp t => exact h t (List.mem_append_left _ (List.mem_filterMap.2 ⟨.tmp t,by simpa using hx,rfl⟩))
  | _ => rfl
theorem wanted_agree {o : Oper} {a b : Act} (h : AgreeOn (o.looksAt ops) a b) : Region.wanted o (yielded ops a.tmps) = Region.wanted o (yielded ops b.tmps) := by
 unfold Region.wanted
 cases hg : o.guard with
 | none => rfl
 | some gw =>
   obtain ⟨g,want⟩ := gw
   have hy : yielded ops a.tmps g = yielded ops b.tmps g := by
    unfold yielded
    cases ht : (ops[g]?).bind (·.dst) with
    | none => rfl
    | some t =>
      have h1 := h t (by simp [Oper.looksAt,hg,ht]);simp only [Act.eval,Array.getD_eq_getD_getElem?] at h1;simp only [Option.bind_some]
      cases ha : a.tmps[t]? <;> cases hb : b.tmps[t]? <;> simp only [ha,hb,Option.getD_some,Option.getD_none] at h1
      · rfl
      · subst h1;rfl
      · subst h1;rfl
      · subst h1;rfl
   simp only [hy]
def waits (ops : Array Oper) (o : Oper) : List Tmp := o.after.toList.filterMap fun e => if Region.binds .any e then (ops[e.on]?).bind (·.dst) else none
theorem mem_waits {ops : Array Oper} {o : Oper} {t : Tmp} : t ∈ waits ops o ↔ ∃ e ∈ o.after,Region.binds .any e = true ∧ (ops[e.on]?).bind (·.dst) = some t := by
 unfold waits;rw [List.mem_filterMap]
 constructor
 · rintro ⟨e,he,h⟩
   split at h
   · rename_i hb;exact ⟨e,by simpa using he,hb,h⟩
   · cases h
 · rintro ⟨e,he,hb,h⟩
   exact ⟨e,by simpa using he,by rw [if_pos hb];exact h⟩
theorem knownC_agree {o : Oper} {a b : Act} (h : AgreeOn (waits ops o) a b) (hs : a.tmps.size = b.tmps.size) {w1 : World} (hk : KnownC P ops F w o a w1) : KnownC P ops F w o b w1 := by
 intro e he hb x d hx hd hr hp;have := hk e he hb x d hx hd (by rw [hs];exact hr) hp;rw [h d (mem_waits.2 ⟨e,he,hb,by simp [hx,hd]⟩)] at this;exact this
theorem jbs {wf : World} {o : Oper} (hs : ∀ cs b,o.op ≠ .select cs b) {a b : Act} (h : AgreeOn (o.looksAt ops) a b ∧ AgreeOn (waits ops o) a b ∧ a.tmps.size = b.tmps.size) {u : Value} (hx : xOut P ops F w wf o a u) : xOut P ops F w wf o b u := by
 unfold xOut at hx ⊢;rw [← exec_agree hs h.1,← wanted_agree h.1];rcases hx with ⟨h1,w1,h2,h3,h4⟩ | hx
 · exact .inl ⟨h1,w1,h2,knownC_agree h.2.1 h.2.2 h3,h4⟩
 · exact .inr hx
def jbf (ops : Array Oper) (i : Nat) : Option Tmp := (ops[i]?).bind (·.dst)
def jan (ops : Array Oper) (a : Act) (p : Nat → Bool) (u : Nat → Value) : Nat → Act
 | 0 => a
 | k + 1 => if p k then (jan ops a p u k).put (jbf ops k) (u k) else jan ops a p u k
theorem ja1 (a : Act) (p : Nat → Bool) (u : Nat → Value) : ∀ k,(jan ops a p u k).tmps.size = a.tmps.size
 | 0 => rfl
 | k + 1 => by
   unfold jan
   split
   · cases jbf ops k <;> simp [Act.put,ja1 a p u k]
   · exact ja1 a p u k
theorem eval_put_eq {a : Act} {d : Tmp} {v : Value} : (a.put (some d) v).eval (.tmp d) = if d < a.tmps.size then v else undef := by
 simp only [Act.eval,Act.put,Array.getD_eq_getD_getElem?,Array.getElem?_setIfInBounds,if_true]
 by_cases h : d < a.tmps.size <;> simp [h]
theorem jbr {a : Act} {p q : Nat → Bool} {u u' : Nat → Value} {t : Tmp} : ∀ k,(∀ i,i < k → jbf ops i = some t → p i = q i ∧ (p i = true → u i = u' i)) → (jan ops a p u k).eval (.tmp t) = (jan ops a q u' k).eval (.tmp t)
 | 0,_ => rfl
 | k + 1,h => by
   have ih := jbr (a := a) (p := p) (q := q) (u := u) (u' := u') k fun i hi hd => h i (by omega) hd
   unfold jan
   by_cases hd : jbf ops k = some t
   · obtain ⟨h1,h2⟩ := h k (by omega) hd
     rw [← h1]
     split
     · rename_i hp
       rw [hd,h2 hp,eval_put_eq,eval_put_eq,ja1,ja1]
     · exact ih
   · have hne : ∀ d,jbf ops k = some d → Operand.tmp t ≠ .tmp d := fun d h1 h2 => by cases h2;exact hd h1
     split <;> split
     · rw [Act.eval_put hne,Act.eval_put hne];exact ih
     · rw [Act.eval_put hne];exact ih
     · rw [Act.eval_put hne];exact ih
     · exact ih
theorem actsP_at {a : Act} {p : Nat → Bool} {u : Nat → Value} {j : Nat} {d : Tmp} (hd : jbf ops j = some d) (hp : p j = true) (hr : d < a.tmps.size) : ∀ k,j < k → (∀ i,i < k → i ≠ j → jbf ops i ≠ some d) → (jan ops a p u k).eval (.tmp d) = u j
 | 0,h,_ => by omega
 | k + 1,h,hu => by
   unfold jan
   by_cases hk : k = j
   · subst hk
     rw [if_pos hp,hd,eval_put_eq,ja1,if_pos hr]
   · have ih := actsP_at hd hp hr (u := u) k (by omega) fun i hi => hu i (by omega)
     split
     · rw [Act.eval_put (fun e h1 h2 => by cases h2;exact hu k (by omega) hk h1)];exact ih
     · exact ih
theorem ja8 {a : Act} {p q : Nat → Bool} {u u' : Nat → Value} : ∀ k,(∀ i,i < k → p i = q i ∧ (p i = true → u i = u' i)) → jan ops a p u k = jan ops a q u' k
 | 0,_ => rfl
 | k + 1,h => by
   obtain ⟨h1,h2⟩ := h k (by omega);unfold jan;rw [ja8 k fun i hi => h i (by omega),← h1]
   split
   · rename_i hp;rw [h2 hp]
   · rfl
theorem actsP_put {a : Act} {p : Nat → Bool} {u : Nat → Value} {j : Nat} {v : Value} (hp : p j = false) : ∀ k,j < k → (∀ i,i < k → i ≠ j → ∀ d,jbf ops j = some d → jbf ops i ≠ some d) →
 (jan ops a p u k).put (jbf ops j) v = jan ops a (fun i => p i || i == j) (fun i => if i = j then v else u i) k
 | 0,h,_ => by omega
 | k + 1,h,hu => by
   by_cases hk : k = j
   · subst hk
     unfold jan;simp only [hp,Bool.false_or,beq_self_eq_true,if_true,Bool.false_eq_true,if_false];rw [ja8 (ops := ops) (q := fun i => p i || i == k) (u' := fun i => if i = k then v else u i) k fun i hi => ⟨by simp [show i ≠ k by omega],fun _ => by simp [show i ≠ k by omega]⟩]
   · have ih := actsP_put (a := a) hp (u := u) (v := v) k (by omega) fun i hi => hu i (by omega)
     have hbk : (k == j) = false := by simpa using hk
     unfold jan;simp only [hbk,Bool.or_false,if_neg hk]
     split
     · rw [Act.put_comm _ _ _ (fun d h1 h2 => hu k (by omega) hk d h2 h1),ih]
     · exact ih
theorem wpX_feed {Q : Act → Prop} {wf : World} {a0 : Act} {u : Nat → Value} {l : List Oper} (hl : ∀ i,i < l.length → l[i]? = ops[i]?) (h : wpX P ops F w wf Q l a0) :
 ∀ k,k ≤ l.length → (∀ j o,j < k → ops[j]? = some o → xOut P ops F w wf o (jan ops a0 (fun _ => true) u j) (u j)) → wpX P ops F w wf Q (l.drop k) (jan ops a0 (fun _ => true) u k)
 | 0,_,_ => h
 | k + 1,hk,hx => by
   have ih := wpX_feed hl h k (by omega) fun j o hj => hx j o (by omega)
   have hlk : k < l.length := by omega
   rw [List.drop_eq_getElem_cons hlk] at ih;have ho : ops[k]? = some l[k] := by rw [← hl k hlk];simp
   have := ih.2 (u k) (hx k _ (by omega) ho);unfold jan
   simpa [jbf,ho] using this
def Closed (md : Region.Mode) (ops : Array Oper) (listed : Array Bool) : Prop :=
 ∀ j o,ops[j]? = some o → listed.getD j false = true → ∀ e ∈ o.after,Region.binds md e = true → listed.getD e.on false = true
def ancs (md : Region.Mode) (ops : Array Oper) : Nat → Nat → List Nat
 | 0,_ => []
 | n + 1,j => match ops[j]? with
   | some o => (o.after.toList.filter (Region.binds md)).flatMap fun e => e.on :: ancs md ops n e.on
   | none => []
theorem ancs_listed {listed : Array Bool} (hc : Closed md ops listed) : ∀ n j,(∀ o,ops[j]? = some o → ∀ e ∈ o.after,Region.binds md e = true → listed.getD e.on false = true) →
 ∀ k ∈ ancs md ops n j,listed.getD k false = true
 | 0,_,_,k,hk => by simp [ancs] at hk
 | n + 1,j,h,k,hk => by
   unfold ancs at hk
   cases ho : ops[j]? with
   | none => simp [ho] at hk
   | some o =>
     simp only [ho,List.mem_flatMap,List.mem_filter,List.mem_cons] at hk;obtain ⟨e,⟨he,hb⟩,hk⟩ := hk;have hl := h o ho e (by simpa using he) hb;rcases hk with rfl | hk
     · exact hl
     · exact ancs_listed hc n e.on (fun o' ho' => hc _ o' ho' hl) k hk
def barred (md : Region.Mode) (ops : Array Oper) (N : Nat) : Bool :=
 decide (N ≤ ops.size) && (List.range ops.size).all fun j => decide (j < N) || (List.range N).all fun i => (ancs md ops ops.size j).contains i
def orderedB (md : Region.Mode) (ops : Array Oper) : Bool :=
 (List.range ops.size).all fun j => match ops[j]? with | some y => y.after.all fun e => !Region.binds md e || decide (e.on < j) | none => true
def apartB (md : Region.Mode) (ops : Array Oper) (N : Nat) : Bool :=
 orderedB md ops && (List.range N).all fun j => (List.range j).all fun i => match ops[i]?,ops[j]? with
  | some x,some y => ((y.after.any fun e => Region.binds md e && e.on == i) || y.apart ops x) && (x.dst.isNone || x.dst != y.dst)
  | _,_ => true
def marked (n N : Nat) : Array Bool := (Array.range n).map fun i => decide (i < N)
theorem ready_some {listed : Array Bool} (hord : orderedB md ops = true) (hsz : listed.size = ops.size) : ∀ {j : Nat},j < ops.size → listed.getD j true = false → Region.ready md ops listed = [] → False := by
 intro j
 induction j using Nat.strongRecOn with
 | ind j ih =>
   intro hj hl hnone;have hjo : ops[j]? = some ops[j] := by simp [hj]
   have : j ∈ Region.ready md ops listed := by
    refine mem_ready.2 ⟨hl,ops[j],hjo,fun e he hb => ?_⟩;have h2 := List.all_eq_true.1 hord j (by simpa using hj);simp only [hjo] at h2;have h3 := (Array.all_eq_true_iff_forall_mem.1 h2) e he;simp only [hb,Bool.not_true,Bool.false_or,decide_eq_true_eq] at h3
    by_cases h4 : listed.getD e.on true = false
    · exact (ih e.on h3 (by omega) h4 hnone).elim
    · have h5 : e.on < listed.size := by omega
      simp [h5] at h4 ⊢;exact h4
   rw [hnone] at this;cases this
theorem filter_ne_len {i : Nat} : ∀ {l : List Nat},l.Nodup → i ∈ l → (l.filter fun k => !(k == i)).length + 1 = l.length
 | [],_,h => by simp at h
 | x :: l,hn,h => by
   rw [List.nodup_cons] at hn
   by_cases hx : x = i
   · subst hx
     have : l.filter (fun k => !(k == x)) = l := by
      rw [List.filter_eq_self];intro k hk;simp only [Bool.not_eq_true',beq_eq_false_iff_ne,ne_eq];exact fun he => hn.1 (he ▸ hk)
     simp [this]
   · have h' : i ∈ l := by
      rcases List.mem_cons.1 h with h' | h'
      · exact (hx h'.symm).elim
      · exact h'
     have ih := filter_ne_len hn.2 h';have hb : (!(x == i)) = true := by simp [hx]
     rw [List.filter_cons_of_pos (p := fun k => !(k == i)) hb];simp only [List.length_cons];omega
theorem getD_tf {l : Array Bool} {i : Nat} (h : i < l.size) : l.getD i true = l.getD i false := by simp [h]
theorem wpX_any {Q : Exit → Act → World → Prop} {N : Nat} {a0 : Act} (hns : Region.noSelect ops = true) (hap : apartB .any ops N = true) (hbar : barred .any ops N = true)
 (h : ∀ wf,Ext w wf → wpX P ops F w wf (fun a' => wpAny P .any ops Q (ops.size - N) (marked ops.size N) a' wf) (ops.toList.take N) a0) :
 ∀ (fuel : Nat) (listed : Array Bool) (u : Nat → Value) (w1 : World),listed.size = ops.size → Closed .any ops listed → (∀ j,N ≤ j → listed.getD j true = true → ops.size ≤ j) → Ext w w1 →
   ((List.range N).filter fun i => !listed.getD i false).length = fuel →
   (∀ j o,j < N → listed.getD j false = true → ops[j]? = some o → xOut P ops F w w1 o (jan ops a0 (fun _ => true) u j) (u j)) →
   wpAny P .any ops Q (fuel + (ops.size - N)) listed (jan ops a0 (fun i => listed.getD i false) u N) w1 := by
 simp only [barred,Bool.and_eq_true,decide_eq_true_eq] at hbar;obtain ⟨hN,hbar⟩ := hbar;simp only [apartB,Bool.and_eq_true] at hap;obtain ⟨hord,hap⟩ := hap;have hsel := fun (j : Nat) (o : Oper) cs b (ho : ops[j]? = some o) => Region.noSelect_spec hns j o cs b ho
 have hll : (ops.toList.take N).length = N := by simp;omega
 have hlo : ∀ i,i < (ops.toList.take N).length → (ops.toList.take N)[i]? = ops[i]? := by
  intro i hi;rw [hll] at hi;rw [List.getElem?_take_of_lt hi];simp
 have hat : ∀ i,i < N → ∃ o,ops[i]? = some o := fun i hi => ⟨ops[i],by simp [show i < ops.size by omega]⟩
 have hdep : ∀ j o,ops[j]? = some o → ∀ e ∈ o.after,Region.binds .any e = true → e.on < j := by
  intro j o ho e he hb;have hj := (Array.getElem?_eq_some_iff.1 ho).1;have h2 := List.all_eq_true.1 hord j (by simpa using hj);simp only [ho] at h2;have h3 := (Array.all_eq_true_iff_forall_mem.1 h2) e he
  simpa [hb] using h3
 -- two places before N
 have hpair : ∀ i j x y,i < j → j < N → ops[i]? = some x → ops[j]? = some y → ((∃ e ∈ y.after,Region.binds .any e = true ∧ e.on = i) ∨ y.apart ops x = true) ∧ (∀ d,x.dst = some d → y.dst ≠ some d) := by
  intro i j x y hij hj hx hy;have h2 := List.all_eq_true.1 (List.all_eq_true.1 hap j (by simpa using hj)) i (by simpa using hij);simp only [hx,hy,Bool.and_eq_true,Bool.or_eq_true,Array.any_eq_true',beq_iff_eq,Option.isNone_iff_eq_none,bne_iff_ne,ne_eq] at h2;obtain ⟨h3,h4⟩ := h2;refine ⟨?_,fun d hd hd' => ?_⟩
  · rcases h3 with ⟨e,he,hb,hon⟩ | h3
    · exact .inl ⟨e,he,hb,hon⟩
    · exact .inr h3
  · rcases h4 with h4 | h4
    · rw [hd] at h4;cases h4
    · exact h4 (by rw [hd,hd'])
 have hdst : ∀ i j d,i < N → j < N → i ≠ j → jbf ops i = some d → jbf ops j ≠ some d := by
  intro i j d hi hj hne h1 h2;obtain ⟨x,hx⟩ := hat i hi;obtain ⟨y,hy⟩ := hat j hj;simp only [jbf,hx,hy,Option.bind_some] at h1 h2;rcases Nat.lt_or_ge i j with h' | h'
  · exact (hpair i j x y h' hj hx hy).2 d h1 h2
  · exact (hpair j i y x (by omega) hi hy hx).2 d h2 h1
 -- what an operation looks at and an earlier one leaves,it waits for
 have hlook : ∀ i j y d,i < j → j < N → ops[j]? = some y → jbf ops i = some d → d ∈ y.looksAt ops → ∃ e ∈ y.after,Region.binds .any e = true ∧ e.on = i := by
  intro i j y d hij hj hy hd hm;obtain ⟨x,hx⟩ := hat i (by omega);rcases (hpair i j x y hij hj hx hy).1 with h' | h'
  · exact h'
  · simp only [jbf,hx,Option.bind_some] at hd
    exact ((Oper.apart_spec h').2.2 d hd hm).elim
 have hlook2 : ∀ i j x d,i < j → j < N → ops[i]? = some x → jbf ops j = some d → d ∈ x.looksAt ops → ∃ y,ops[j]? = some y ∧ ∃ e ∈ y.after,Region.binds .any e = true ∧ e.on = i := by
  intro i j x d hij hj hx hd hm;obtain ⟨y,hy⟩ := hat j hj;rcases (hpair i j x y hij hj hx hy).1 with h' | h'
  · exact ⟨y,hy,h'⟩
  · simp only [jbf,hy,Option.bind_some] at hd
    exact ((Oper.apart_spec h').1 d hd hm).elim
 have hmove : ∀ j o (v v' : Nat → Value),j < N → ops[j]? = some o → (∀ e ∈ o.after,Region.binds .any e = true → v e.on = v' e.on) → AgreeOn (o.looksAt ops) (jan ops a0 (fun _ => true) v j) (jan ops a0 (fun _ => true) v' j) ∧ AgreeOn (waits ops o) (jan ops a0 (fun _ => true) v j) (jan ops a0 (fun _ => true) v' j) ∧ (jan ops a0 (fun _ => true) v j).tmps.size = (jan ops a0 (fun _ => true) v' j).tmps.size := by
  intro j o v v' hj ho hv;refine ⟨fun t ht => ?_,fun t ht => ?_,by rw [ja1,ja1]⟩
  · refine jbr j fun i hi hd => ⟨rfl,fun _ => ?_⟩
    obtain ⟨e,he,hb,rfl⟩ := hlook i j o t hi hj ho hd ht;exact hv e he hb
  · obtain ⟨e,he,hb,hed⟩ := mem_waits.1 ht
    have hej := hdep j o ho e he hb;refine jbr j fun i hi hd => ⟨rfl,fun _ => ?_⟩
    by_cases hie : i = e.on
    · subst hie;exact hv e he hb
    · exact (hdst e.on i t (by omega) (by omega) (Ne.symm hie) hed hd).elim
 intro fuel
 induction fuel with
 | zero =>
   intro listed u w1 hsz hcl hlate h1 hlen hx
   have hall0 : ∀ i,i < N → listed.getD i false = true := by
    intro i hi;have := List.eq_nil_of_length_eq_zero hlen;rw [List.filter_eq_nil_iff] at this;have := this i (by simpa using hi)
    simpa using this
   have hq := wpX_feed (u := u) hlo (h w1 h1) N (by omega) (fun j o hj ho => hx j o hj (hall0 j hj) ho);rw [List.drop_of_length_le (by omega)] at hq
   have hall : listed = marked ops.size N := by
    apply Array.ext
    · simp [marked,hsz]
    · intro i hi hi'
      by_cases hiN : i < N
      · have := hall0 i hiN
        simp [hi] at this;simp [marked,hiN,this]
      · by_cases hl : listed.getD i true = true
        · have := hlate i (by omega) hl;omega
        · simp [hi] at hl
          simp [marked,hiN,hl]
   rw [Nat.zero_add,ja8 (ops := ops) (q := fun _ => true) (u' := u) N fun i hi => ⟨hall0 i hi,fun _ => rfl⟩,hall];exact hq
 | succ fuel ih =>
   intro listed u w1 hsz hcl hlate h1 hlen hx
   have hunl : ∃ j,j < N ∧ listed.getD j false = false := by
    cases hr : (List.range N).filter fun i => !listed.getD i false with
    | nil => rw [hr] at hlen;simp at hlen
    | cons j l =>
      have hm : j ∈ (List.range N).filter fun i => !listed.getD i false := by rw [hr];simp
      rw [List.mem_filter] at hm;exact ⟨j,by simpa using hm.1,by simpa using hm.2⟩
   obtain ⟨j0,hj0,hl0⟩ := hunl
   have hready : ∀ i ∈ Region.ready .any ops listed,i < N := by
    intro i hi;rcases Nat.lt_or_ge i N with h' | h'
    · exact h'
    · obtain ⟨_,o,ho,hall⟩ := mem_ready.1 hi
      have hio : i < ops.size := (Array.getElem?_eq_some_iff.1 ho).1;have hb := List.all_eq_true.1 hbar i (by simpa using hio);simp only [Bool.or_eq_true,decide_eq_true_eq] at hb;have hb' := hb.resolve_left (by omega);have hc := List.all_eq_true.1 hb' j0 (by simpa using hj0);have := ancs_listed hcl ops.size i (fun o' ho' => by rw [ho] at ho';cases ho';exact hall) j0 (by simpa using hc);rw [this] at hl0;cases hl0
   -- those that have not come up yet,run as the text has them,up to place k
   have hhyp : ∀ k,k ≤ N → ∃ (u' : Nat → Value) (v : World),(∀ j,listed.getD j false = true → u' j = u j) ∧ Ext w1 v ∧ ∀ j o,j < k → ops[j]? = some o → xOut P ops F w v o (jan ops a0 (fun _ => true) u' j) (u' j) := by
    intro k
    induction k with
    | zero => exact fun _ => ⟨u,w1,fun _ _ => rfl,Ext.refl _,fun j o hj => by omega⟩
    | succ k ihk =>
      intro hk;obtain ⟨u',v,hu',hv,hxs⟩ := ihk (by omega);obtain ⟨o,ho⟩ := hat k (by omega)
      by_cases hlk : listed.getD k false = true
      · refine ⟨u',v,hu',hv,fun j o' hj ho' => ?_⟩
        by_cases hjk : j = k
        · subst hjk
          rw [ho] at ho';cases ho';rw [hu' j hlk];refine jbs (fun cs b => hsel j o cs b ho) (hmove j o u u' (by omega) ho fun e he hb => ?_) (xOut_mono (hx j o (by omega) hlk ho) hv);exact (hu' e.on (hcl j o ho hlk e he hb)).symm
        · exact hxs j o' (by omega) ho'
      · have hfeed := wpX_feed (u := u') hlo (h v (h1.trans hv)) k (by omega) (fun j o hj ho => hxs j o hj ho)
        have hlk2 : k < (ops.toList.take N).length := by omega
        rw [List.drop_eq_getElem_cons hlk2] at hfeed
        have hok : (ops.toList.take N)[k] = o := by
         have := hlo k hlk2;rw [ho,List.getElem?_eq_getElem hlk2] at this;exact Option.some.inj this
        rw [hok] at hfeed
        obtain ⟨uk,v2,hv2,hxk⟩ := hfeed.1.some v (h1.trans hv) (fun e he hb x d hxo hd hr => by
         have hek := hdep k o ho e he hb;refine ⟨jan ops a0 (fun _ => true) u' e.on,?_⟩
         · have hat1 := actsP_at (ops := ops) (a := a0) (p := fun _ => true) (u := u') (j := e.on) (d := d) (by simp [jbf,hxo,hd]) rfl (by rw [ja1] at hr;exact hr) k hek (fun i hi hne => hdst e.on i d (by omega) (by omega) (Ne.symm hne) (by simp [jbf,hxo,hd]))
           rw [hat1];exact hxs e.on x hek hxo)
        refine ⟨fun j => if j = k then uk else u' j,v2,fun j hj => ?_,hv.trans hv2,fun j o' hj ho' => ?_⟩
        · have : j ≠ k := fun he => hlk (he ▸ hj)
          simp only [if_neg this];exact hu' j hj
        · rw [ja8 (ops := ops) (q := fun _ => true) (u' := u') j fun i hi => ⟨rfl,fun _ => by simp [show i ≠ k by omega]⟩]
          by_cases hjk : j = k
          · subst hjk
            rw [ho] at ho';cases ho';simp only [if_true];exact hxk
          · simp only [if_neg hjk]
            exact xOut_mono (hxs j o' (by omega) ho') hv2
   have hdo : ∀ i ∈ Region.ready .any ops listed,wpOp P ops Q i (wpAny P .any ops Q (fuel + (ops.size - N)) (listed.setIfInBounds i true)) (jan ops a0 (fun i => listed.getD i false) u N) w1 := by
    intro i hi;have hiN := hready i hi;obtain ⟨hun,y,hy,hall⟩ := mem_ready.1 hi;have his : i < listed.size := by omega
    have hunf : listed.getD i false = false := by rw [← getD_tf his];exact hun
    obtain ⟨u',v,hu',hv,hxs⟩ := hhyp i (by omega);have hfeed := wpX_feed (u := u') hlo (h v (h1.trans hv)) i (by omega) (fun j o hj ho => hxs j o hj ho);have hil : i < (ops.toList.take N).length := by omega
    rw [List.drop_eq_getElem_cons hil] at hfeed
    have hoi : (ops.toList.take N)[i] = y := by
     have := hlo i hil;rw [hy,List.getElem?_eq_getElem hil] at this;exact Option.some.inj this
    rw [hoi] at hfeed;have hsafe := hfeed.1
    have hknown : Known P ops F w y (jan ops a0 (fun _ => true) u' i) w1 := by
     intro e he hb x d hxo hd hr;have hek := hdep i y hy e he hb;have hle := hall e he hb;refine ⟨jan ops a0 (fun _ => true) u' e.on,?_⟩;have hat1 := actsP_at (ops := ops) (a := a0) (p := fun _ => true) (u := u') (j := e.on) (d := d) (by simp [jbf,hxo,hd]) rfl (by rw [ja1] at hr;exact hr) i hek (fun k hk hne => hdst e.on k d (by omega) (by omega) (Ne.symm hne) (by simp [jbf,hxo,hd]));rw [hat1,hu' e.on hle];have hxe := hx e.on x (by omega) hle hxo;exact jbs (fun cs b => hsel e.on x cs b hxo) (hmove e.on x u u' (by omega) hxo fun e' he' hb' => (hu' e'.on (hcl e.on x hxo hle e' he' hb')).symm) hxe
    have hagree : AgreeOn (y.looksAt ops) (jan ops a0 (fun _ => true) u' i) (jan ops a0 (fun i => listed.getD i false) u N) := by
     intro t ht
     have e1 : (jan ops a0 (fun _ => true) u' i).eval (.tmp t) = (jan ops a0 (fun k => decide (k < i)) u' N).eval (.tmp t) := by
      have : ∀ n,i ≤ n → jan ops a0 (fun k => decide (k < i)) u' n = jan ops a0 (fun _ => true) u' i := by
       intro n
       induction n with
       | zero => intro hn;obtain rfl : i = 0 := by omega
                 rfl
       | succ n ihn =>
         intro hn
         by_cases hin : i = n + 1
         · subst hin
           exact ja8 _ fun k hk => ⟨by simpa using hk,fun _ => rfl⟩
         · have h2 : decide (n < i) = false := by simp;omega
           have h3 : jan ops a0 (fun k => decide (k < i)) u' (n + 1) = jan ops a0 (fun k => decide (k < i)) u' n := by
            conv => lhs;unfold jan
            simp only [h2,Bool.false_eq_true,if_false]
           rw [h3];exact ihn (by omega)
      rw [this N (by omega)]
     rw [e1];refine jbr N fun k hk hd => ?_
     by_cases hki : k < i
     · obtain ⟨e,he,hb,rfl⟩ := hlook k i y t hki hiN hy hd ht
       have hle := hall e he hb;exact ⟨by simp [hki,hle],fun _ => hu' _ hle⟩
     · have hlk : listed.getD k false = false := by
        by_cases hk2 : k = i
        · subst hk2;exact hunf
        · obtain ⟨z,hz,e,he,hb,hon⟩ := hlook2 i k y t (by omega) hk hy hd ht
          cases hlk : listed.getD k false with
          | false => rfl
          | true =>
            have := hcl k z hz hlk e he hb;rw [hon,hunf] at this;cases this
       exact ⟨by simp [hki,hlk],fun h' => by simp [hki] at h'⟩
    have hexec := exec_agree (fun cs b => hsel i y cs b hy) hagree;have hwant := wanted_agree hagree
    have hcl' : Closed .any ops (listed.setIfInBounds i true) := by
     intro j o ho hj e he hb
     by_cases hji : j = i
     · subst hji
       rw [hy] at ho;cases ho;exact getD_set_true (hall e he hb)
     · have : (listed.setIfInBounds i true).getD j false = listed.getD j false := getD_set_ne false (fun h' => hji h'.symm)
       rw [this] at hj;exact getD_set_true (hcl j o ho hj e he hb)
    have hlate' : ∀ j,N ≤ j → (listed.setIfInBounds i true).getD j true = true → ops.size ≤ j := by
     intro j hj hjl;rw [getD_set_ne true (by omega)] at hjl;exact hlate j hj hjl
    have hset : ∀ k,(listed.setIfInBounds i true).getD k false = (listed.getD k false || k == i) := by
     intro k
     by_cases hki : k = i
     · subst hki;simp [his]
     · rw [getD_set_ne false (fun h' => hki h'.symm)];simp [hki]
    have hlen' : ((List.range N).filter fun k => !(listed.setIfInBounds i true).getD k false).length = fuel := by
     have hf : ((List.range N).filter fun k => !(listed.setIfInBounds i true).getD k false) = ((List.range N).filter fun k => !listed.getD k false).filter fun k => !(k == i) := by
      rw [List.filter_filter]
      congr 1
      funext k
      rw [hset k]
      cases listed.getD k false <;> cases (k == i) <;> rfl
     have hnd : ((List.range N).filter fun k => !listed.getD k false).Nodup := List.Pairwise.filter _ List.nodup_range
     have hmem : i ∈ (List.range N).filter fun k => !listed.getD k false := by
      rw [List.mem_filter];exact ⟨by simpa using hiN,by rw [hunf];rfl⟩
     rw [hf];have h4 := filter_ne_len hnd hmem;omega
    -- behind it
    have next : ∀ (ui : Value) (w2 : World),Ext w1 w2 → xOut P ops F w w2 y (jan ops a0 (fun _ => true) u' i) ui →
     wpAny P .any ops Q (fuel + (ops.size - N)) (listed.setIfInBounds i true) ((jan ops a0 (fun i => listed.getD i false) u N).put y.dst ui) w2 := by
     intro ui w2 e2 hxi;have hput := actsP_put (ops := ops) (a := a0) (p := fun k => listed.getD k false) (u := u) (j := i) (v := ui) hunf N hiN (fun k hk hne d h1 h2 => hdst i k d hiN hk (Ne.symm hne) h1 h2);have hdi : jbf ops i = y.dst := by simp [jbf,hy]
     rw [hdi] at hput;rw [hput,ja8 (ops := ops) (q := fun k => (listed.setIfInBounds i true).getD k false) (u' := fun k => if k = i then ui else u k) N fun k hk => ⟨by rw [hset k],fun _ => rfl⟩];refine ih _ _ w2 (by simpa using hsz) hcl' hlate' (h1.trans e2) hlen' fun j o hj hlj ho => ?_
     by_cases hji : j = i
     · subst hji
       rw [hy] at ho;cases ho;simp only [if_true];refine jbs (fun cs b => hsel j y cs b hy) (hmove j y u' _ hj hy fun e he hb => ?_) hxi;have := hdep j y hy e he hb;simp only [if_neg (show e.on ≠ j by omega)];exact hu' _ (hall e he hb)
     · have hlj' : listed.getD j false = true := by rw [hset j] at hlj;simpa [hji] using hlj
       simp only [if_neg hji];refine jbs (fun cs b => hsel j o cs b ho) (hmove j o u _ hj ho fun e he hb => ?_) (xOut_mono (hx j o hj hlj' ho) e2);have hle := hcl j o ho hlj' e he hb;have : e.on ≠ i := fun hei => by rw [hei,hunf] at hle;cases hle
       simp only [if_neg this]
    unfold wpOp;simp only [hy];rw [← hwant]
    split
    · rename_i hw
      have h2 := hsafe hw w1 h1 hknown;refine .inl ?_;unfold Oper.wp;rw [← hexec];generalize hr : (execOp (jan ops a0 (fun _ => true) u' i).eval y).run P w1 = r at h2
      cases r with
      | ok n w2 =>
        cases n <;> simp only [XSafe] at h2 <;> simp only [Oper.upon]
        case value ui => exact next ui w2 h2 (.inl ⟨hw,w1,h1,known_C hknown,by rw [hr];exact ⟨rfl,Ext.refl _⟩⟩)
        case skip => exact next undef w2 h2 (.inl ⟨hw,w1,h1,known_C hknown,by rw [hr];exact ⟨rfl,Ext.refl _⟩⟩)
        case enter f args =>
         obtain ⟨h3,hc⟩ := h2;refine hc.mono fun e w3 ⟨ui,he,h4,h5⟩ => ?_
         subst he;exact next ui w3 (h3.trans h4) (.inl ⟨hw,w1,h1,known_C hknown,by rw [hr];exact ⟨w3,h4,Ext.refl _,h5⟩⟩)
      | halt x w2 => simp only [XSafe] at h2
    · rename_i hw
      have hw' : Region.wanted y (yielded ops (jan ops a0 (fun _ => true) u' i).tmps) = false := by simpa using hw
      exact next undef w1 (Ext.refl _) (.inr ⟨hw',rfl⟩)
   rw [Nat.succ_add];refine ⟨fun hnone => ?_,hdo⟩;exact (ready_some hord hsz (show j0 < ops.size by omega) (by rw [getD_tf (by omega)];exact hl0) hnone).elim
theorem wp_region_x {id : Nat} {Q : Exit → Act → World → Prop} {a : Act} (N : Nat) (F : Option Tmp → World → World → Value → Prop) (hm : P.follows .mixedOrders = true)
 (hns : Region.noSelect ops = true) (hap : apartB .any ops N = true) (hbar : barred .any ops N = true)
 (h : ∀ wf,Ext w.drew wf → wpX P ops F w.drew wf (fun a' => wpAny P .any ops Q (ops.size - N) (marked ops.size N) a' wf) (ops.toList.take N) a) : (Code.region id ops true).wp P Q a w := by
 have hN : N ≤ ops.size := by
  have := hbar;simp only [barred,Bool.and_eq_true,decide_eq_true_eq] at this;exact this.1
 refine wp_region_any hm ?_
 have key := wpX_any (P := P) (F := F) (w := w.drew) (Q := Q) (a0 := a) hns hap hbar h N (Array.replicate ops.size false) (fun _ => undef) w.drew (by simp)
  (fun j o _ hj => by
   rcases Nat.lt_or_ge j ops.size with h' | h'
   · simp [h'] at hj
   · simp [h'] at hj)
  (fun j _ hj => by
   rcases Nat.lt_or_ge j ops.size with h' | h'
   · simp [h'] at hj
   · exact h') (Ext.refl _) (by
     have hf : ((List.range N).filter fun i => !(Array.replicate ops.size false).getD i false) = List.range N := by
      rw [List.filter_eq_self];intro i hi;have : i < N := by simpa using hi
      simp [show i < ops.size by omega]
     rw [hf];simp)
  (fun j o _ hj => by
   rcases Nat.lt_or_ge j ops.size with h' | h'
   · simp [h'] at hj
   · simp [h'] at hj)
 rw [show N + (ops.size - N) = ops.size from by omega] at key;rw [show jan ops a (fun i => (Array.replicate ops.size false).getD i false) (fun _ => undef) N = a from ?_] at key
 · exact key
 · have : ∀ k,jan ops a (fun i => (Array.replicate ops.size false).getD i false) (fun _ => undef) k = a := by
    intro k
    induction k with
    | zero => rfl
    | succ k ih =>
      have : (Array.replicate ops.size false).getD k false = false := by
       rcases Nat.lt_or_ge k ops.size with h' | h' <;> simp [h']
      unfold jan;simp only [this,Bool.false_eq_true,if_false];exact ih
   exact this N
theorem wp_region_yall {id : Nat} {Q : Exit → Act → World → Prop} {a : Act} {l : List Oper} (F : Option Tmp → World → World → Value → Prop) (hm : P.follows .mixedOrders = true)
 (hns : Region.noSelect l.toArray = true) (hap : apartB .any l.toArray l.length = true)
 (h : ∀ wf,Ext w.drew wf → wpX P l.toArray F w.drew wf (fun a' => Q .normal a' wf) l a) : (Code.region id l.toArray true).wp P Q a w := by
 refine wp_region_x (w := w) l.length F hm hns hap ?_ fun wf hf => ?_
 · simp only [barred,Bool.and_eq_true,decide_eq_true_eq]
   refine ⟨by simp,?_⟩;refine List.all_eq_true.2 fun j hj => ?_
   simp at hj;simp [hj]
 · have := h wf hf
   simp only [List.take_length,List.size_toArray,Nat.sub_self]
   have hready : Region.ready .any l.toArray (marked l.length l.length) = [] := by
    refine List.eq_nil_iff_forall_not_mem.2 fun j hj => ?_
    obtain ⟨h1,o,ho,_⟩ := mem_ready.1 hj;have h2 := (Array.getElem?_eq_some_iff.1 ho).1;simp at h2;simp [marked,h2] at h1
   exact wpX_mono (fun a' ha => ⟨hready,ha⟩) this
where
 wpX_mono {ops : Array Oper} {F : Option Tmp → World → World → Value → Prop} {w wf : World} {Q Q' : Act → Prop} (hq : ∀ a,Q a → Q' a) : ∀ {l : List Oper} {a : Act},wpX P ops F w wf Q l a → wpX P ops F w wf Q' l a
  | [],_,h => hq _ h
  | _ :: _,_,h => ⟨h.1,fun u hu => wpX_mono hq (h.2 u hu)⟩
def forcedB (md : Region.Mode) (ops : Array Oper) : Nat → Nat → Array Bool → Bool
 | 0,_,listed => (Region.ready md ops listed).isEmpty
 | n + 1,k,listed => (Region.ready md ops listed == [k]) && forcedB md ops n (k + 1) (listed.setIfInBounds k true)
theorem wpAny_forced {Q : Exit → Act → World → Prop} : ∀ (l : List Oper) (k : Nat) (listed : Array Bool) (a : Act) (w : World),(∀ j,l[j]? = ops[k + j]?) →
 forcedB md ops l.length k listed = true → wpList P ops Q l a w → wpAny P md ops Q l.length listed a w
 | [],_,_,_,_,_,hB,h => ⟨by simpa [forcedB] using hB,h⟩
 | o :: l,k,listed,a,w,hl,hB,h => by
   have h0 : ops[k]? = some o := by simpa using (hl 0).symm
   simp only [List.length_cons,forcedB,Bool.and_eq_true,beq_iff_eq] at hB;obtain ⟨hr,hB'⟩ := hB;refine ⟨fun hn => (by rw [hr] at hn;cases hn),fun i hi => ?_⟩;rw [hr] at hi;obtain rfl : i = k := by simpa using hi
   have ih := fun a w => wpAny_forced (Q := Q) l (i + 1) (listed.setIfInBounds i true) a w (fun j => by have := hl (j + 1);simpa [Nat.add_assoc,Nat.add_comm 1 j] using this) hB'
   unfold wpOp;simp only [h0];unfold wpList at h
   split at h
   · rename_i hw
     rw [if_pos hw];rcases h with h | h
     · exact .inl (Oper.wp_mono (fun a w => ih a w) h)
     · exact .inr h
   · rename_i hw
     rw [if_neg hw];exact ih _ _ h
theorem wp_region_yt {id : Nat} {Q : Exit → Act → World → Prop} {a : Act} {l : List Oper} (N : Nat) (F : Option Tmp → World → World → Value → Prop) (hm : P.follows .mixedOrders = true)
 (hns : Region.noSelect l.toArray = true) (hap : apartB .any l.toArray N = true) (hbar : barred .any l.toArray N = true) (hf : forcedB .any l.toArray (l.drop N).length N (marked l.length N) = true)
 (h : ∀ wf,Ext w.drew wf → wpX P l.toArray F w.drew wf (fun a' => wpList P l.toArray Q (l.drop N) a' wf) (l.take N) a) : (Code.region id l.toArray true).wp P Q a w := by
 refine wp_region_x (w := w) N F hm hns hap hbar fun wf hwf => ?_
 refine wp_region_yall.wpX_mono (fun a' ha => ?_) (h wf hwf);have := wpAny_forced (P := P) (md := .any) (ops := l.toArray) (Q := Q) (l.drop N) N (marked l.length N) a' wf (fun j => by simp) hf ha;rw [List.length_drop] at this
 simpa using this
theorem jab {id : Nat} {Q : Exit → Act → World → Prop} {a : Act} {l : List Oper} (F : Option Tmp → World → Value → Prop) (hm : P.follows .mixedOrders = true)
 (hns : Region.noSelect l.toArray = true) (hap : apartB .any l.toArray l.length = true)
 (h : ∀ wf,Ext w.drew wf → wpX P l.toArray (fun d _ W u => F d W u) w.drew wf (fun a' => Q .normal a' wf) l a) : (Code.region id l.toArray true).wp P Q a w := wp_region_yall _ hm hns hap h
theorem wp_region_xt {id : Nat} {Q : Exit → Act → World → Prop} {a : Act} {l : List Oper} (N : Nat) (F : Option Tmp → World → Value → Prop) (hm : P.follows .mixedOrders = true)
 (hns : Region.noSelect l.toArray = true) (hap : apartB .any l.toArray N = true) (hbar : barred .any l.toArray N = true) (hf : forcedB .any l.toArray (l.drop N).length N (marked l.length N) = true)
 (h : ∀ wf,Ext w.drew wf → wpX P l.toArray (fun d _ W u => F d W u) w.drew wf (fun a' => wpList P l.toArray Q (l.drop N) a' wf) (l.take N) a) : (Code.region id l.toArray true).wp P Q a w := wp_region_yt N _ hm hns hap hbar hf h
end
end Go.Proofs.Ytmbckkcgiafagaa
namespace Go.Proofs.Ytmbckkcgiafagaa
open Go.RowKit
abbrev gx0 {P : Program} {o : Array Oper} {F : Option Tmp → World → World → Value → Prop} {v vf : World} {Q : Act → Prop} {d0 : Option Tmp} {t0 : TypeId} {s0 : String} {e0 : Array Edge} {g0 : Option (Nat × Bool)} {x00 : TypeId} {x01 : Operand} {x02 : Operand} {d1 : Option Tmp} {t1 : TypeId} {s1 : String} {e1 : Array Edge} {g1 : Option (Nat × Bool)} {x10 : TypeId} {x11 : Operand} {r : List Oper} {a : Act} : Prop := wpX P o F v vf Q (Oper.mk d0 (Op.indexAddr x00 x01 x02) t0 s0 e0 g0 :: Oper.mk d1 (Op.load x10 x11) t1 s1 e1 g1 :: r) a
abbrev gx1 {P : Program} {o : Array Oper} {F : Option Tmp → World → World → Value → Prop} {v vf : World} {Q : Act → Prop} {d0 : Option Tmp} {t0 : TypeId} {s0 : String} {e0 : Array Edge} {g0 : Option (Nat × Bool)} {x00 : BinOp} {x01 : TypeId} {x02 : Operand} {x03 : Operand} {x04 : TypeId} {r : List Oper} {a : Act} : Prop := wpX P o F v vf Q (Oper.mk d0 (Op.binOp x00 x01 x02 x03 x04) t0 s0 e0 g0 :: r) a
abbrev gx5 {P : Program} {o : Array Oper} {F : Option Tmp → World → World → Value → Prop} {v vf : World} {Q : Act → Prop} {d0 : Option Tmp} {t0 : TypeId} {s0 : String} {e0 : Array Edge} {g0 : Option (Nat × Bool)} {x00 : TypeId} {x01 : Operand} {x02 : Operand} {r : List Oper} {a : Act} : Prop := wpX P o F v vf Q (Oper.mk d0 (Op.indexAddr x00 x01 x02) t0 s0 e0 g0 :: r) a
abbrev gx6 {P : Program} {o : Array Oper} {F : Option Tmp → World → World → Value → Prop} {v vf : World} {Q : Act → Prop} {d0 : Option Tmp} {t0 : TypeId} {s0 : String} {e0 : Array Edge} {g0 : Option (Nat × Bool)} {x00 : Call} {r : List Oper} {a : Act} : Prop := wpX P o F v vf Q (Oper.mk d0 (Op.call x00) t0 s0 e0 g0 :: r) a
abbrev gx7 {P : Program} {o : Array Oper} {F : Option Tmp → World → World → Value → Prop} {v vf : World} {Q : Act → Prop} {d0 : Option Tmp} {t0 : TypeId} {s0 : String} {e0 : Array Edge} {g0 : Option (Nat × Bool)} {x00 : TypeId} {x01 : Operand} {x02 : Operand} {d1 : Option Tmp} {t1 : TypeId} {s1 : String} {e1 : Array Edge} {g1 : Option (Nat × Bool)} {x10 : TypeId} {x11 : Operand} {x12 : Nat} {d2 : Option Tmp} {t2 : TypeId} {s2 : String} {e2 : Array Edge} {g2 : Option (Nat × Bool)} {x20 : TypeId} {x21 : Operand} {r : List Oper} {a : Act} : Prop := wpX P o F v vf Q (Oper.mk d0 (Op.indexAddr x00 x01 x02) t0 s0 e0 g0 :: Oper.mk d1 (Op.fieldAddr x10 x11 x12) t1 s1 e1 g1 :: Oper.mk d2 (Op.load x20 x21) t2 s2 e2 g2 :: r) a
abbrev gx15 {P : Program} {o : Array Oper} {F : Option Tmp → World → World → Value → Prop} {v vf : World} {Q : Act → Prop} {d0 : Option Tmp} {t0 : TypeId} {s0 : String} {e0 : Array Edge} {g0 : Option (Nat × Bool)} {x00 : TypeId} {r : List Oper} {a : Act} : Prop := wpX P o F v vf Q (Oper.mk d0 (Op.alloc x00) t0 s0 e0 g0 :: r) a
abbrev gx16 {P : Program} {o : Array Oper} {F : Option Tmp → World → World → Value → Prop} {v vf : World} {Q : Act → Prop} {d0 : Option Tmp} {t0 : TypeId} {s0 : String} {e0 : Array Edge} {g0 : Option (Nat × Bool)} {x00 : TypeId} {x01 : TypeId} {x02 : Operand} {r : List Oper} {a : Act} : Prop := wpX P o F v vf Q (Oper.mk d0 (Op.convert x00 x01 x02) t0 s0 e0 g0 :: r) a
end Go.Proofs.Ytmbckkcgiafagaa

