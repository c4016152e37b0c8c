/- A part of the proofs: Rg, Fl, Mem, Step, Sh, Ty, Int, Shuf, I64, Law, F32, Har, Mem2, App, Elem, Mk. -/
import Derived.Test.YtlimabbeaimdgaaRows
import Derived.WalkKit
import Derived.WalkSpells
import Derived.WalkLawsBesides
import Derived.Deep.LoopGhost
import Derived.Laws.FloatArith
import Derived.ProofKit
import Derived.Lib.AppendStr
/- Regions whose order is drawn: operations that only read old memory, make new memory or call what does so may come in any order; the walk goes once through the text's order. -/
namespace Go.Proofs.Ytlimabbeaimdgaa
set_option linter.unusedSimpArgs false
set_option linter.unusedVariables false
open Go.RowKit

theorem hid {p : Prop} (h : p) : Hid p := h
/-- Nothing that was there has turned; there may be more. -/
structure Ext (w w' : World) : Prop where
  os : w'.os = w.os
  tape : w'.tape = w.tape
  output : w'.output = w.output
  size : w.heap.size ≤ w'.heap.size
  block : ∀ k, k < w.heap.size → w'.heap[k]? = w.heap[k]?

theorem Ext.refl (w : World) : Ext w w := ⟨rfl, rfl, rfl, Nat.le_refl _, fun _ _ => rfl⟩
theorem Ext.trans {a b c : World} (h : Ext a b) (k : Ext b c) : Ext a c :=
  ⟨k.os.trans h.os, k.tape.trans h.tape, k.output.trans h.output, Nat.le_trans h.size k.size, fun i hi => (k.block i (Nat.lt_of_lt_of_le hi h.size)).trans (h.block i hi)⟩
theorem Ext.drewN (w : World) (n : Nat) : Ext w (w.drewN n) := ⟨rfl, rfl, rfl, Nat.le_refl _, fun _ _ => rfl⟩
theorem Ext.drew (w : World) : Ext w w.drew := Ext.drewN w 1
theorem Ext.alloc (w : World) (o : Obj) : Ext w (w.alloc o) :=
  ⟨rfl, rfl, rfl, by simp, fun k hk => Below.heap_alloc w o k hk⟩
theorem Ext.below {w w' : World} (h : Ext w w') : Below w.heap.size w w' := ⟨h.os, h.tape, h.output, h.size, h.block⟩
theorem Ext.of_below {w w' : World} (h : Below w.heap.size w w') : Ext w w' := ⟨h.os, h.tape, h.output, h.size, h.block⟩
theorem lt_of_cell {w : World} {p : Addr} {v : Value} (h : w.cell? p = some v) : p.block < w.heap.size := by
  rcases Nat.lt_or_ge p.block w.heap.size with h' | h'
  · exact h'
  · simp [World.cell?, Array.getElem?_eq_none h'] at h
theorem Ext.cell {w w' : World} (h : Ext w w') {p : Addr} {v : Value} (hp : w.cell? p = some v) : w'.cell? p = some v := by
  rw [World.cell?_of_block (h.block _ (lt_of_cell hp))]; exact hp
theorem Ext.frozen {w w' : World} (h : Ext w w') {p : Addr} {b : Bool} (hb : p.block < w.heap.size) (hp : w.frozen? p = b) : w'.frozen? p = b := by
  rw [World.frozen?_of_block (h.block _ hb)]; exact hp

section
variable {P : Program} {ops : Array Oper} {md : Region.Mode}

/-- A call of a function of the program's. -/
theorem run_callf {P : Program} {o : Oper} {a : Act} {f : FuncId} {fn : Func} {xs : Array Operand} {ts : Array TypeId} {args : Array Value} (ho : o.op = .call { callee := .value (.func f), args := xs, argTypes := ts })
    (hf : P.funcs[f]? = some fn) (hb : fn.body.isNone = false) (hn : (fn.name == "runtime.NumGoroutine") = false) (hargs : xs.map a.eval = args) (w : World) : (execOp a.eval o).run P w = .ok (.enter f args) w := by
  subst hargs
  simp only [execOp, ho, resolve, Act.eval, Deferred.ofValue, invoke, callFunc, Sem.run_bind, Sem.run_pure, Result.andThen_ok]
  have hn' : ¬ fn.name = "runtime.NumGoroutine" := by simpa using hn
  have hb' : ¬ fn.body = none := by intro h; simp [h] at hb
  simp [Sem.run, hf, hb', hn', program, Sem.run_bind]

/-- What is asked of one run of one operation: F tells of the world in which a call begins, the one in which it ends, and what it leaves. -/
def XSafe (P : Program) (F : World → World → Value → Prop) (w1 : World) : Result Next → Prop
  | .ok (.value _) w2 => Ext w1 w2
  | .ok .skip w2 => Ext w1 w2
  | .ok (.enter f args) w2 => Ext w1 w2 ∧ Calls P f args w2 (fun e w3 => ∃ u, e = .returned u ∧ Ext w2 w3 ∧ F w2 w3 u)
  | _ => False
/-- What one operation may leave in its slot, seen from a later world; K: what was known when it began. -/
def XOut (P : Program) (F : World → World → Value → Prop) (K : World → Prop) (w : World) (wf : World) (s : Sem Next) (u : Value) : Prop :=
  ∃ w1, Ext w w1 ∧ K w1 ∧ match s.run P w1 with
    | .ok (.value v) w2 => v = u ∧ Ext w2 wf
    | .ok .skip w2 => u = undef ∧ Ext w2 wf
    | .ok (.enter _ _) w2 => ∃ w3, Ext w2 w3 ∧ Ext w3 wf ∧ F w2 w3 u
    | _ => False
/-- A call of a function of the program's, without a guard. -/
def PlainCall (P : Program) (x : Oper) : Prop := x.guard = none ∧ ∃ (f : FuncId) (xs : Array Operand) (ts : Array TypeId) (fn : Func), x.op = .call { callee := .value (.func f), args := xs, argTypes := ts } ∧ P.funcs[f]? = some fn ∧ fn.body.isNone = false ∧ (fn.name == "runtime.NumGoroutine") = false
/-- What an operation knows of the calls that it waits for. -/
def KnownC (P : Program) (ops : Array Oper) (F : Option Tmp → World → World → Value → Prop) (w : World) (o : Oper) (a : Act) (w1 : World) : Prop :=
  ∀ e ∈ o.after, Region.binds .any e = true → ∀ x d, ops[e.on]? = some x → x.dst = some d → d < a.tmps.size → PlainCall P x → ∃ w0 w3, Ext w w0 ∧ Ext w0 w3 ∧ Ext w3 w1 ∧ F (some d) w0 w3 (a.eval (.tmp d))
def xOut (P : Program) (ops : Array Oper) (F : Option Tmp → World → World → Value → Prop) (w wf : World) (o : Oper) (a : Act) (u : Value) : Prop :=
  (Region.wanted o (yielded ops a.tmps) = true ∧ XOut P (F o.dst) (KnownC P ops F w o a) w wf (execOp a.eval o) u) ∨ (Region.wanted o (yielded ops a.tmps) = false ∧ u = undef)
/-- What one operation knows of those that it waits for. -/
def Known (P : Program) (ops : Array Oper) (F : Option Tmp → World → World → Value → Prop) (w : World) (o : Oper) (a : Act) (w1 : World) : Prop :=
  ∀ e ∈ o.after, Region.binds .any e = true → ∀ x d, ops[e.on]? = some x → x.dst = some d → d < a.tmps.size → ∃ a', xOut P ops F w w1 x a' (a.eval (.tmp d))
theorem known_C {F : Option Tmp → World → World → Value → Prop} {w w1 : World} {o : Oper} {a : Act} (h : Known P ops F w o a w1) : KnownC P ops F w o a w1 := by
  intro e he hb x d hx hd hr ⟨hg, f, xs, ts, fn, ho, hf, hbd, hn⟩
  obtain ⟨a', hx'⟩ := h e he hb x d hx hd hr
  rcases hx' with ⟨_, w2, e2, _, hx'⟩ | ⟨hw', _⟩
  · rw [run_callf ho hf hbd hn (args := xs.map a'.eval) rfl] at hx'
    obtain ⟨w3, h3, h4, h5⟩ := hx'
    rw [hd] at h5
    exact ⟨w2, w3, e2, h3, h4, h5⟩
  · simp [Region.wanted, hg] at hw'
def xSafe (P : Program) (ops : Array Oper) (F : Option Tmp → World → World → Value → Prop) (w : World) (o : Oper) (a : Act) : Prop :=
  Region.wanted o (yielded ops a.tmps) = true → ∀ w1, Ext w w1 → Known P ops F w o a w1 → XSafe P (F o.dst) w1 ((execOp a.eval o).run P w1)

/-- The walk in the order of the text. -/
def wpX (P : Program) (ops : Array Oper) (F : Option Tmp → World → World → Value → Prop) (w wf : World) (Q : Act → Prop) : List Oper → Act → Prop
  | [], a => Q a
  | o :: rest, a => xSafe P ops F w o a ∧ ∀ u, xOut P ops F w wf o a u → wpX P ops F w wf Q rest (a.put o.dst u)

variable {F : Option Tmp → World → World → Value → Prop} {w : World}

theorem xOut_mono {wf wg : World} {o : Oper} {a : Act} {u : Value} (h : xOut P ops F w wf o a u) (hg : Ext wf wg) : xOut P ops F w wg o a u := by
  rcases h with ⟨hw, w1, h1, hk, h2⟩ | h
  · refine .inl ⟨hw, w1, h1, hk, ?_⟩
    split at h2
    · exact ⟨h2.1, h2.2.trans hg⟩
    · exact ⟨h2.1, h2.2.trans hg⟩
    · obtain ⟨w3, h3, h4, h5⟩ := h2; exact ⟨w3, h3, h4.trans hg, h5⟩
    · exact h2.elim
  · exact .inr h

/-- One run of a safe operation: an outcome, and a later world that knows it. -/
theorem xSafe.some {o : Oper} {a : Act} (h : xSafe P ops F w o a) (w1 : World) (h1 : Ext w w1) (hk : Known P ops F w o a w1) :
    ∃ u w2, Ext w1 w2 ∧ xOut P ops F w w2 o a u := by
  by_cases hw : Region.wanted o (yielded ops a.tmps) = true
  · have h2 := h hw w1 h1 hk
    generalize hr : (execOp a.eval o).run P w1 = r at h2
    cases r with
    | ok n w2 =>
      cases n <;> simp only [XSafe] at h2
      case value v => exact ⟨v, w2, h2, .inl ⟨hw, w1, h1, known_C hk, by rw [hr]; exact ⟨rfl, Ext.refl _⟩⟩⟩
      case skip => exact ⟨undef, w2, h2, .inl ⟨hw, w1, h1, known_C hk, by rw [hr]; exact ⟨rfl, Ext.refl _⟩⟩⟩
      case enter f args =>
        obtain ⟨h3, hc⟩ := h2
        obtain ⟨e, w3, _, ⟨u, _, h4, h5⟩, _⟩ := hc []
        exact ⟨u, w3, h3.trans h4, .inl ⟨hw, w1, h1, known_C hk, by rw [hr]; exact ⟨w3, h4, Ext.refl _, h5⟩⟩⟩
    | halt x w2 => simp only [XSafe] at h2
  · have hw' : Region.wanted o (yielded ops a.tmps) = false := by simpa using hw
    exact ⟨undef, w1, Ext.refl _, .inr ⟨hw', rfl⟩⟩

/-- Two acts that agree on what an operation looks at. -/
def AgreeOn (l : List Tmp) (a b : Act) : Prop := ∀ t ∈ l, a.eval (.tmp t) = b.eval (.tmp t)
theorem exec_agree {o : Oper} (hs : ∀ cs b, o.op ≠ .select cs b) {a b : Act} (h : AgreeOn (o.looksAt ops) a b) : execOp a.eval o = execOp b.eval o :=
  execOp_congr o hs fun x hx => by
    cases x with
    | tmp t => exact h t (List.mem_append_left _ (List.mem_filterMap.2 ⟨.tmp t, by simpa using hx, rfl⟩))
    | _ => rfl
theorem wanted_agree {o : Oper} {a b : Act} (h : AgreeOn (o.looksAt ops) a b) : Region.wanted o (yielded ops a.tmps) = Region.wanted o (yielded ops b.tmps) := by
  unfold Region.wanted
  cases hg : o.guard with
  | none => rfl
  | some gw =>
    obtain ⟨g, want⟩ := gw
    have hy : yielded ops a.tmps g = yielded ops b.tmps g := by
      unfold yielded
      cases ht : (ops[g]?).bind (·.dst) with
      | none => rfl
      | some t =>
        have h1 := h t (by simp [Oper.looksAt, hg, ht])
        simp only [Act.eval, Array.getD_eq_getD_getElem?] at h1
        simp only [Option.bind_some]
        cases ha : a.tmps[t]? <;> cases hb : b.tmps[t]? <;> simp only [ha, hb, Option.getD_some, Option.getD_none] at h1
        · rfl
        · subst h1; rfl
        · subst h1; rfl
        · subst h1; rfl
    simp only [hy]
/-- What an operation looks at, and what those leave that it waits for. -/
def waits (ops : Array Oper) (o : Oper) : List Tmp := o.after.toList.filterMap fun e => if Region.binds .any e then (ops[e.on]?).bind (·.dst) else none
theorem mem_waits {ops : Array Oper} {o : Oper} {t : Tmp} : t ∈ waits ops o ↔ ∃ e ∈ o.after, Region.binds .any e = true ∧ (ops[e.on]?).bind (·.dst) = some t := by
  unfold waits
  rw [List.mem_filterMap]
  constructor
  · rintro ⟨e, he, h⟩
    split at h
    · rename_i hb; exact ⟨e, by simpa using he, hb, h⟩
    · cases h
  · rintro ⟨e, he, hb, h⟩
    exact ⟨e, by simpa using he, by rw [if_pos hb]; exact h⟩
theorem knownC_agree {o : Oper} {a b : Act} (h : AgreeOn (waits ops o) a b) (hs : a.tmps.size = b.tmps.size) {w1 : World} (hk : KnownC P ops F w o a w1) : KnownC P ops F w o b w1 := by
  intro e he hb x d hx hd hr hp
  have := hk e he hb x d hx hd (by rw [hs]; exact hr) hp
  rw [h d (mem_waits.2 ⟨e, he, hb, by simp [hx, hd]⟩)] at this
  exact this
theorem xOut_agree {wf : World} {o : Oper} (hs : ∀ cs b, o.op ≠ .select cs b) {a b : Act} (h : AgreeOn (o.looksAt ops) a b ∧ AgreeOn (waits ops o) a b ∧ a.tmps.size = b.tmps.size) {u : Value} (hx : xOut P ops F w wf o a u) : xOut P ops F w wf o b u := by
  unfold xOut at hx ⊢
  rw [← exec_agree hs h.1, ← wanted_agree h.1]
  rcases hx with ⟨h1, w1, h2, h3, h4⟩ | hx
  · exact .inl ⟨h1, w1, h2, knownC_agree h.2.1 h.2.2 h3, h4⟩
  · exact .inr hx

/-- The values that the operations of a part leave, put one after another. -/
def dstAt (ops : Array Oper) (i : Nat) : Option Tmp := (ops[i]?).bind (·.dst)
def actsP (ops : Array Oper) (a : Act) (p : Nat → Bool) (u : Nat → Value) : Nat → Act
  | 0 => a
  | k + 1 => if p k then (actsP ops a p u k).put (dstAt ops k) (u k) else actsP ops a p u k
theorem actsP_size (a : Act) (p : Nat → Bool) (u : Nat → Value) : ∀ k, (actsP ops a p u k).tmps.size = a.tmps.size
  | 0 => rfl
  | k + 1 => by
    unfold actsP
    split
    · cases dstAt ops k <;> simp [Act.put, actsP_size a p u k]
    · exact actsP_size a p u k
theorem eval_put_eq {a : Act} {d : Tmp} {v : Value} : (a.put (some d) v).eval (.tmp d) = if d < a.tmps.size then v else undef := by
  simp only [Act.eval, Act.put, Array.getD_eq_getD_getElem?, Array.getElem?_setIfInBounds, if_true]
  by_cases h : d < a.tmps.size <;> simp [h]
theorem actsP_agree {a : Act} {p q : Nat → Bool} {u u' : Nat → Value} {t : Tmp} : ∀ k, (∀ i, i < k → dstAt ops i = some t → p i = q i ∧ (p i = true → u i = u' i)) → (actsP ops a p u k).eval (.tmp t) = (actsP ops a q u' k).eval (.tmp t)
  | 0, _ => rfl
  | k + 1, h => by
    have ih := actsP_agree (a := a) (p := p) (q := q) (u := u) (u' := u') k fun i hi hd => h i (by omega) hd
    unfold actsP
    by_cases hd : dstAt ops k = some t
    · obtain ⟨h1, h2⟩ := h k (by omega) hd
      rw [← h1]
      split
      · rename_i hp
        rw [hd, h2 hp, eval_put_eq, eval_put_eq, actsP_size, actsP_size]
      · exact ih
    · have hne : ∀ d, dstAt ops k = some d → Operand.tmp t ≠ .tmp d := fun d h1 h2 => by cases h2; exact hd h1
      split <;> split
      · rw [Act.eval_put hne, Act.eval_put hne]; exact ih
      · rw [Act.eval_put hne]; exact ih
      · rw [Act.eval_put hne]; exact ih
      · exact ih
/-- What the last of those that leave something there has left. -/
theorem actsP_at {a : Act} {p : Nat → Bool} {u : Nat → Value} {j : Nat} {d : Tmp} (hd : dstAt ops j = some d) (hp : p j = true) (hr : d < a.tmps.size) : ∀ k, j < k → (∀ i, i < k → i ≠ j → dstAt ops i ≠ some d) → (actsP ops a p u k).eval (.tmp d) = u j
  | 0, h, _ => by omega
  | k + 1, h, hu => by
    unfold actsP
    by_cases hk : k = j
    · subst hk
      rw [if_pos hp, hd, eval_put_eq, actsP_size, if_pos hr]
    · have ih := actsP_at hd hp hr (u := u) k (by omega) fun i hi => hu i (by omega)
      split
      · rw [Act.eval_put (fun e h1 h2 => by cases h2; exact hu k (by omega) hk h1)]; exact ih
      · exact ih
theorem actsP_congr {a : Act} {p q : Nat → Bool} {u u' : Nat → Value} : ∀ k, (∀ i, i < k → p i = q i ∧ (p i = true → u i = u' i)) → actsP ops a p u k = actsP ops a q u' k
  | 0, _ => rfl
  | k + 1, h => by
    obtain ⟨h1, h2⟩ := h k (by omega)
    unfold actsP
    rw [actsP_congr k fun i hi => h i (by omega), ← h1]
    split
    · rename_i hp; rw [h2 hp]
    · rfl
theorem actsP_put {a : Act} {p : Nat → Bool} {u : Nat → Value} {j : Nat} {v : Value} (hp : p j = false) : ∀ k, j < k → (∀ i, i < k → i ≠ j → ∀ d, dstAt ops j = some d → dstAt ops i ≠ some d) →
    (actsP ops a p u k).put (dstAt ops j) v = actsP ops a (fun i => p i || i == j) (fun i => if i = j then v else u i) k
  | 0, h, _ => by omega
  | k + 1, h, hu => by
    by_cases hk : k = j
    · subst hk
      unfold actsP
      simp only [hp, Bool.false_or, beq_self_eq_true, if_true, Bool.false_eq_true, if_false]
      rw [actsP_congr (ops := ops) (q := fun i => p i || i == k) (u' := fun i => if i = k then v else u i) k fun i hi => ⟨by simp [show i ≠ k by omega], fun _ => by simp [show i ≠ k by omega]⟩]
    · have ih := actsP_put (a := a) hp (u := u) (v := v) k (by omega) fun i hi => hu i (by omega)
      have hbk : (k == j) = false := by simpa using hk
      unfold actsP
      simp only [hbk, Bool.or_false, if_neg hk]
      split
      · rw [Act.put_comm _ _ _ (fun d h1 h2 => hu k (by omega) hk d h2 h1), ih]
      · exact ih

/-- The walk, once it has come so far. -/
theorem wpX_feed {Q : Act → Prop} {wf : World} {a0 : Act} {u : Nat → Value} {l : List Oper} (hl : ∀ i, i < l.length → l[i]? = ops[i]?) (h : wpX P ops F w wf Q l a0) :
    ∀ k, k ≤ l.length → (∀ j o, j < k → ops[j]? = some o → xOut P ops F w wf o (actsP ops a0 (fun _ => true) u j) (u j)) → wpX P ops F w wf Q (l.drop k) (actsP ops a0 (fun _ => true) u k)
  | 0, _, _ => h
  | k + 1, hk, hx => by
    have ih := wpX_feed hl h k (by omega) fun j o hj => hx j o (by omega)
    have hlk : k < l.length := by omega
    rw [List.drop_eq_getElem_cons hlk] at ih
    have ho : ops[k]? = some l[k] := by rw [← hl k hlk]; simp
    have := ih.2 (u k) (hx k _ (by omega) ho)
    unfold actsP
    simpa [dstAt, ho] using this

/-- Which operations are listed: all before a listed one that it waits for are. -/
def Closed (md : Region.Mode) (ops : Array Oper) (listed : Array Bool) : Prop :=
  ∀ j o, ops[j]? = some o → listed.getD j false = true → ∀ e ∈ o.after, Region.binds md e = true → listed.getD e.on false = true

/-- The places that operation j waits for, in so many steps. -/
def ancs (md : Region.Mode) (ops : Array Oper) : Nat → Nat → List Nat
  | 0, _ => []
  | n + 1, j => match ops[j]? with
    | some o => (o.after.toList.filter (Region.binds md)).flatMap fun e => e.on :: ancs md ops n e.on
    | none => []

theorem ancs_listed {listed : Array Bool} (hc : Closed md ops listed) : ∀ n j, (∀ o, ops[j]? = some o → ∀ e ∈ o.after, Region.binds md e = true → listed.getD e.on false = true) →
    ∀ k ∈ ancs md ops n j, listed.getD k false = true
  | 0, _, _, k, hk => by simp [ancs] at hk
  | n + 1, j, h, k, hk => by
    unfold ancs at hk
    cases ho : ops[j]? with
    | none => simp [ho] at hk
    | some o =>
      simp only [ho, List.mem_flatMap, List.mem_filter, List.mem_cons] at hk
      obtain ⟨e, ⟨he, hb⟩, hk⟩ := hk
      have hl := h o ho e (by simpa using he) hb
      rcases hk with rfl | hk
      · exact hl
      · exact ancs_listed hc n e.on (fun o' ho' => hc _ o' ho' hl) k hk

/-- From place N on each operation waits for all before N. -/
def barred (md : Region.Mode) (ops : Array Oper) (N : Nat) : Bool :=
  decide (N ≤ ops.size) && (List.range ops.size).all fun j => decide (j < N) || (List.range N).all fun i => (ancs md ops ops.size j).contains i
/-- Before N: two operations of which the later one does not wait for the earlier one are apart, and no two leave their values in one place. -/
def orderedB (md : Region.Mode) (ops : Array Oper) : Bool :=
  (List.range ops.size).all fun j => match ops[j]? with | some y => y.after.all fun e => !Region.binds md e || decide (e.on < j) | none => true
def apartB (md : Region.Mode) (ops : Array Oper) (N : Nat) : Bool :=
  orderedB md ops && (List.range N).all fun j => (List.range j).all fun i => match ops[i]?, ops[j]? with
    | some x, some y => ((y.after.any fun e => Region.binds md e && e.on == i) || y.apart ops x) && (x.dst.isNone || x.dst != y.dst)
    | _, _ => true

def marked (n N : Nat) : Array Bool := (Array.range n).map fun i => decide (i < N)

theorem ready_some {listed : Array Bool} (hord : orderedB md ops = true) (hsz : listed.size = ops.size) : ∀ {j : Nat}, j < ops.size → listed.getD j true = false → Region.ready md ops listed = [] → False := by
  intro j
  induction j using Nat.strongRecOn with
  | ind j ih =>
    intro hj hl hnone
    have hjo : ops[j]? = some ops[j] := by simp [hj]
    have : j ∈ Region.ready md ops listed := by
      refine mem_ready.2 ⟨hl, ops[j], hjo, fun e he hb => ?_⟩
      have h2 := List.all_eq_true.1 hord j (by simpa using hj)
      simp only [hjo] at h2
      have h3 := (Array.all_eq_true_iff_forall_mem.1 h2) e he
      simp only [hb, Bool.not_true, Bool.false_or, decide_eq_true_eq] at h3
      by_cases h4 : listed.getD e.on true = false
      · exact (ih e.on h3 (by omega) h4 hnone).elim
      · have h5 : e.on < listed.size := by omega
        simp [h5] at h4 ⊢; exact h4
    rw [hnone] at this; cases this

theorem filter_ne_len {i : Nat} : ∀ {l : List Nat}, l.Nodup → i ∈ l → (l.filter fun k => !(k == i)).length + 1 = l.length
  | [], _, h => by simp at h
  | x :: l, hn, h => by
    rw [List.nodup_cons] at hn
    by_cases hx : x = i
    · subst hx
      have : l.filter (fun k => !(k == x)) = l := by
        rw [List.filter_eq_self]
        intro k hk
        simp only [Bool.not_eq_true', beq_eq_false_iff_ne, ne_eq]
        exact fun he => hn.1 (he ▸ hk)
      simp [this]
    · have h' : i ∈ l := by
        rcases List.mem_cons.1 h with h' | h'
        · exact (hx h'.symm).elim
        · exact h'
      have ih := filter_ne_len hn.2 h'
      have hb : (!(x == i)) = true := by simp [hx]
      rw [List.filter_cons_of_pos (p := fun k => !(k == i)) hb]
      simp only [List.length_cons]
      omega
theorem getD_tf {l : Array Bool} {i : Nat} (h : i < l.size) : l.getD i true = l.getD i false := by simp [h]
theorem wpX_any {Q : Exit → Act → World → Prop} {N : Nat} {a0 : Act} (hns : Region.noSelect ops = true) (hap : apartB .any ops N = true) (hbar : barred .any ops N = true)
    (h : ∀ wf, Ext w wf → wpX P ops F w wf (fun a' => wpAny P .any ops Q (ops.size - N) (marked ops.size N) a' wf) (ops.toList.take N) a0) :
    ∀ (fuel : Nat) (listed : Array Bool) (u : Nat → Value) (w1 : World), listed.size = ops.size → Closed .any ops listed → (∀ j, N ≤ j → listed.getD j true = true → ops.size ≤ j) → Ext w w1 →
      ((List.range N).filter fun i => !listed.getD i false).length = fuel →
      (∀ j o, j < N → listed.getD j false = true → ops[j]? = some o → xOut P ops F w w1 o (actsP ops a0 (fun _ => true) u j) (u j)) →
      wpAny P .any ops Q (fuel + (ops.size - N)) listed (actsP ops a0 (fun i => listed.getD i false) u N) w1 := by
  simp only [barred, Bool.and_eq_true, decide_eq_true_eq] at hbar
  obtain ⟨hN, hbar⟩ := hbar
  simp only [apartB, Bool.and_eq_true] at hap
  obtain ⟨hord, hap⟩ := hap
  have hsel := fun (j : Nat) (o : Oper) cs b (ho : ops[j]? = some o) => Region.noSelect_spec hns j o cs b ho
  have hll : (ops.toList.take N).length = N := by simp; omega
  have hlo : ∀ i, i < (ops.toList.take N).length → (ops.toList.take N)[i]? = ops[i]? := by
    intro i hi
    rw [hll] at hi
    rw [List.getElem?_take_of_lt hi]; simp
  have hat : ∀ i, i < N → ∃ o, ops[i]? = some o := fun i hi => ⟨ops[i], by simp [show i < ops.size by omega]⟩
  have hdep : ∀ j o, ops[j]? = some o → ∀ e ∈ o.after, Region.binds .any e = true → e.on < j := by
    intro j o ho e he hb
    have hj := (Array.getElem?_eq_some_iff.1 ho).1
    have h2 := List.all_eq_true.1 hord j (by simpa using hj)
    simp only [ho] at h2
    have h3 := (Array.all_eq_true_iff_forall_mem.1 h2) e he
    simpa [hb] using h3
  -- two places before N
  have hpair : ∀ i j x y, i < j → j < N → ops[i]? = some x → ops[j]? = some y → ((∃ e ∈ y.after, Region.binds .any e = true ∧ e.on = i) ∨ y.apart ops x = true) ∧ (∀ d, x.dst = some d → y.dst ≠ some d) := by
    intro i j x y hij hj hx hy
    have h2 := List.all_eq_true.1 (List.all_eq_true.1 hap j (by simpa using hj)) i (by simpa using hij)
    simp only [hx, hy, Bool.and_eq_true, Bool.or_eq_true, Array.any_eq_true', beq_iff_eq, Option.isNone_iff_eq_none, bne_iff_ne, ne_eq] at h2
    obtain ⟨h3, h4⟩ := h2
    refine ⟨?_, fun d hd hd' => ?_⟩
    · rcases h3 with ⟨e, he, hb, hon⟩ | h3
      · exact .inl ⟨e, he, hb, hon⟩
      · exact .inr h3
    · rcases h4 with h4 | h4
      · rw [hd] at h4; cases h4
      · exact h4 (by rw [hd, hd'])
  have hdst : ∀ i j d, i < N → j < N → i ≠ j → dstAt ops i = some d → dstAt ops j ≠ some d := by
    intro i j d hi hj hne h1 h2
    obtain ⟨x, hx⟩ := hat i hi
    obtain ⟨y, hy⟩ := hat j hj
    simp only [dstAt, hx, hy, Option.bind_some] at h1 h2
    rcases Nat.lt_or_ge i j with h' | h'
    · exact (hpair i j x y h' hj hx hy).2 d h1 h2
    · exact (hpair j i y x (by omega) hi hy hx).2 d h2 h1
  -- what an operation looks at and an earlier one leaves, it waits for
  have hlook : ∀ i j y d, i < j → j < N → ops[j]? = some y → dstAt ops i = some d → d ∈ y.looksAt ops → ∃ e ∈ y.after, Region.binds .any e = true ∧ e.on = i := by
    intro i j y d hij hj hy hd hm
    obtain ⟨x, hx⟩ := hat i (by omega)
    rcases (hpair i j x y hij hj hx hy).1 with h' | h'
    · exact h'
    · simp only [dstAt, hx, Option.bind_some] at hd
      exact ((Oper.apart_spec h').2.2 d hd hm).elim
  have hlook2 : ∀ i j x d, i < j → j < N → ops[i]? = some x → dstAt ops j = some d → d ∈ x.looksAt ops → ∃ y, ops[j]? = some y ∧ ∃ e ∈ y.after, Region.binds .any e = true ∧ e.on = i := by
    intro i j x d hij hj hx hd hm
    obtain ⟨y, hy⟩ := hat j hj
    rcases (hpair i j x y hij hj hx hy).1 with h' | h'
    · exact ⟨y, hy, h'⟩
    · simp only [dstAt, hy, Option.bind_some] at hd
      exact ((Oper.apart_spec h').1 d hd hm).elim
  have hmove : ∀ j o (v v' : Nat → Value), j < N → ops[j]? = some o → (∀ e ∈ o.after, Region.binds .any e = true → v e.on = v' e.on) → AgreeOn (o.looksAt ops) (actsP ops a0 (fun _ => true) v j) (actsP ops a0 (fun _ => true) v' j) ∧ AgreeOn (waits ops o) (actsP ops a0 (fun _ => true) v j) (actsP ops a0 (fun _ => true) v' j) ∧ (actsP ops a0 (fun _ => true) v j).tmps.size = (actsP ops a0 (fun _ => true) v' j).tmps.size := by
    intro j o v v' hj ho hv
    refine ⟨fun t ht => ?_, fun t ht => ?_, by rw [actsP_size, actsP_size]⟩
    · refine actsP_agree j fun i hi hd => ⟨rfl, fun _ => ?_⟩
      obtain ⟨e, he, hb, rfl⟩ := hlook i j o t hi hj ho hd ht
      exact hv e he hb
    · obtain ⟨e, he, hb, hed⟩ := mem_waits.1 ht
      have hej := hdep j o ho e he hb
      refine actsP_agree j fun i hi hd => ⟨rfl, fun _ => ?_⟩
      by_cases hie : i = e.on
      · subst hie; exact hv e he hb
      · exact (hdst e.on i t (by omega) (by omega) (Ne.symm hie) hed hd).elim
  intro fuel
  induction fuel with
  | zero =>
    intro listed u w1 hsz hcl hlate h1 hlen hx
    have hall0 : ∀ i, i < N → listed.getD i false = true := by
      intro i hi
      have := List.eq_nil_of_length_eq_zero hlen
      rw [List.filter_eq_nil_iff] at this
      have := this i (by simpa using hi)
      simpa using this
    have hq := wpX_feed (u := u) hlo (h w1 h1) N (by omega) (fun j o hj ho => hx j o hj (hall0 j hj) ho)
    rw [List.drop_of_length_le (by omega)] at hq
    have hall : listed = marked ops.size N := by
      apply Array.ext
      · simp [marked, hsz]
      · intro i hi hi'
        by_cases hiN : i < N
        · have := hall0 i hiN
          simp [hi] at this
          simp [marked, hiN, this]
        · by_cases hl : listed.getD i true = true
          · have := hlate i (by omega) hl; omega
          · simp [hi] at hl
            simp [marked, hiN, hl]
    rw [Nat.zero_add, actsP_congr (ops := ops) (q := fun _ => true) (u' := u) N fun i hi => ⟨hall0 i hi, fun _ => rfl⟩, hall]
    exact hq
  | succ fuel ih =>
    intro listed u w1 hsz hcl hlate h1 hlen hx
    have hunl : ∃ j, j < N ∧ listed.getD j false = false := by
      cases hr : (List.range N).filter fun i => !listed.getD i false with
      | nil => rw [hr] at hlen; simp at hlen
      | cons j l =>
        have hm : j ∈ (List.range N).filter fun i => !listed.getD i false := by rw [hr]; simp
        rw [List.mem_filter] at hm
        exact ⟨j, by simpa using hm.1, by simpa using hm.2⟩
    obtain ⟨j0, hj0, hl0⟩ := hunl
    have hready : ∀ i ∈ Region.ready .any ops listed, i < N := by
      intro i hi
      rcases Nat.lt_or_ge i N with h' | h'
      · exact h'
      · obtain ⟨_, o, ho, hall⟩ := mem_ready.1 hi
        have hio : i < ops.size := (Array.getElem?_eq_some_iff.1 ho).1
        have hb := List.all_eq_true.1 hbar i (by simpa using hio)
        simp only [Bool.or_eq_true, decide_eq_true_eq] at hb
        have hb' := hb.resolve_left (by omega)
        have hc := List.all_eq_true.1 hb' j0 (by simpa using hj0)
        have := ancs_listed hcl ops.size i (fun o' ho' => by rw [ho] at ho'; cases ho'; exact hall) j0 (by simpa using hc)
        rw [this] at hl0; cases hl0
    -- those that have not come up yet, run as the text has them, up to place k
    have hhyp : ∀ k, k ≤ N → ∃ (u' : Nat → Value) (v : World), (∀ j, listed.getD j false = true → u' j = u j) ∧ Ext w1 v ∧ ∀ j o, j < k → ops[j]? = some o → xOut P ops F w v o (actsP ops a0 (fun _ => true) u' j) (u' j) := by
      intro k
      induction k with
      | zero => exact fun _ => ⟨u, w1, fun _ _ => rfl, Ext.refl _, fun j o hj => by omega⟩
      | succ k ihk =>
        intro hk
        obtain ⟨u', v, hu', hv, hxs⟩ := ihk (by omega)
        obtain ⟨o, ho⟩ := hat k (by omega)
        by_cases hlk : listed.getD k false = true
        · refine ⟨u', v, hu', hv, fun j o' hj ho' => ?_⟩
          by_cases hjk : j = k
          · subst hjk
            rw [ho] at ho'; cases ho'
            rw [hu' j hlk]
            refine xOut_agree (fun cs b => hsel j o cs b ho) (hmove j o u u' (by omega) ho fun e he hb => ?_) (xOut_mono (hx j o (by omega) hlk ho) hv)
            exact (hu' e.on (hcl j o ho hlk e he hb)).symm
          · exact hxs j o' (by omega) ho'
        · have hfeed := wpX_feed (u := u') hlo (h v (h1.trans hv)) k (by omega) (fun j o hj ho => hxs j o hj ho)
          have hlk2 : k < (ops.toList.take N).length := by omega
          rw [List.drop_eq_getElem_cons hlk2] at hfeed
          have hok : (ops.toList.take N)[k] = o := by
            have := hlo k hlk2
            rw [ho, List.getElem?_eq_getElem hlk2] at this
            exact Option.some.inj this
          rw [hok] at hfeed
          obtain ⟨uk, v2, hv2, hxk⟩ := hfeed.1.some v (h1.trans hv) (fun e he hb x d hxo hd hr => by
            have hek := hdep k o ho e he hb
            refine ⟨actsP ops a0 (fun _ => true) u' e.on, ?_⟩
            · have hat1 := actsP_at (ops := ops) (a := a0) (p := fun _ => true) (u := u') (j := e.on) (d := d) (by simp [dstAt, hxo, hd]) rfl (by rw [actsP_size] at hr; exact hr) k hek (fun i hi hne => hdst e.on i d (by omega) (by omega) (Ne.symm hne) (by simp [dstAt, hxo, hd]))
              rw [hat1]
              exact hxs e.on x hek hxo)
          refine ⟨fun j => if j = k then uk else u' j, v2, fun j hj => ?_, hv.trans hv2, fun j o' hj ho' => ?_⟩
          · have : j ≠ k := fun he => hlk (he ▸ hj)
            simp only [if_neg this]; exact hu' j hj
          · rw [actsP_congr (ops := ops) (q := fun _ => true) (u' := u') j fun i hi => ⟨rfl, fun _ => by simp [show i ≠ k by omega]⟩]
            by_cases hjk : j = k
            · subst hjk
              rw [ho] at ho'; cases ho'
              simp only [if_true]; exact hxk
            · simp only [if_neg hjk]
              exact xOut_mono (hxs j o' (by omega) ho') hv2
    have hdo : ∀ i ∈ Region.ready .any ops listed, wpOp P ops Q i (wpAny P .any ops Q (fuel + (ops.size - N)) (listed.setIfInBounds i true)) (actsP ops a0 (fun i => listed.getD i false) u N) w1 := by
      intro i hi
      have hiN := hready i hi
      obtain ⟨hun, y, hy, hall⟩ := mem_ready.1 hi
      have his : i < listed.size := by omega
      have hunf : listed.getD i false = false := by rw [← getD_tf his]; exact hun
      obtain ⟨u', v, hu', hv, hxs⟩ := hhyp i (by omega)
      have hfeed := wpX_feed (u := u') hlo (h v (h1.trans hv)) i (by omega) (fun j o hj ho => hxs j o hj ho)
      have hil : i < (ops.toList.take N).length := by omega
      rw [List.drop_eq_getElem_cons hil] at hfeed
      have hoi : (ops.toList.take N)[i] = y := by
        have := hlo i hil
        rw [hy, List.getElem?_eq_getElem hil] at this
        exact Option.some.inj this
      rw [hoi] at hfeed
      have hsafe := hfeed.1
      have hknown : Known P ops F w y (actsP ops a0 (fun _ => true) u' i) w1 := by
        intro e he hb x d hxo hd hr
        have hek := hdep i y hy e he hb
        have hle := hall e he hb
        refine ⟨actsP ops a0 (fun _ => true) u' e.on, ?_⟩
        have hat1 := actsP_at (ops := ops) (a := a0) (p := fun _ => true) (u := u') (j := e.on) (d := d) (by simp [dstAt, hxo, hd]) rfl (by rw [actsP_size] at hr; exact hr) i hek (fun k hk hne => hdst e.on k d (by omega) (by omega) (Ne.symm hne) (by simp [dstAt, hxo, hd]))
        rw [hat1, hu' e.on hle]
        have hxe := hx e.on x (by omega) hle hxo
        exact xOut_agree (fun cs b => hsel e.on x cs b hxo) (hmove e.on x u u' (by omega) hxo fun e' he' hb' => (hu' e'.on (hcl e.on x hxo hle e' he' hb')).symm) hxe
      have hagree : AgreeOn (y.looksAt ops) (actsP ops a0 (fun _ => true) u' i) (actsP ops a0 (fun i => listed.getD i false) u N) := by
        intro t ht
        have e1 : (actsP ops a0 (fun _ => true) u' i).eval (.tmp t) = (actsP ops a0 (fun k => decide (k < i)) u' N).eval (.tmp t) := by
          have : ∀ n, i ≤ n → actsP ops a0 (fun k => decide (k < i)) u' n = actsP ops a0 (fun _ => true) u' i := by
            intro n
            induction n with
            | zero => intro hn; obtain rfl : i = 0 := by omega
                      rfl
            | succ n ihn =>
              intro hn
              by_cases hin : i = n + 1
              · subst hin
                exact actsP_congr _ fun k hk => ⟨by simpa using hk, fun _ => rfl⟩
              · have h2 : decide (n < i) = false := by simp; omega
                have h3 : actsP ops a0 (fun k => decide (k < i)) u' (n + 1) = actsP ops a0 (fun k => decide (k < i)) u' n := by
                  conv => lhs; unfold actsP
                  simp only [h2, Bool.false_eq_true, if_false]
                rw [h3]
                exact ihn (by omega)
          rw [this N (by omega)]
        rw [e1]
        refine actsP_agree N fun k hk hd => ?_
        by_cases hki : k < i
        · obtain ⟨e, he, hb, rfl⟩ := hlook k i y t hki hiN hy hd ht
          have hle := hall e he hb
          exact ⟨by simp [hki, hle], fun _ => hu' _ hle⟩
        · have hlk : listed.getD k false = false := by
            by_cases hk2 : k = i
            · subst hk2; exact hunf
            · obtain ⟨z, hz, e, he, hb, hon⟩ := hlook2 i k y t (by omega) hk hy hd ht
              cases hlk : listed.getD k false with
              | false => rfl
              | true =>
                have := hcl k z hz hlk e he hb
                rw [hon, hunf] at this; cases this
          exact ⟨by simp [hki, hlk], fun h' => by simp [hki] at h'⟩
      have hexec := exec_agree (fun cs b => hsel i y cs b hy) hagree
      have hwant := wanted_agree hagree
      have hcl' : Closed .any ops (listed.setIfInBounds i true) := by
        intro j o ho hj e he hb
        by_cases hji : j = i
        · subst hji
          rw [hy] at ho; cases ho
          exact getD_set_true (hall e he hb)
        · have : (listed.setIfInBounds i true).getD j false = listed.getD j false := getD_set_ne false (fun h' => hji h'.symm)
          rw [this] at hj
          exact getD_set_true (hcl j o ho hj e he hb)
      have hlate' : ∀ j, N ≤ j → (listed.setIfInBounds i true).getD j true = true → ops.size ≤ j := by
        intro j hj hjl
        rw [getD_set_ne true (by omega)] at hjl
        exact hlate j hj hjl
      have hset : ∀ k, (listed.setIfInBounds i true).getD k false = (listed.getD k false || k == i) := by
        intro k
        by_cases hki : k = i
        · subst hki; simp [his]
        · rw [getD_set_ne false (fun h' => hki h'.symm)]; simp [hki]
      have hlen' : ((List.range N).filter fun k => !(listed.setIfInBounds i true).getD k false).length = fuel := by
        have hf : ((List.range N).filter fun k => !(listed.setIfInBounds i true).getD k false) = ((List.range N).filter fun k => !listed.getD k false).filter fun k => !(k == i) := by
          rw [List.filter_filter]
          congr 1
          funext k
          rw [hset k]
          cases listed.getD k false <;> cases (k == i) <;> rfl
        have hnd : ((List.range N).filter fun k => !listed.getD k false).Nodup := List.Pairwise.filter _ List.nodup_range
        have hmem : i ∈ (List.range N).filter fun k => !listed.getD k false := by
          rw [List.mem_filter]; exact ⟨by simpa using hiN, by rw [hunf]; rfl⟩
        rw [hf]
        have h4 := filter_ne_len hnd hmem
        omega
      -- behind it
      have next : ∀ (ui : Value) (w2 : World), Ext w1 w2 → xOut P ops F w w2 y (actsP ops a0 (fun _ => true) u' i) ui →
          wpAny P .any ops Q (fuel + (ops.size - N)) (listed.setIfInBounds i true) ((actsP ops a0 (fun i => listed.getD i false) u N).put y.dst ui) w2 := by
        intro ui w2 e2 hxi
        have hput := actsP_put (ops := ops) (a := a0) (p := fun k => listed.getD k false) (u := u) (j := i) (v := ui) hunf N hiN (fun k hk hne d h1 h2 => hdst i k d hiN hk (Ne.symm hne) h1 h2)
        have hdi : dstAt ops i = y.dst := by simp [dstAt, hy]
        rw [hdi] at hput
        rw [hput, actsP_congr (ops := ops) (q := fun k => (listed.setIfInBounds i true).getD k false) (u' := fun k => if k = i then ui else u k) N fun k hk => ⟨by rw [hset k], fun _ => rfl⟩]
        refine ih _ _ w2 (by simpa using hsz) hcl' hlate' (h1.trans e2) hlen' fun j o hj hlj ho => ?_
        by_cases hji : j = i
        · subst hji
          rw [hy] at ho; cases ho
          simp only [if_true]
          refine xOut_agree (fun cs b => hsel j y cs b hy) (hmove j y u' _ hj hy fun e he hb => ?_) hxi
          have := hdep j y hy e he hb
          simp only [if_neg (show e.on ≠ j by omega)]
          exact hu' _ (hall e he hb)
        · have hlj' : listed.getD j false = true := by rw [hset j] at hlj; simpa [hji] using hlj
          simp only [if_neg hji]
          refine xOut_agree (fun cs b => hsel j o cs b ho) (hmove j o u _ hj ho fun e he hb => ?_) (xOut_mono (hx j o hj hlj' ho) e2)
          have hle := hcl j o ho hlj' e he hb
          have : e.on ≠ i := fun hei => by rw [hei, hunf] at hle; cases hle
          simp only [if_neg this]
      unfold wpOp
      simp only [hy]
      rw [← hwant]
      split
      · rename_i hw
        have h2 := hsafe hw w1 h1 hknown
        refine .inl ?_
        unfold Oper.wp
        rw [← hexec]
        generalize hr : (execOp (actsP ops a0 (fun _ => true) u' i).eval y).run P w1 = r at h2
        cases r with
        | ok n w2 =>
          cases n <;> simp only [XSafe] at h2 <;> simp only [Oper.upon]
          case value ui => exact next ui w2 h2 (.inl ⟨hw, w1, h1, known_C hknown, by rw [hr]; exact ⟨rfl, Ext.refl _⟩⟩)
          case skip => exact next undef w2 h2 (.inl ⟨hw, w1, h1, known_C hknown, by rw [hr]; exact ⟨rfl, Ext.refl _⟩⟩)
          case enter f args =>
            obtain ⟨h3, hc⟩ := h2
            refine hc.mono fun e w3 ⟨ui, he, h4, h5⟩ => ?_
            subst he
            exact next ui w3 (h3.trans h4) (.inl ⟨hw, w1, h1, known_C hknown, by rw [hr]; exact ⟨w3, h4, Ext.refl _, h5⟩⟩)
        | halt x w2 => simp only [XSafe] at h2
      · rename_i hw
        have hw' : Region.wanted y (yielded ops (actsP ops a0 (fun _ => true) u' i).tmps) = false := by simpa using hw
        exact next undef w1 (Ext.refl _) (.inr ⟨hw', rfl⟩)
    rw [Nat.succ_add]
    refine ⟨fun hnone => ?_, hdo⟩
    exact (ready_some hord hsz (show j0 < ops.size by omega) (by rw [getD_tf (by omega)]; exact hl0) hnone).elim

/-- A region whose order is drawn: its first N operations by the walk in the text's order, then the rest in whatever order. -/
theorem wp_region_x {id : Nat} {Q : Exit → Act → World → Prop} {a : Act} (N : Nat) (F : Option Tmp → World → World → Value → Prop) (hm : P.follows .mixedOrders = true)
    (hns : Region.noSelect ops = true) (hap : apartB .any ops N = true) (hbar : barred .any ops N = true)
    (h : ∀ wf, Ext w.drew wf → wpX P ops F w.drew wf (fun a' => wpAny P .any ops Q (ops.size - N) (marked ops.size N) a' wf) (ops.toList.take N) a) : (Code.region id ops true).wp P Q a w := by
  have hN : N ≤ ops.size := by
    have := hbar
    simp only [barred, Bool.and_eq_true, decide_eq_true_eq] at this
    exact this.1
  refine wp_region_any hm ?_
  have key := wpX_any (P := P) (F := F) (w := w.drew) (Q := Q) (a0 := a) hns hap hbar h N (Array.replicate ops.size false) (fun _ => undef) w.drew (by simp)
    (fun j o _ hj => by
      rcases Nat.lt_or_ge j ops.size with h' | h'
      · simp [h'] at hj
      · simp [h'] at hj)
    (fun j _ hj => by
      rcases Nat.lt_or_ge j ops.size with h' | h'
      · simp [h'] at hj
      · exact h') (Ext.refl _) (by
        have hf : ((List.range N).filter fun i => !(Array.replicate ops.size false).getD i false) = List.range N := by
          rw [List.filter_eq_self]
          intro i hi
          have : i < N := by simpa using hi
          simp [show i < ops.size by omega]
        rw [hf]; simp)
    (fun j o _ hj => by
      rcases Nat.lt_or_ge j ops.size with h' | h'
      · simp [h'] at hj
      · simp [h'] at hj)
  rw [show N + (ops.size - N) = ops.size from by omega] at key
  rw [show actsP ops a (fun i => (Array.replicate ops.size false).getD i false) (fun _ => undef) N = a from ?_] at key
  · exact key
  · have : ∀ k, actsP ops a (fun i => (Array.replicate ops.size false).getD i false) (fun _ => undef) k = a := by
      intro k
      induction k with
      | zero => rfl
      | succ k ih =>
        have : (Array.replicate ops.size false).getD k false = false := by
          rcases Nat.lt_or_ge k ops.size with h' | h' <;> simp [h']
        unfold actsP
        simp only [this, Bool.false_eq_true, if_false]
        exact ih
    exact this N
/-- The same where no operation is left behind. -/
theorem wp_region_yall {id : Nat} {Q : Exit → Act → World → Prop} {a : Act} {l : List Oper} (F : Option Tmp → World → World → Value → Prop) (hm : P.follows .mixedOrders = true)
    (hns : Region.noSelect l.toArray = true) (hap : apartB .any l.toArray l.length = true)
    (h : ∀ wf, Ext w.drew wf → wpX P l.toArray F w.drew wf (fun a' => Q .normal a' wf) l a) : (Code.region id l.toArray true).wp P Q a w := by
  refine wp_region_x (w := w) l.length F hm hns hap ?_ fun wf hf => ?_
  · simp only [barred, Bool.and_eq_true, decide_eq_true_eq]
    refine ⟨by simp, ?_⟩
    refine List.all_eq_true.2 fun j hj => ?_
    simp at hj
    simp [hj]
  · have := h wf hf
    simp only [List.take_length, List.size_toArray, Nat.sub_self]
    have hready : Region.ready .any l.toArray (marked l.length l.length) = [] := by
      refine List.eq_nil_iff_forall_not_mem.2 fun j hj => ?_
      obtain ⟨h1, o, ho, _⟩ := mem_ready.1 hj
      have h2 := (Array.getElem?_eq_some_iff.1 ho).1
      simp at h2
      simp [marked, h2] at h1
    exact wpX_mono (fun a' ha => ⟨hready, ha⟩) this
where
  wpX_mono {ops : Array Oper} {F : Option Tmp → World → World → Value → Prop} {w wf : World} {Q Q' : Act → Prop} (hq : ∀ a, Q a → Q' a) : ∀ {l : List Oper} {a : Act}, wpX P ops F w wf Q l a → wpX P ops F w wf Q' l a
    | [], _, h => hq _ h
    | _ :: _, _, h => ⟨h.1, fun u hu => wpX_mono hq (h.2 u hu)⟩
/-- What is left comes in one order alone. -/
def forcedB (md : Region.Mode) (ops : Array Oper) : Nat → Nat → Array Bool → Bool
  | 0, _, listed => (Region.ready md ops listed).isEmpty
  | n + 1, k, listed => (Region.ready md ops listed == [k]) && forcedB md ops n (k + 1) (listed.setIfInBounds k true)
theorem wpAny_forced {Q : Exit → Act → World → Prop} : ∀ (l : List Oper) (k : Nat) (listed : Array Bool) (a : Act) (w : World), (∀ j, l[j]? = ops[k + j]?) →
    forcedB md ops l.length k listed = true → wpList P ops Q l a w → wpAny P md ops Q l.length listed a w
  | [], _, _, _, _, _, hB, h => ⟨by simpa [forcedB] using hB, h⟩
  | o :: l, k, listed, a, w, hl, hB, h => by
    have h0 : ops[k]? = some o := by simpa using (hl 0).symm
    simp only [List.length_cons, forcedB, Bool.and_eq_true, beq_iff_eq] at hB
    obtain ⟨hr, hB'⟩ := hB
    refine ⟨fun hn => (by rw [hr] at hn; cases hn), fun i hi => ?_⟩
    rw [hr] at hi
    obtain rfl : i = k := by simpa using hi
    have ih := fun a w => wpAny_forced (Q := Q) l (i + 1) (listed.setIfInBounds i true) a w (fun j => by have := hl (j + 1); simpa [Nat.add_assoc, Nat.add_comm 1 j] using this) hB'
    unfold wpOp
    simp only [h0]
    unfold wpList at h
    split at h
    · rename_i hw
      rw [if_pos hw]
      rcases h with h | h
      · exact .inl (Oper.wp_mono (fun a w => ih a w) h)
      · exact .inr h
    · rename_i hw
      rw [if_neg hw]
      exact ih _ _ h
/-- The first N operations by the walk in the text's order, the rest in the one order that is left. -/
theorem wp_region_yt {id : Nat} {Q : Exit → Act → World → Prop} {a : Act} {l : List Oper} (N : Nat) (F : Option Tmp → World → World → Value → Prop) (hm : P.follows .mixedOrders = true)
    (hns : Region.noSelect l.toArray = true) (hap : apartB .any l.toArray N = true) (hbar : barred .any l.toArray N = true) (hf : forcedB .any l.toArray (l.drop N).length N (marked l.length N) = true)
    (h : ∀ wf, Ext w.drew wf → wpX P l.toArray F w.drew wf (fun a' => wpList P l.toArray Q (l.drop N) a' wf) (l.take N) a) : (Code.region id l.toArray true).wp P Q a w := by
  refine wp_region_x (w := w) N F hm hns hap hbar fun wf hwf => ?_
  refine wp_region_yall.wpX_mono (fun a' ha => ?_) (h wf hwf)
  have := wpAny_forced (P := P) (md := .any) (ops := l.toArray) (Q := Q) (l.drop N) N (marked l.length N) a' wf (fun j => by simp) hf ha
  rw [List.length_drop] at this
  simpa using this
/-- The same where a call's contract speaks of the world behind it alone. -/
theorem wp_region_xall {id : Nat} {Q : Exit → Act → World → Prop} {a : Act} {l : List Oper} (F : Option Tmp → World → Value → Prop) (hm : P.follows .mixedOrders = true)
    (hns : Region.noSelect l.toArray = true) (hap : apartB .any l.toArray l.length = true)
    (h : ∀ wf, Ext w.drew wf → wpX P l.toArray (fun d _ W u => F d W u) w.drew wf (fun a' => Q .normal a' wf) l a) : (Code.region id l.toArray true).wp P Q a w := wp_region_yall _ hm hns hap h
theorem wp_region_xt {id : Nat} {Q : Exit → Act → World → Prop} {a : Act} {l : List Oper} (N : Nat) (F : Option Tmp → World → Value → Prop) (hm : P.follows .mixedOrders = true)
    (hns : Region.noSelect l.toArray = true) (hap : apartB .any l.toArray N = true) (hbar : barred .any l.toArray N = true) (hf : forcedB .any l.toArray (l.drop N).length N (marked l.length N) = true)
    (h : ∀ wf, Ext w.drew wf → wpX P l.toArray (fun d _ W u => F d W u) w.drew wf (fun a' => wpList P l.toArray Q (l.drop N) a' wf) (l.take N) a) : (Code.region id l.toArray true).wp P Q a w := wp_region_yt N _ hm hns hap hbar hf h
end
end Go.Proofs.Ytlimabbeaimdgaa
/- Floats up to which not-a-number one has: each operation, on bits with all not-a-numbers made one. -/
namespace Go.Proofs.Ytlimabbeaimdgaa
set_option linter.unusedSimpArgs false
set_option linter.unusedVariables false
open Go.RowKit

/-- The one not-a-number. -/
def nanB : FloatKind → Nat | .f32 => 2143289344 | .f64 => 9221120237041090560
/-- Bits, all not-a-numbers made one. -/
def cn (k : FloatKind) (b : Nat) : Nat := if (k.decode b).isNaN then nanB k else b

def fop (op : BinOp) (k : FloatKind) (x y : Nat) : Nat := (floatBits op k x y).getD (nanB k)
def flt (k : FloatKind) (x y : Nat) : Bool := k.format.order x y == some .lt
def feq (k : FloatKind) (x y : Nat) : Bool := k.format.order x y == some .eq
def fgt (k : FloatKind) (x y : Nat) : Bool := k.format.order x y == some .gt

theorem isNaN_nanB (k : FloatKind) : (k.decode (nanB k)).isNaN = true := by cases k <;> decide +kernel

theorem cn_nan {k : FloatKind} {b : Nat} (h : (k.decode b).isNaN = true) : cn k b = nanB k := by simp [cn, h]
theorem cn_not {k : FloatKind} {b : Nat} (h : (k.decode b).isNaN = false) : cn k b = b := by simp [cn, h]
theorem cn_cn (k : FloatKind) (b : Nat) : cn k (cn k b) = cn k b := by
  by_cases h : (k.decode b).isNaN = true
  · rw [cn_nan h, cn_nan (isNaN_nanB k)]
  · have h' : (k.decode b).isNaN = false := by simpa using h
    rw [cn_not h', cn_not h']
theorem isNaN_cn (k : FloatKind) (b : Nat) : (k.decode (cn k b)).isNaN = (k.decode b).isNaN := by
  by_cases h : (k.decode b).isNaN = true
  · rw [cn_nan h, h, isNaN_nanB]
  · rw [cn_not (by simpa using h)]

theorem eq_nan_of_isNaN {d : Ieee.Datum} (h : d.isNaN = true) : ∃ s f, d = .nan s f := by
  cases d with
  | nan s f => exact ⟨s, f, rfl⟩
  | number _ _ _ => simp [Ieee.Datum.isNaN] at h
  | infinity _ => simp [Ieee.Datum.isNaN] at h

theorem sum_nan_l {x y : Ieee.Datum} (h : x.isNaN = true) : x.sum y = none := by obtain ⟨s, f, rfl⟩ := eq_nan_of_isNaN h; cases y <;> rfl
theorem sum_nan_r {x y : Ieee.Datum} (h : y.isNaN = true) : x.sum y = none := by obtain ⟨s, f, rfl⟩ := eq_nan_of_isNaN h; cases x <;> rfl
theorem opp_nan {x : Ieee.Datum} (h : x.isNaN = true) : x.opposite.isNaN = true := by obtain ⟨s, f, rfl⟩ := eq_nan_of_isNaN h; rfl
theorem product_nan_l {x y : Ieee.Datum} (h : x.isNaN = true) : x.product y = none := by obtain ⟨s, f, rfl⟩ := eq_nan_of_isNaN h; cases y <;> rfl
theorem product_nan_r {x y : Ieee.Datum} (h : y.isNaN = true) : x.product y = none := by obtain ⟨s, f, rfl⟩ := eq_nan_of_isNaN h; cases x <;> rfl
theorem quotient_nan_l {n : Nat} {x y : Ieee.Datum} (h : x.isNaN = true) : x.quotient n y = none := by obtain ⟨s, f, rfl⟩ := eq_nan_of_isNaN h; cases y <;> rfl
theorem quotient_nan_r {n : Nat} {x y : Ieee.Datum} (h : y.isNaN = true) : x.quotient n y = none := by obtain ⟨s, f, rfl⟩ := eq_nan_of_isNaN h; cases x <;> rfl
theorem order_nan_l {x y : Ieee.Datum} (h : x.isNaN = true) : x.order y = none := by obtain ⟨s, f, rfl⟩ := eq_nan_of_isNaN h; cases y <;> rfl
theorem order_nan_r {x y : Ieee.Datum} (h : y.isNaN = true) : x.order y = none := by obtain ⟨s, f, rfl⟩ := eq_nan_of_isNaN h; cases x <;> rfl

theorem decode_eq (k : FloatKind) (b : Nat) : k.format.read b = k.decode b := rfl

theorem floatBits_nan_l {op : BinOp} {k : FloatKind} {x y : Nat} (h : (k.decode x).isNaN = true) : floatBits op k x y = none := by
  unfold floatBits
  split <;> simp [Ieee.Format.add, Ieee.Format.sub, Ieee.Format.mul, Ieee.Format.div, decode_eq, sum_nan_l h, product_nan_l h, quotient_nan_l h]
theorem floatBits_nan_r {op : BinOp} {k : FloatKind} {x y : Nat} (h : (k.decode y).isNaN = true) : floatBits op k x y = none := by
  unfold floatBits
  split <;> simp [Ieee.Format.add, Ieee.Format.sub, Ieee.Format.mul, Ieee.Format.div, decode_eq, sum_nan_r h, sum_nan_r (opp_nan h), product_nan_r h, quotient_nan_r h]

/-- What an operation gives hangs on its operands only up to which not-a-number they are. -/
theorem floatBits_cn (op : BinOp) (k : FloatKind) (x y : Nat) : floatBits op k (cn k x) (cn k y) = floatBits op k x y := by
  by_cases hx : (k.decode x).isNaN = true
  · rw [floatBits_nan_l hx, floatBits_nan_l (by rw [isNaN_cn]; exact hx)]
  · by_cases hy : (k.decode y).isNaN = true
    · rw [floatBits_nan_r hy, floatBits_nan_r (by rw [isNaN_cn]; exact hy)]
    · rw [cn_not (by simpa using hx), cn_not (by simpa using hy)]
theorem fop_cn (op : BinOp) (k : FloatKind) (x y : Nat) : fop op k (cn k x) (cn k y) = fop op k x y := by unfold fop; rw [floatBits_cn]
theorem order_cn (k : FloatKind) (x y : Nat) : k.format.order (cn k x) (cn k y) = k.format.order x y := by
  unfold Ieee.Format.order
  rw [decode_eq, decode_eq, decode_eq, decode_eq]
  by_cases hx : (k.decode x).isNaN = true
  · rw [order_nan_l hx, order_nan_l (by rw [isNaN_cn]; exact hx)]
  · by_cases hy : (k.decode y).isNaN = true
    · rw [order_nan_r hy, order_nan_r (by rw [isNaN_cn]; exact hy)]
    · rw [cn_not (by simpa using hx), cn_not (by simpa using hy)]
theorem flt_cn (k : FloatKind) (x y : Nat) : flt k (cn k x) (cn k y) = flt k x y := by unfold flt; rw [order_cn]
theorem feq_cn (k : FloatKind) (x y : Nat) : feq k (cn k x) (cn k y) = feq k x y := by unfold feq; rw [order_cn]
theorem fgt_cn (k : FloatKind) (x y : Nat) : fgt k (cn k x) (cn k y) = fgt k x y := by unfold fgt; rw [order_cn]

/-- A word that is written is no not-a-number. -/
theorem isNaN_word (f : Ieee.Format) (neg : Bool) {r : Nat} (hr : r ≤ f.infRung) : (f.read (f.word neg r)).isNaN = false := by
  have hlt : r < f.signWeight := Nat.lt_of_le_of_lt hr f.infRung_lt
  have hm : f.word neg r % f.signWeight = r := by
    unfold Ieee.Format.word
    split
    · rw [Nat.add_mod_left]; exact Nat.mod_eq_of_lt hlt
    · exact Nat.mod_eq_of_lt hlt
  unfold Ieee.Format.read
  simp only [hm]
  split
  · rfl
  · split
    · rfl
    · split
      · rfl
      · rename_i h1 h2 h3; exact absurd (Nat.le_antisymm hr (Nat.le_of_not_lt h2)) h3
theorem isNaN_write (f : Ieee.Format) {d : Ieee.Datum} (h : d.isNaN = false) : (f.read (f.write d)).isNaN = false := by
  cases d with
  | nan s t => simp [Ieee.Datum.isNaN] at h
  | infinity s => exact isNaN_word f s (Nat.le_refl _)
  | number s m e =>
    show (f.read (f.nearest s m e)).isNaN = false
    unfold Ieee.Format.nearest
    dsimp only
    split
    · exact isNaN_word f s (Nat.zero_le _)
    · exact isNaN_word f s (Nat.min_le_right _ _)
theorem isNaN_map {f : Ieee.Format} {d : Option Ieee.Datum} (hd : ∀ x, d = some x → x.isNaN = false) {r : Nat} (h : d.map f.write = some r) : (f.read r).isNaN = false := by
  cases d with
  | none => cases h
  | some x => cases h; exact isNaN_write f (hd x rfl)
theorem sum_not {x y z : Ieee.Datum} (h : x.sum y = some z) : z.isNaN = false := by
  cases x <;> cases y <;> simp only [Ieee.Datum.sum] at h
  all_goals first | (cases h; done) | skip
  all_goals first | (cases h; rfl) | (split at h <;> first | (cases h; done) | (cases h; rfl))
theorem product_not {x y z : Ieee.Datum} (h : x.product y = some z) : z.isNaN = false := by
  cases x <;> cases y <;> simp only [Ieee.Datum.product] at h
  all_goals first | (cases h; done) | skip
  all_goals first | (cases h; rfl) | (split at h <;> first | (cases h; done) | (cases h; rfl))
theorem quotient_not {n : Nat} {x y z : Ieee.Datum} (h : x.quotient n y = some z) : z.isNaN = false := by
  cases x <;> cases y <;> simp only [Ieee.Datum.quotient] at h
  all_goals first | (cases h; done) | skip
  all_goals first | (cases h; rfl) | (split at h; (split at h <;> first | (cases h; done) | (cases h; rfl)); (cases h; rfl))
theorem floatBits_not {op : BinOp} {k : FloatKind} {x y r : Nat} (h : floatBits op k x y = some r) : (k.decode r).isNaN = false := by
  unfold floatBits at h
  split at h
  · exact isNaN_map (fun z hz => sum_not hz) h
  · exact isNaN_map (fun z hz => sum_not hz) h
  · exact isNaN_map (fun z hz => product_not hz) h
  · exact isNaN_map (fun z hz => quotient_not hz) h
  · cases h
theorem cn_fop (op : BinOp) (k : FloatKind) (x y : Nat) : cn k (fop op k x y) = fop op k x y := by
  unfold fop
  cases h : floatBits op k x y with
  | none => exact cn_nan (isNaN_nanB k)
  | some r => exact cn_not (floatBits_not h)
theorem nearest_not (k : FloatKind) (n : Int) : (k.decode (k.nearest n)).isNaN = false :=
  isNaN_write k.format (d := .number (n < 0) n.natAbs 0) rfl
theorem cn_nearest (k : FloatKind) (n : Int) : cn k (k.nearest n) = k.nearest n := cn_not (nearest_not k n)

/-- What the tape answers where an operation gives a not-a-number is one. -/
theorem cut_nan32 (t : Nat) : ((FloatKind.f32).decode ((t % 2) * 2 ^ 31 + 0x7f800000 + 1 + (t / 2) % (2 ^ 23 - 1))).isNaN = true := by
  have h1 : (t / 2) % (2 ^ 23 - 1) < 2 ^ 23 - 1 := Nat.mod_lt _ (by decide)
  generalize (t / 2) % (2 ^ 23 - 1) = f at h1
  have h2 : t % 2 < 2 := Nat.mod_lt _ (by decide)
  have hs : (Ieee.single).signWeight = 2147483648 := by decide
  have hi : (Ieee.single).infRung = 2139095040 := by decide
  have hb : (Ieee.single).binade = 8388608 := by decide
  have hm : ((t % 2) * 2 ^ 31 + 0x7f800000 + 1 + f) % 2147483648 = 2139095041 + f := by omega
  show (Ieee.Format.read Ieee.single _).isNaN = true
  unfold Ieee.Format.read
  simp only [hs, hi, hb, hm]
  rw [if_neg (by omega), if_neg (by omega), if_neg (by omega)]
  rfl
theorem cut_nan64 (t : Nat) : ((FloatKind.f64).decode ((t % 2) * 2 ^ 63 + 0x7ff0000000000000 + 1 + (t / 2) % (2 ^ 52 - 1))).isNaN = true := by
  have h1 : (t / 2) % (2 ^ 52 - 1) < 2 ^ 52 - 1 := Nat.mod_lt _ (by decide)
  generalize (t / 2) % (2 ^ 52 - 1) = f at h1
  have h2 : t % 2 < 2 := Nat.mod_lt _ (by decide)
  have hs : (Ieee.double).signWeight = 9223372036854775808 := by decide
  have hi : (Ieee.double).infRung = 9218868437227405312 := by decide
  have hb : (Ieee.double).binade = 4503599627370496 := by decide
  have hm : ((t % 2) * 2 ^ 63 + 0x7ff0000000000000 + 1 + f) % 9223372036854775808 = 9218868437227405313 + f := by omega
  show (Ieee.Format.read Ieee.double _).isNaN = true
  unfold Ieee.Format.read
  simp only [hs, hi, hb, hm]
  rw [if_neg (by omega), if_neg (by omega), if_neg (by omega)]
  rfl

section
variable {P : Program} (w : World)
/-- '+', '-', '*', '/': some bits, right up to which not-a-number. -/
theorem run_farith (op : BinOp) (hop : op = .add ∨ op = .sub ∨ op = .mul ∨ op = .quo) (t : TypeId) (k : FloatKind) (x y : Nat) :
    ∃ r n, (binOp op t (.float k x) (.float k y)).run P w = .ok (.float k r) (w.drewN n) ∧ cn k r = fop op k (cn k x) (cn k y) := by
  rw [fop_cn]
  cases h : floatBits op k x y with
  | some r => exact ⟨r, 0, run_float_arith w op t k x y r h, by rw [cn_not (floatBits_not h)]; simp [fop, h]⟩
  | none =>
    have hf : fop op k x y = nanB k := by simp [fop, h]
    rw [hf]
    have key : ∀ q : Question, q = .nanBits k x y → ∃ r, (binOp op t (.float k x) (.float k y)).run P w = .ok (.float k (q.cut r)) (w.drewN 1) := by
      rintro q rfl
      refine ⟨w.tape w.drawn (.nanBits k x y), ?_⟩
      rcases hop with rfl | rfl | rfl | rfl <;> (simp only [floatBits] at h; simp [binOp, Op.floatArith, h, choose, Sem.run, Question.forced, World.drewN])
    obtain ⟨r, hr⟩ := key _ rfl
    refine ⟨_, 1, hr, cn_nan ?_⟩
    cases k
    · exact cut_nan32 r
    · exact cut_nan64 r

/-- 'float64(x)', 'float32(x)'. -/
def fconv (src : FloatKind) (bits : Nat) (dst : FloatKind) : Nat := (floatToFloatBits src bits dst).getD (nanB dst)
/-- A conversion whose value Go leaves open: of a finite number too great for the narrower kind. -/
def fover (src : FloatKind) (bits : Nat) (dst : FloatKind) : Bool := !(src.decode bits).isNaN && (floatToFloatBits src bits dst).isNone
theorem run_fconv (src dst : TypeId) (s k : FloatKind) (b : Nat) (hs : (P.underlying src).isSome = true) (hd : P.underlying dst = some (.float k)) (ho : fover s (cn s b) k = false) :
    ∃ r n, (convert src dst (.float s b)).run P w = .ok (.float k r) (w.drewN n) ∧ cn k r = fconv s (cn s b) k := by
  by_cases hsk : s = k
  · subst hsk
    have h : floatToFloatBits s b s = some b := by simp [floatToFloatBits]
    exact ⟨b, 0, run_convert_float_float w src dst s s b b hs hd h, by simp [fconv, floatToFloatBits]⟩
  · by_cases hn : (s.decode b).isNaN = true
    · obtain ⟨g, f, hgf⟩ := eq_nan_of_isNaN hn
      have hgf' : s.decode b = .nan g f := hgf
      have hc : fconv s (cn s b) k = nanB k := by
        have h2 := isNaN_cn s b
        rw [hn] at h2
        obtain ⟨g', f', h3⟩ := eq_nan_of_isNaN h2
        simp [fconv, floatToFloatBits, hsk, h3]
      rw [hc]
      obtain ⟨u, hs'⟩ := Option.isSome_iff_exists.1 hs
      have hrun : ∃ r, (convert src dst (.float s b)).run P w = .ok (.float k ((Question.nanConv k b).cut r)) (w.drewN 1) := by
        refine ⟨w.tape w.drawn (.nanConv k b), ?_⟩
        cases u <;> simp [convert, run_underlying hs', run_underlying hd, Conv.floatToFloat, hsk, hgf', choose, Sem.run, Question.forced, World.drewN]
      obtain ⟨r, hr⟩ := hrun
      refine ⟨_, 1, hr, cn_nan ?_⟩
      cases k
      · exact cut_nan32 r
      · exact cut_nan64 r
    · have hcb : cn s b = b := cn_not (by simpa using hn)
      rw [hcb] at ho ⊢
      cases h : floatToFloatBits s b k with
      | none => simp [fover, h, hn] at ho
      | some r =>
        refine ⟨r, 0, run_convert_float_float w src dst s k b r hs hd h, ?_⟩
        have : fconv s b k = r := by simp [fconv, h]
        rw [this]
        refine cn_not ?_
        simp only [floatToFloatBits, hsk, if_false] at h
        split at h
        · cases h
        · cases h; exact isNaN_write k.format rfl
        · split at h
          · cases h
          · cases h; exact isNaN_write k.format rfl
end

theorem isInf_word (f : Ieee.Format) (neg : Bool) {r : Nat} (hr : r < f.infRung) : (f.read (f.word neg r)).isInfinity = false := by
  have hlt : r < f.signWeight := Nat.lt_trans hr f.infRung_lt
  have hm : f.word neg r % f.signWeight = r := by
    unfold Ieee.Format.word
    split
    · rw [Nat.add_mod_left]; exact Nat.mod_eq_of_lt hlt
    · exact Nat.mod_eq_of_lt hlt
  unfold Ieee.Format.read
  simp only [hm]
  split
  · rfl
  · first | rfl | (rw [if_pos hr]; rfl)
theorem cut_le (way : Ieee.Toward) (neg : Bool) (n drop : Nat) : way.cut neg n drop ≤ n + 1 := by
  unfold Ieee.Toward.cut
  dsimp only
  have h1 : n / (1 <<< min drop (n.log2 + 2)) ≤ n := Nat.div_le_self _ _
  have h2 : ∀ b : Bool, b.toNat ≤ 1 := fun b => by cases b <;> decide
  exact Nat.add_le_add h1 (h2 _)
theorem widen_small (s : Bool) {m : Nat} {e : Int} (hm : m < 16777216) (he : e ≤ 104) : ((FloatKind.f64).decode ((FloatKind.f64).encode (.number s m e))).isInfinity = false := by
  show (Ieee.double.read (Ieee.double.nearest s m e)).isInfinity = false
  have hlp : (Ieee.double).leastPlace = -1074 := by decide
  have hfb : (Ieee.double).fractionBits = 52 := rfl
  have hi : (Ieee.double).infRung = 9218868437227405312 := by decide
  have hb : (Ieee.double).binade = 4503599627370496 := by decide
  unfold Ieee.Format.nearest
  dsimp only
  split
  · exact isInf_word _ _ (by rw [hi]; decide)
  · rename_i hm0
    refine isInf_word _ _ (Nat.lt_of_le_of_lt (Nat.min_le_left _ _) ?_)
    rw [hi, hb, hlp, hfb]
    have hlog : m.log2 < 24 := (Nat.log2_lt hm0).2 hm
    have hself : m < 2 ^ (m.log2 + 1) := Nat.lt_log2_self
    generalize hL : max (e + (m.log2 : Int) - (52 : Nat)) (-1074) = last
    have h1 : last ≤ 75 := by omega
    have h2 : (e - last).toNat ≤ 52 - m.log2 := by omega
    have h3 : m <<< (e - last).toNat < 2 ^ 53 := by
      rw [Nat.shiftLeft_eq]
      calc m * 2 ^ (e - last).toNat < 2 ^ (m.log2 + 1) * 2 ^ (e - last).toNat := Nat.mul_lt_mul_of_pos_right hself (Nat.two_pow_pos _)
        _ = 2 ^ (m.log2 + 1 + (e - last).toNat) := by rw [← Nat.pow_add]
        _ ≤ 2 ^ 53 := Nat.pow_le_pow_right (by decide) (by omega)
    have h4 := cut_le .even s (m <<< (e - last).toNat) (last - e).toNat
    have h5 : (last - -1074).toNat ≤ 1149 := by omega
    have h6 : (last - -1074).toNat * 4503599627370496 ≤ 1149 * 4503599627370496 := Nat.mul_le_mul_right _ h5
    omega
/-- A float32 as a float64 is never too great. -/
theorem fover_widen (b : Nat) : fover .f32 b .f64 = false := by
  unfold fover floatToFloatBits
  rw [if_neg (by decide)]
  cases hd : FloatKind.f32.decode b with
  | nan s f => simp [Ieee.Datum.isNaN]
  | infinity s => simp [Ieee.Datum.isNaN]
  | number s m e =>
    have hb : m < 16777216 ∧ e ≤ 104 := by
      have hd' : Ieee.single.read b = .number s m e := hd
      have hs : (Ieee.single).signWeight = 2147483648 := by decide
      have hi : (Ieee.single).infRung = 2139095040 := by decide
      have hbi : (Ieee.single).binade = 8388608 := by decide
      have hlp : (Ieee.single).leastPlace = -149 := by decide
      unfold Ieee.Format.read at hd'
      simp only [hs, hi, hbi, hlp] at hd'
      split at hd'
      · cases hd'; omega
      · split at hd'
        · cases hd'; omega
        · split at hd' <;> cases hd'
    simp [Ieee.Datum.isNaN, widen_small s hb.1 hb.2]
@[go_sem] theorem run_store_float {P : Program} {w : World} {a : Addr} {m : Mode} (k : FloatKind) (b : Nat) : (store a (.float k b) m).run P w = stored P w a (.float k b) m := run_store P w a _ m rfl
end Go.Proofs.Ytlimabbeaimdgaa
/- Memory: cells behind a slice, rows of the call's own; the walk's laws on them. -/
namespace Go.Proofs.Ytlimabbeaimdgaa
set_option linter.unusedSimpArgs false
set_option linter.unusedVariables false
open Go.RowKit

/-- The address i cells on. -/
def adr (p : Option Addr) (i : Nat) : Addr := (p.getD ⟨0, 0, none⟩).add i
theorem adr_some (a : Addr) (i : Nat) : adr (some a) i = a.add i := rfl
theorem adr_row (g i : Nat) : adr (some ⟨g, 0, none⟩) i = ⟨g, i, none⟩ := by rw [adr_some, Addr.add_lit, Nat.zero_add]
theorem add_add (a : Addr) (i j : Nat) : (a.add i).add j = a.add (i + j) := by
  unfold Addr.add
  by_cases hi : i = 0
  · subst hi; simp
  · by_cases hj : j = 0
    · subst hj; simp [hi]
    · simp [hi, hj, Nat.add_assoc]
theorem adr_shift (a : Addr) (l i : Nat) : adr (some (a.add l)) i = adr (some a) (l + i) := by rw [adr_some, adr_some, add_add]
theorem adr_block (p : Option Addr) (i j : Nat) : (adr p i).block = (adr p j).block := by
  unfold adr Addr.add; split <;> split <;> rfl

/-- The cells from p on hold vs. -/
structure Cs (w : World) (p : Option Addr) (vs : List Value) : Prop where
  cell : ∀ i u, vs[i]? = some u → w.cell? (adr p i) = some u
  isS : vs ≠ [] → p.isSome = true
theorem Cs.nil (w : World) (p : Option Addr) : Cs w p [] := ⟨fun i u h => by simp at h, fun h => (h rfl).elim⟩
theorem Cs.ext {w w' : World} {p : Option Addr} {vs : List Value} (h : Cs w p vs) (e : Ext w w') : Cs w' p vs :=
  ⟨fun i u hu => e.cell (h.cell i u hu), h.isS⟩
theorem Cs.take {w : World} {p : Option Addr} {vs : List Value} (h : Cs w p vs) (n : Nat) : Cs w p (vs.take n) :=
  ⟨fun i u hu => h.cell i u (by rw [List.getElem?_take] at hu; split at hu <;> first | exact hu | cases hu), fun hn => h.isS fun h0 => hn (by simp [h0])⟩
theorem Cs.drop {w : World} {a : Addr} {vs : List Value} (h : Cs w (some a) vs) (l : Nat) : Cs w (some (a.add l)) (vs.drop l) :=
  ⟨fun i u hu => by rw [adr_shift]; exact h.cell _ _ (by rw [← hu, List.getElem?_drop]), fun _ => rfl⟩
theorem Cs.blk {w : World} {p : Option Addr} {vs : List Value} (h : Cs w p vs) (hn : vs ≠ []) : (adr p 0).block < w.heap.size := by
  cases vs with
  | nil => exact (hn rfl).elim
  | cons v vs => exact lt_of_cell (h.cell 0 v rfl)
/-- The cells stay where their block stays. -/
theorem Cs.keep {w w' : World} {p : Option Addr} {vs : List Value} (h : Cs w p vs) (e : vs ≠ [] → w'.heap[(adr p 0).block]? = w.heap[(adr p 0).block]?) : Cs w' p vs :=
  ⟨fun i u hu => by
    have hn : vs ≠ [] := by intro h0; subst h0; simp at hu
    rw [World.cell?_of_block (w := w) (by rw [adr_block p i 0]; exact e hn)]
    exact h.cell i u hu, h.isS⟩

/-- A slice type: its element type, the cells of one, its zero, its bytes. -/
class SlTy (P : Program) (t : TypeId) (e : outParam TypeId) (s : outParam Nat) (z : outParam Value) (b : outParam Nat) : Prop where
  und : P.underlying t = some (.slice e)
  inf : (P.info? e).map (fun i => (i.zero, i.size, i.bytes)) = some (some z, s, b)
  zs : z.cells.size = s
  pos : 0 < s
  few : s ≤ 16777216
def notAgg : TypeDesc → Bool
  | .struct _ => false
  | .array _ _ => false
  | _ => true
/-- A type of one cell. -/
class Cell1 (P : Program) (t : TypeId) : Prop where
  und : (P.underlying t).map notAgg = some true
  inf : (P.info? t).map (fun i => i.size) = some 1

def F32s (vs : List Value) (xs : List Nat) : Prop := vs.length = xs.length ∧ ∀ i, i < xs.length → ∃ b, vs[i]? = some (.float .f32 b) ∧ cn .f32 b = xs.getD i 0
def I64s (vs : List Value) (xs : List Int) : Prop := vs = xs.map (Value.int .i64)

theorem own_cs {w : World} {B e s n c g : Nat} {vs : List Value} (h : w.ownsRow B e s (.slice (some ⟨g, 0, none⟩) n c) n vs) : Cs w (some ⟨g, 0, none⟩) vs := by
  refine ⟨fun i u hu => ?_, fun _ => rfl⟩
  have hi : i < n * s := by rw [← h.1]; exact (List.getElem?_eq_some_iff.1 hu).1
  rw [adr_row, h.cellAt i hi]; exact hu
theorem own_B {w : World} {B e s n c g : Nat} {vs : List Value} (h : w.ownsRow B e s (.slice (some ⟨g, 0, none⟩) n c) n vs) : B ≤ g ∧ g < w.heap.size := h.lt g rfl
theorem own_ext {w w' : World} {B e s n : Nat} {v : Value} {vs : List Value} (h : w.ownsRow B e s v n vs) (x : Ext w w') : w'.ownsRow B e s v n vs := by
  obtain ⟨h1, h2⟩ := h
  refine ⟨h1, ?_⟩
  rcases h2 with h2 | ⟨g, cap, cur, hv, hg, hh, r⟩
  · exact .inl h2
  · have hlt : g < w.heap.size := by
      rcases Nat.lt_or_ge g w.heap.size with h' | h'
      · exact h'
      · simp [Array.getElem?_eq_none h'] at hh
    exact .inr ⟨g, cap, cur, hv, hg, by rw [x.block g hlt]; exact hh, r⟩
theorem own_base {w : World} {B B' e s n : Nat} {v : Value} {vs : List Value} (h : w.ownsRow B e s v n vs) (hB : B' ≤ B) : w.ownsRow B' e s v n vs := by
  obtain ⟨h1, h2⟩ := h
  refine ⟨h1, ?_⟩
  rcases h2 with h2 | ⟨g, cap, cur, hv, hg, hh, r⟩
  · exact .inl h2
  · exact .inr ⟨g, cap, cur, hv, by omega, hh, r⟩

/-- A row stays where another row is written, whose block is a later one. -/
theorem own_apart {w w' : World} {B e s n B1 : Nat} {v u : Value} {vs : List Value} (h : w.ownsRow B e s v n vs) (h0 : ∀ k, v.ownBlock = some k → k < B1) (h1 : ∀ k, u.ownBlock = some k → B1 ≤ k) (g : w.grownBy w' u.ownBlock) : w'.ownsRow B e s v n vs := by
  refine h.kept g ?_
  cases hv : v.ownBlock with
  | none => exact .inl rfl
  | some k =>
    right
    intro hu
    have := h0 k hv
    have := h1 k hu.symm
    omega
theorem own_le {w : World} {B e s n : Nat} {v : Value} {vs : List Value} (h : w.ownsRow B e s v n vs) : ∀ k, v.ownBlock = some k → B ≤ k := fun k hk => (h.lt k hk).1
theorem own_lt {w : World} {B e s n : Nat} {v : Value} {vs : List Value} (h : w.ownsRow B e s v n vs) : ∀ k, v.ownBlock = some k → k < w.heap.size := fun k hk => (h.lt k hk).2
/-- Only blocks from B on may have turned. -/
theorem Ext.grown {w0 w w' : World} (h : Ext w0 w) {row : Option Nat} (hg : w.grownBy w' row) (hr : ∀ k, row = some k → w0.heap.size ≤ k) : Ext w0 w' :=
  Ext.of_below ((h.below).grown hg h.size hr)
theorem Ext.setCell {w0 w : World} (h : Ext w0 w) {p : Addr} (hp : w0.heap.size ≤ p.block) (u : Value) : Ext w0 (w.setCell p u) :=
  Ext.of_below ((h.below).setCell hp u)

section
variable {P : Program} {w : World} {ops : Array Oper} {rest : List Oper} {o o1 o2 : Oper} {a : Act} {Q : Exit → Act → World → Prop}

theorem run_indexAt {t e s b : Nat} {z : Value} [T : SlTy P t e s z b] {p : Option Addr} {n c : Nat} {k : IntKind} {i : Int} (hp : p.isSome = true) (h0 : 0 ≤ i) (hn : i < n) :
    (Instr.indexAt t (.slice p n c) (.int k i)).run P w = .ok (.pointer (some (adr p (i.toNat * s)))) w := by
  obtain ⟨q, rfl⟩ := Option.isSome_iff_exists.1 hp
  obtain ⟨ti, hi, hzz⟩ := Option.map_eq_some_iff.1 T.inf
  simp only [Prod.mk.injEq] at hzz
  have hu := T.und
  simp [Instr.indexAt, asIntOf, run_underlying hu, h0, hn, sizeOf, typeInfo, hi, hzz.2.1, adr]

theorem run_load1 {t : TypeId} [T : Cell1 P t] {q : Addr} {u : Value} (h : w.cell? q = some u) : (Instr.loadAt t (.pointer (some q))).run P w = .ok u w := by
  obtain ⟨d, hd, hk⟩ := Option.map_eq_some_iff.1 T.und
  cases d <;> first | (cases hk; done) | simp [Instr.loadAt, Instr.sureAddr, loadVar, isAgg, run_underlying hd, load, Sem.run, h]
theorem run_store1 {t : TypeId} [T : Cell1 P t] {q : Addr} {u v : Value} (h : w.cell? q = some v) (hf : w.frozen? q = false) (h1 : u.oneCell' = true) :
    (Instr.storeAt t (.pointer (some q)) u).run P w = .ok () (w.setCell q u) := by
  obtain ⟨i, hi, hs⟩ := Option.map_eq_some_iff.1 T.inf
  cases u <;> first | (cases h1; done) | simp [Instr.storeAt, Instr.sureAddr, storeVar, sizeOf, typeInfo, hi, hs, Value.cells, storeCells, store, Sem.run, Addr.add, h, hf]

theorem wl_value {v : Value} {w' : World} (hg : o.guard = none) (hr : (execOp a.eval o).run P w = .ok (.value v) w') (h : wpList P ops Q rest (a.put o.dst v) w') : wpList P ops Q (o :: rest) a w :=
  wpList_plain hg fun K hK => by unfold Oper.wp; rw [hr]; exact hK _ _ h
theorem wl_skip {w' : World} (hg : o.guard = none) (hr : (execOp a.eval o).run P w = .ok .skip w') (h : wpList P ops Q rest (a.put o.dst undef) w') : wpList P ops Q (o :: rest) a w :=
  wpList_plain hg fun K hK => by unfold Oper.wp; rw [hr]; exact hK _ _ h

theorem wl_mv {x : Operand} {v : Value} (hg : o.guard = none) (ho : o.op = .move x) (hx : a.eval x = v) (h : wpList P ops Q rest (a.put o.dst v) w) : wpList P ops Q (o :: rest) a w :=
  wl_value hg (by simp [execOp, ho, hx]) h
theorem wl_as {x : Operand} {v : Value} (hg : o.guard = none) (ho : o.op = .assign x) (hx : a.eval x = v) (h : wpList P ops Q rest (a.put o.dst v) w) : wpList P ops Q (o :: rest) a w :=
  wl_value hg (by simp [execOp, ho, hx]) h
theorem wl_idx {t e s b : Nat} {z : Value} [SlTy P t e s z b] {x ix : Operand} (hg : o.guard = none) (ho : o.op = .indexAddr t x ix) {p : Option Addr} {n c : Nat} {k : IntKind} {i : Int}
    (hx : a.eval x = .slice p n c) (hi : a.eval ix = .int k i) (hp : p.isSome = true) (h0 : 0 ≤ i) (hn : i < n)
    (h : wpList P ops Q rest (a.put o.dst (.pointer (some (adr p (i.toNat * s))))) w) : wpList P ops Q (o :: rest) a w :=
  wl_value hg (by simp [execOp, ho, hx, hi, run_indexAt hp h0 hn]) h
theorem wl_load1 {t : TypeId} [Cell1 P t] {x : Operand} (hg : o.guard = none) (ho : o.op = .load t x) {q : Addr} {u : Value} (hx : a.eval x = .pointer (some q)) (hc : w.cell? q = some u)
    (h : wpList P ops Q rest (a.put o.dst u) w) : wpList P ops Q (o :: rest) a w :=
  wl_value hg (by simp [execOp, ho, hx, run_load1 hc]) h

/-- 'xs[i]' of one-cell elements, read. -/
theorem wl_idxload {t e b : Nat} {z : Value} [SlTy P t e 1 z b] [Cell1 P e] {x ix : Operand} {d : Tmp} (hg1 : o1.guard = none) (ho1 : o1.op = .indexAddr t x ix) (hg2 : o2.guard = none) (ho2 : o2.op = .load e (.tmp d))
    {p : Option Addr} {n c : Nat} {k : IntKind} {i : Int} (hd : ∀ y, (a.put o1.dst y).eval (.tmp d) = y)
    (hx : a.eval x = .slice p n c) (hi : a.eval ix = .int k i) {vs : List Value} (hc : Cs w p vs) (hvn : vs.length = n) (h0 : 0 ≤ i) (hn : i < n)
    (h : ∀ u, vs[i.toNat]? = some u → wpList P ops Q rest ((a.put o1.dst (.pointer (some (adr p i.toNat)))).put o2.dst u) w) : wpList P ops Q (o1 :: o2 :: rest) a w := by
  have hlt : i.toNat < vs.length := by omega
  have hu : vs[i.toNat]? = some vs[i.toNat] := by simp [hlt]
  refine wl_idx hg1 ho1 hx hi (hc.isS (by intro h; simp [h] at hlt)) h0 hn ?_
  rw [Nat.mul_one]
  exact wl_load1 hg2 ho2 (hd _) (hc.cell _ _ hu) (h _ hu)

/-- What a row that holds something looks like. -/
theorem own_some {w : World} {B e s n c : Nat} {p : Option Addr} {vs : List Value} (h : w.ownsRow B e s (.slice p n c) n vs) (hn : 0 < n) : ∃ g, p = some ⟨g, 0, none⟩ := by
  rcases h.2 with ⟨_, h0⟩ | ⟨g, cap, cur, hv, _⟩
  · omega
  · cases hv; exact ⟨g, rfl⟩
theorem own_Cs {w : World} {B e s n c : Nat} {p : Option Addr} {vs : List Value} (h : w.ownsRow B e s (.slice p n c) n vs) : Cs w p vs := by
  rcases Nat.eq_zero_or_pos n with h0 | h0
  · subst h0
    have : vs = [] := List.eq_nil_of_length_eq_zero (by have := h.1; omega)
    subst this; exact Cs.nil w p
  · obtain ⟨g, rfl⟩ := own_some h h0
    exact own_cs h
/-- 'xs[i] = u' into a row of the call's own. -/
theorem wl_idxstore {t e b : Nat} {z : Value} [SlTy P t e 1 z b] [Cell1 P e] {x ix y : Operand} {d : Tmp} (hg1 : o1.guard = none) (ho1 : o1.op = .indexAddr t x ix) (hg2 : o2.guard = none) (ho2 : o2.op = .store e (.tmp d) y)
    {p : Option Addr} {n c B : Nat} {k : IntKind} {i : Int} {u : Value} (hd : ∀ y, (a.put o1.dst y).eval (.tmp d) = y)
    (hx : a.eval x = .slice p n c) (hi : a.eval ix = .int k i) (hy : ∀ q, (a.put o1.dst q).eval y = u) (hu1 : u.oneCell' = true) {vs : List Value} (hc : w.ownsRow B e 1 (.slice p n c) n vs) (h0 : 0 ≤ i) (hn : i < n)
    (h : ∀ w', w'.ownsRow B e 1 (.slice p n c) n (vs.set i.toNat u) → w.grownBy w' (Value.slice p n c).ownBlock → wpList P ops Q rest ((a.put o1.dst (.pointer (some (adr p i.toNat)))).put o2.dst undef) w') : wpList P ops Q (o1 :: o2 :: rest) a w := by
  obtain ⟨g, rfl⟩ := own_some hc (by omega)
  have hlen : vs.length = n := by have := hc.1; omega
  have hlt : i.toNat < n := by omega
  refine wl_idx hg1 ho1 hx hi rfl h0 hn ?_
  rw [Nat.mul_one]
  have hcell : w.cell? (adr (some ⟨g, 0, none⟩) i.toNat) = some (vs[i.toNat]'(by omega)) := by
    rw [adr_row, hc.cellAt _ (by omega)]; simp [hlen, hlt]
  have hfr : w.frozen? (adr (some ⟨g, 0, none⟩) i.toNat) = false := by rw [adr_row]; exact hc.frozenAt _
  have hst := hc.stored i.toNat u
  rw [← adr_row] at hst
  refine wl_skip hg2 (w' := w.setCell (adr (some ⟨g, 0, none⟩) i.toNat) u) ?_ (h _ hst.1 hst.2)
  simp [execOp, ho2, hd, hy, run_store1 hcell hfr hu1]
/-- 'xs[i]' of integers. -/
theorem wl_ldI {q : IntKind} {t e b : Nat} {z : Value} [SlTy P t e 1 z b] [Cell1 P e] {x ix : Operand} {d : Tmp} (hg1 : o1.guard = none) (ho1 : o1.op = .indexAddr t x ix) (hg2 : o2.guard = none) (ho2 : o2.op = .load e (.tmp d))
    {p : Option Addr} {n c : Nat} {k : IntKind} {i : Int} (hd : ∀ y, (a.put o1.dst y).eval (.tmp d) = y)
    (hx : a.eval x = .slice p n c) (hi : a.eval ix = .int k i) {xs : List Int} (hc : Cs w p (xs.map (Value.int q))) (hvn : xs.length = n) (h0 : 0 ≤ i) (hn : i < n)
    (h : wpList P ops Q rest ((a.put o1.dst (.pointer (some (adr p i.toNat)))).put o2.dst (.int q (xs.getD i.toNat 0))) w) : wpList P ops Q (o1 :: o2 :: rest) a w := by
  refine wl_idxload hg1 ho1 hg2 ho2 hd hx hi hc (by simp [hvn]) h0 hn fun u hu => ?_
  rw [List.getElem?_map, Option.map_eq_some_iff] at hu
  obtain ⟨y, hy, rfl⟩ := hu
  have : xs.getD i.toNat 0 = y := by simp [hy]
  rw [this] at h; exact h
/-- 'xs[i] = y' of integers. -/
theorem wl_stI {q : IntKind} {t e b : Nat} {z : Value} [SlTy P t e 1 z b] [Cell1 P e] {x ix y : Operand} {d : Tmp} (hg1 : o1.guard = none) (ho1 : o1.op = .indexAddr t x ix) (hg2 : o2.guard = none) (ho2 : o2.op = .store e (.tmp d) y)
    {p : Option Addr} {n c B : Nat} {k : IntKind} {i : Int} {u : Int} (hd : ∀ y, (a.put o1.dst y).eval (.tmp d) = y)
    (hx : a.eval x = .slice p n c) (hi : a.eval ix = .int k i) (hy : ∀ q', (a.put o1.dst q').eval y = .int q u) {xs : List Int} (hc : w.ownsRow B e 1 (.slice p n c) n (xs.map (Value.int q))) (h0 : 0 ≤ i) (hn : i < n)
    (h : ∀ w', w'.ownsRow B e 1 (.slice p n c) n ((xs.set i.toNat u).map (Value.int q)) → w.grownBy w' (Value.slice p n c).ownBlock →
      wpList P ops Q rest ((a.put o1.dst (.pointer (some (adr p i.toNat)))).put o2.dst undef) w') : wpList P ops Q (o1 :: o2 :: rest) a w :=
  wl_idxstore hg1 ho1 hg2 ho2 hd hx hi hy rfl hc h0 hn fun w' h1 h2 => h w' (by rw [List.map_set]; exact h1) h2

/-- 'make([]T, n)'. -/
theorem wl_make {t e s b : Nat} {z : Value} [T : SlTy P t e s z b] {l c : Operand} (B n : Nat) (hg : o.guard = none) (ho : o.op = .makeSlice t l c) {k1 k2 : IntKind}
    (hl : a.eval l = .int k1 (n : Int)) (hc : a.eval c = .int k2 (n : Int)) (hn : n ≤ maxLen) (hb : b * n ≤ 281474976710656) (hB : B ≤ w.heap.size)
    (h : ∀ g w', w'.ownsRow B e s (.slice (some ⟨g, 0, none⟩) n n) n (madeCells z.cells (n * s)).toList → Ext w w' → wpList P ops Q rest (a.put o.dst (.slice (some ⟨g, 0, none⟩) n n)) w') : wpList P ops Q (o :: rest) a w := by
  obtain ⟨ti, hi, hzz⟩ := Option.map_eq_some_iff.1 T.inf
  simp only [Prod.mk.injEq] at hzz
  obtain ⟨w', hrun, h1, h2⟩ := run_make_full (P := P) w B t e ti z s T.und hi hzz.1 hzz.2.1 k1 k2 n (by rw [hzz.2.2]; exact hb) hn hB
  refine wl_value hg (v := .slice (some ⟨w.heap.size, 0, none⟩) n n) (w' := w') (by simp [execOp, ho, hl, hc, hrun]) (h _ w' h1 ⟨h2.os, h2.tape, h2.output, h2.size, fun k hk => h2.block k hk (fun h => by cases h)⟩)

/-- 'append(xs, u)' onto a row of the call's own. -/
theorem wl_app1 {t e s b : Nat} {z : Value} [T : SlTy P t e s z b] {x1 s2 : Operand} {d1 : Tmp} {u : Value} {v : Value} {B n : Nat} {vs : List Value}
    (hg1 : o1.guard = none) (ho1 : o1.op = .buildSlice t 1 #[(0, x1)]) (hg2 : o2.guard = none) (ho2 : o2.op = .call { callee := .builtin .append, args := #[s2, .tmp d1], argTypes := #[t, t] })
    (hx : a.eval x1 = u) (hu : u.cells.size = s) (hu1 : u.cells.toList.all (fun y => y.oneCell') = true) (hd : ∀ y, (a.put o1.dst y).eval (.tmp d1) = y) (hs : ∀ y, (a.put o1.dst y).eval s2 = v)
    (how : w.ownsRow B e s v n vs) (hn : n + 1 ≤ maxLen) (hb : (n + 1) * b ≤ 140737488355328) (hB : B ≤ w.heap.size)
    (h : ∀ g c w', w'.ownsRow B e s (.slice (some ⟨g, 0, none⟩) (n + 1) c) (n + 1) (vs ++ u.cells.toList) → w.grownBy w' v.ownBlock →
      wpList P ops Q rest ((a.put o1.dst (.slice (some ⟨w.heap.size, 0, none⟩) 1 1)).put o2.dst (.slice (some ⟨g, 0, none⟩) (n + 1) c)) w') : wpList P ops Q (o1 :: o2 :: rest) a w := by
  obtain ⟨ti, hi, hzz⟩ := Option.map_eq_some_iff.1 T.inf
  simp only [Prod.mk.injEq] at hzz
  have hund := T.und
  have hpos := T.pos
  have hs24 := T.few
  have hrun : (execOp a.eval o1).run P w = .ok (.value (.slice (some ⟨w.heap.size, 0, none⟩) 1 1)) (w.alloc (.cells u.cells e)) := by
    have hfill : Instr.fill (fun i => some (i * s, s)) ((Array.range (1 * s)).map (z.cells[· % z.cells.size]!)) [(0, u)] = some u.cells := by
      simp only [Instr.fill, hu, Array.size_map, Array.size_range, Nat.zero_mul, Nat.zero_add, Nat.one_mul, Nat.lt_irrefl, ne_eq, not_true_eq_false, decide_false, Bool.or_self, gt_iff_lt, Bool.false_eq_true, if_false]
      congr 1
      exact fill_all _ _ (by simp [hu])
    simp [execOp, ho1, hx, Instr.buildSlice, run_underlying hund, sizeOf, typeInfo, hi, hzz.2.1, zeroValue, hzz.1, show ¬ 16777216 < s by omega, show ¬ s = 0 by omega, newRow]
    rw [show (Array.map (fun x => z.cells[x % z.cells.size]!) (Array.range s)) = (Array.range (1 * s)).map (z.cells[· % z.cells.size]!) by rw [Nat.one_mul], hfill]
    simp
  refine wl_value hg1 hrun ?_
  have how' := how.alloc (Obj.cells u.cells e)
  refine wpList_append_own _ hg2 s2 (.tmp d1) t ho2 B e ti z s b hund hi hzz.1 hzz.2.1 hzz.2.2 T.zs hpos v n vs (hs _) how' ⟨w.heap.size, 0, none⟩ 1 1 u.cells.toList (hd _) (by simp [hu]) ?_ (List.all_eq_true.1 hu1) hn hb (by simp; omega) ?_
  · intro j y hj
    rw [Addr.add_lit, Nat.zero_add]
    have hnew : (w.alloc (.cells u.cells e)).heap[w.heap.size]? = some (.cells u.cells e) := heap_alloc_new w _
    unfold World.cell?
    rw [hnew]
    simpa using hj
  · intro v' w' h1 h2 h3
    rcases h1.2 with ⟨_, h4⟩ | ⟨g, cap, cur, rfl, _⟩
    · omega
    · exact h g cap w' h1 (grown_alloc h2)
where
  grown_alloc {w w' : World} {row : Option Nat} {x : Obj} (h : (w.alloc x).grownBy w' row) : w.grownBy w' row :=
    ⟨h.os, h.tape, h.output, Nat.le_trans (by simp) h.size, fun k hk hr => (h.block k (by simp; omega) hr).trans (Below.heap_alloc w x k hk)⟩
  fill_list : ∀ (l : List Value) (k : Nat) (zs : Array Value), zs.size = k + l.length → ∀ j (hj : j < zs.size),
      ∃ h : j < ((l.zipIdx k).foldl (fun (acc : Array Value) (x : Value × Nat) => acc.setIfInBounds x.2 x.1) zs).size,
        ((l.zipIdx k).foldl (fun (acc : Array Value) (x : Value × Nat) => acc.setIfInBounds x.2 x.1) zs)[j] = if h2 : k ≤ j ∧ j - k < l.length then l[j - k] else zs[j]
    | [], k, zs, hz, j, hj => ⟨hj, by simp⟩
    | y :: l, k, zs, hz, j, hj => by
      simp only [List.length_cons] at hz
      obtain ⟨h1, h2⟩ := fill_list l (k + 1) (zs.setIfInBounds k y) (by simp; omega) j (by simpa using hj)
      refine ⟨by simpa [List.zipIdx_cons] using h1, ?_⟩
      simp only [List.zipIdx_cons, List.foldl_cons]
      rw [h2]
      by_cases hk : j = k
      · subst hk
        rw [dif_neg (by omega), dif_pos (by simp)]
        simp
      · by_cases hlt : k ≤ j ∧ j - k < l.length + 1
        · rw [dif_pos (by omega), dif_pos (by simpa using hlt)]
          have : j - k = (j - (k + 1)) + 1 := by omega
          simp only [this, List.getElem_cons_succ]
        · rw [dif_neg (by omega), dif_neg (by simpa using hlt)]
          exact Array.getElem_setIfInBounds_ne (by omega) (by omega)
  fill_all (cs zs : Array Value) (h : zs.size = cs.size) : Array.foldl (fun (acc : Array Value) (x : Value × Nat) => acc.setIfInBounds x.2 x.1) zs cs.zipIdx = cs := by
    have e : Array.foldl (fun (acc : Array Value) (x : Value × Nat) => acc.setIfInBounds x.2 x.1) zs cs.zipIdx = (cs.toList.zipIdx 0).foldl (fun (acc : Array Value) (x : Value × Nat) => acc.setIfInBounds x.2 x.1) zs := by
      rw [← Array.foldl_toList]; simp
    rw [e]
    have hsz : ∀ (l : List (Value × Nat)) (zs : Array Value), (l.foldl (fun (acc : Array Value) (x : Value × Nat) => acc.setIfInBounds x.2 x.1) zs).size = zs.size := by
      intro l
      induction l with
      | nil => intro zs; rfl
      | cons x l ih => intro zs; simp only [List.foldl_cons]; rw [ih]; simp
    apply Array.ext
    · rw [hsz, h]
    · intro j h1 h2
      obtain ⟨_, h4⟩ := fill_list cs.toList 0 zs (by simp [h]) j (by omega)
      rw [h4, dif_pos (by simp; exact h2)]
      simp
end
end Go.Proofs.Ytlimabbeaimdgaa
/- Steps: floats in a walk; operations of a region whose order is drawn. -/
namespace Go.Proofs.Ytlimabbeaimdgaa
set_option linter.unusedSimpArgs false
set_option linter.unusedVariables false
open Go.RowKit

theorem ev_tmp (l : List Value) (d : List Deferred) (i : Nat) : Act.eval ⟨l.toArray, d⟩ (.tmp i) = l.getD i undef := by simp [Act.eval]
/-! ### Floats, one after another -/
section
variable {P : Program} {w : World} {ops : Array Oper} {rest : List Oper} {o o1 o2 : Oper} {a : Act} {Q : Exit → Act → World → Prop}

def isArith (op : BinOp) : Bool := match op with | .add | .sub | .mul | .quo => true | _ => false
theorem isArith_or {op : BinOp} (h : isArith op = true) : op = .add ∨ op = .sub ∨ op = .mul ∨ op = .quo := by cases op <;> first | (cases h; done) | simp
theorem eqGuard_arith {op : BinOp} (h : isArith op = true) (t : TypeId) (x y : Operand) (u v : Value) : eqGuard op t x y u v = pure () := by cases op <;> first | (cases h; done) | rfl
theorem eqGuard_float (op : BinOp) (t : TypeId) (x y : Operand) (k : FloatKind) (b c : Nat) : eqGuard op t x y (.float k b) (.float k c) = pure () := by cases op <;> rfl

theorem run_fop {op : BinOp} {t t' : TypeId} {x y : Operand} {k : FloatKind} {b c : Nat} (hop : isArith op = true) (ho : o.op = .binOp op t x y t') (hx : a.eval x = .float k b) (hy : a.eval y = .float k c) (w : World) :
    ∃ r n, (execOp a.eval o).run P w = .ok (.value (.float k r)) (w.drewN n) ∧ cn k r = fop op k (cn k b) (cn k c) := by
  obtain ⟨r, n, h1, h2⟩ := run_farith (P := P) w op (isArith_or hop) t k b c
  exact ⟨r, n, by simp [execOp, ho, hx, hy, eqGuard_arith hop, h1], h2⟩
theorem run_conv {src dst : TypeId} {x : Operand} {s k : FloatKind} {b : Nat} (ho : o.op = .convert src dst x) (hx : a.eval x = .float s b) (hs : (P.underlying src).isSome = true) (hd : P.underlying dst = some (.float k)) (hov : fover s (cn s b) k = false) (w : World) :
    ∃ r n, (execOp a.eval o).run P w = .ok (.value (.float k r)) (w.drewN n) ∧ cn k r = fconv s (cn s b) k := by
  obtain ⟨r, n, h1, h2⟩ := run_fconv (P := P) w src dst s k b hs hd hov
  exact ⟨r, n, by simp [execOp, ho, hx, h1], h2⟩

theorem wl_fop {op : BinOp} {t t' : TypeId} {x y : Operand} {k : FloatKind} {b c : Nat} (hg : o.guard = none) (ho : o.op = .binOp op t x y t') (hop : isArith op = true) (hx : a.eval x = .float k b) (hy : a.eval y = .float k c)
    (h : ∀ r w', Ext w w' → cn k r = fop op k (cn k b) (cn k c) → wpList P ops Q rest (a.put o.dst (.float k r)) w') : wpList P ops Q (o :: rest) a w := by
  obtain ⟨r, n, h1, h2⟩ := run_fop (P := P) hop ho hx hy w
  exact wl_value hg h1 (h r _ (Ext.drewN w n) h2)
theorem wl_conv {src dst : TypeId} {x : Operand} {s k : FloatKind} {b : Nat} (hg : o.guard = none) (ho : o.op = .convert src dst x) (hx : a.eval x = .float s b) (hs : (P.underlying src).isSome = true) (hd : P.underlying dst = some (.float k)) (hov : fover s (cn s b) k = false)
    (h : ∀ r w', Ext w w' → cn k r = fconv s (cn s b) k → wpList P ops Q rest (a.put o.dst (.float k r)) w') : wpList P ops Q (o :: rest) a w := by
  obtain ⟨r, n, h1, h2⟩ := run_conv (P := P) ho hx hs hd hov w
  exact wl_value hg h1 (h r _ (Ext.drewN w n) h2)
theorem wl_ldF {t e b : Nat} {z : Value} [SlTy P t e 1 z b] [Cell1 P e] {x ix : Operand} {d : Tmp} (hg1 : o1.guard = none) (ho1 : o1.op = .indexAddr t x ix) (hg2 : o2.guard = none) (ho2 : o2.op = .load e (.tmp d))
    {p : Option Addr} {n c : Nat} {k : IntKind} {i : Int} (hd : ∀ y, (a.put o1.dst y).eval (.tmp d) = y)
    (hx : a.eval x = .slice p n c) (hi : a.eval ix = .int k i) {vs : List Value} {xs : List Nat} (hc : Cs w p vs) (hf : F32s vs xs) (hvn : xs.length = n) (h0 : 0 ≤ i) (hn : i < n)
    (h : ∀ r, cn .f32 r = xs.getD i.toNat 0 → wpList P ops Q rest ((a.put o1.dst (.pointer (some (adr p i.toNat)))).put o2.dst (.float .f32 r)) w) : wpList P ops Q (o1 :: o2 :: rest) a w := by
  refine wl_idxload hg1 ho1 hg2 ho2 hd hx hi hc (by rw [hf.1, hvn]) h0 hn fun u hu => ?_
  obtain ⟨r, h1, h2⟩ := hf.2 i.toNat (by omega)
  rw [hu] at h1; cases h1
  exact h r h2
end

/-! ### A region whose order is drawn -/
section
variable {P : Program} {w wf : World} {ops : Array Oper} {rest : List Oper} {o o1 o2 : Oper} {a : Act} {Q : Act → Prop} {F : Option Tmp → World → World → Value → Prop} {G : Option Tmp → World → Value → Prop}

theorem x_nil (h : Q a) : wpX P ops F w wf Q [] a := h
theorem x_skip (hw : Region.wanted o (yielded ops a.tmps) = false) (h : wpX P ops F w wf Q rest (a.put o.dst undef)) : wpX P ops F w wf Q (o :: rest) a := by
  refine ⟨fun hw' => (by rw [hw] at hw'; cases hw'), fun u hu => ?_⟩
  rcases hu with ⟨hw', _⟩ | ⟨_, rfl⟩
  · rw [hw] at hw'; cases hw'
  · exact h
/-- An operation that yields a value of some kind. -/
theorem x_val {V : Value → Prop} (hw : Region.wanted o (yielded ops a.tmps) = true) (hr : ∀ w1, Ext w w1 → ∃ u w2, (execOp a.eval o).run P w1 = .ok (.value u) w2 ∧ Ext w1 w2 ∧ V u)
    (h : ∀ u, V u → wpX P ops F w wf Q rest (a.put o.dst u)) : wpX P ops F w wf Q (o :: rest) a := by
  refine ⟨fun _ w1 h1 _ => ?_, fun u hu => ?_⟩
  · obtain ⟨u, w2, h2, h3, _⟩ := hr w1 h1
    rw [h2]; exact h3
  · rcases hu with ⟨_, w1, h1, _, h2⟩ | ⟨hw', _⟩
    · obtain ⟨u', w2, h3, h4, h5⟩ := hr w1 h1
      rw [h3] at h2
      obtain ⟨rfl, _⟩ := h2
      exact h _ h5
    · rw [hw] at hw'; cases hw'
/-- An operation that makes something: what is known of it in every later world. -/
theorem x_made {V : World → Value → Prop} (hw : Region.wanted o (yielded ops a.tmps) = true) (hr : ∀ w1, Ext w w1 → ∃ u w2, (execOp a.eval o).run P w1 = .ok (.value u) w2 ∧ Ext w1 w2 ∧ ∀ wf, Ext w2 wf → V wf u)
    (h : ∀ u, V wf u → wpX P ops F w wf Q rest (a.put o.dst u)) : wpX P ops F w wf Q (o :: rest) a := by
  refine ⟨fun _ w1 h1 _ => ?_, fun u hu => ?_⟩
  · obtain ⟨u, w2, h2, h3, _⟩ := hr w1 h1
    rw [h2]; exact h3
  · rcases hu with ⟨_, w1, h1, _, h2⟩ | ⟨hw', _⟩
    · obtain ⟨u', w2, h3, h4, h5⟩ := hr w1 h1
      rw [h3] at h2
      obtain ⟨rfl, h6⟩ := h2
      exact h _ (h5 wf h6)
    · rw [hw] at hw'; cases hw'
theorem x_pure {v : Value} (hw : Region.wanted o (yielded ops a.tmps) = true) (hr : ∀ w1, Ext w w1 → (execOp a.eval o).run P w1 = .ok (.value v) w1)
    (h : wpX P ops F w wf Q rest (a.put o.dst v)) : wpX P ops F w wf Q (o :: rest) a :=
  x_val (V := fun u => u = v) hw (fun w1 h1 => ⟨v, w1, hr w1 h1, Ext.refl _, rfl⟩) (fun u hu => by subst hu; exact h)
theorem x_mv {x : Operand} {v : Value} (hw : Region.wanted o (yielded ops a.tmps) = true) (ho : o.op = .move x) (hx : a.eval x = v) (h : wpX P ops F w wf Q rest (a.put o.dst v)) : wpX P ops F w wf Q (o :: rest) a :=
  x_pure hw (fun w1 _ => by simp [execOp, ho, hx]) h
theorem x_as {x : Operand} {v : Value} (hw : Region.wanted o (yielded ops a.tmps) = true) (ho : o.op = .assign x) (hx : a.eval x = v) (h : wpX P ops F w wf Q rest (a.put o.dst v)) : wpX P ops F w wf Q (o :: rest) a :=
  x_pure hw (fun w1 _ => by simp [execOp, ho, hx]) h
/-- Any operation that the walk's own set can run. -/
def xRun (K : Act → Prop) (a : Act) (d : Option Tmp) (w1 : World) : Result Next → Prop
  | .ok (.value u) w2 => w2 = w1 ∧ K (a.put d u)
  | _ => False
@[go_sem] theorem xRun_value (K : Act → Prop) (a : Act) (d : Option Tmp) (w1 : World) (u : Value) : xRun K a d w1 (.ok (.value u) w1) = K (a.put d u) := by simp [xRun]
theorem x_run (hw : Region.wanted o (yielded ops a.tmps) = true) (h : ∀ K : Act → Prop, (∀ a, wpX P ops F w wf Q rest a → K a) → ∀ w1, Ext w w1 → xRun K a o.dst w1 ((execOp a.eval o).run P w1)) : wpX P ops F w wf Q (o :: rest) a := by
  have h' := h (wpX P ops F w wf Q rest) (fun _ h => h)
  refine ⟨fun _ w1 h1 _ => ?_, fun u hu => ?_⟩
  · have h2 := h' w1 h1
    generalize (execOp a.eval o).run P w1 = r at h2
    cases r with
    | ok n w2 => cases n <;> simp only [xRun] at h2; obtain ⟨rfl, _⟩ := h2; exact Ext.refl _
    | halt x w2 => simp only [xRun] at h2
  · rcases hu with ⟨_, w1, h1, _, h2⟩ | ⟨hw', _⟩
    · have h3 := h' w1 h1
      generalize (execOp a.eval o).run P w1 = r at h2 h3
      cases r with
      | ok n w2 => cases n <;> simp only [xRun] at h3; obtain ⟨rfl, h4⟩ := h3; obtain ⟨rfl, _⟩ := h2; exact h4
      | halt x w2 => simp only [xRun] at h3
    · rw [hw] at hw'; cases hw'

theorem x_idx {t e s b : Nat} {z : Value} [SlTy P t e s z b] {x ix : Operand} (hw : Region.wanted o (yielded ops a.tmps) = true) (ho : o.op = .indexAddr t x ix) {p : Option Addr} {n c : Nat} {k : IntKind} {i : Int}
    (hx : a.eval x = .slice p n c) (hi : a.eval ix = .int k i) (hp : p.isSome = true) (h0 : 0 ≤ i) (hn : i < n)
    (h : wpX P ops F w wf Q rest (a.put o.dst (.pointer (some (adr p (i.toNat * s)))))) : wpX P ops F w wf Q (o :: rest) a :=
  x_pure hw (fun w1 _ => by simp [execOp, ho, hx, hi, run_indexAt hp h0 hn]) h
theorem x_load1 {t : TypeId} [Cell1 P t] {x : Operand} (hw : Region.wanted o (yielded ops a.tmps) = true) (ho : o.op = .load t x) {q : Addr} {u : Value} (hx : a.eval x = .pointer (some q)) (hc : w.cell? q = some u)
    (h : wpX P ops F w wf Q rest (a.put o.dst u)) : wpX P ops F w wf Q (o :: rest) a :=
  x_pure hw (fun w1 h1 => by simp [execOp, ho, hx, run_load1 (h1.cell hc)]) h
/-- 'xs[i]' of one-cell elements, read. -/
theorem x_idxload {t e b : Nat} {z : Value} [SlTy P t e 1 z b] [Cell1 P e] {x ix : Operand} {d : Tmp} (hw1 : Region.wanted o1 (yielded ops a.tmps) = true) (ho1 : o1.op = .indexAddr t x ix) (hw2 : ∀ y, Region.wanted o2 (yielded ops (a.put o1.dst y).tmps) = true) (ho2 : o2.op = .load e (.tmp d))
    {p : Option Addr} {n c : Nat} {k : IntKind} {i : Int} (hd : ∀ y, (a.put o1.dst y).eval (.tmp d) = y)
    (hx : a.eval x = .slice p n c) (hi : a.eval ix = .int k i) {vs : List Value} (hc : Cs w p vs) (hvn : vs.length = n) (h0 : 0 ≤ i) (hn : i < n)
    (h : ∀ u, vs[i.toNat]? = some u → wpX P ops F w wf Q rest ((a.put o1.dst (.pointer (some (adr p i.toNat)))).put o2.dst u)) : wpX P ops F w wf Q (o1 :: o2 :: rest) a := by
  have hlt : i.toNat < vs.length := by omega
  have hu : vs[i.toNat]? = some vs[i.toNat] := by simp [hlt]
  refine x_idx hw1 ho1 hx hi (hc.isS (by intro h; simp [h] at hlt)) h0 hn ?_
  rw [Nat.mul_one]
  exact x_load1 (hw2 _) ho2 (hd _) (hc.cell _ _ hu) (h _ hu)
theorem x_ldI {q : IntKind} {t e b : Nat} {z : Value} [SlTy P t e 1 z b] [Cell1 P e] {x ix : Operand} {d : Tmp} (hw1 : Region.wanted o1 (yielded ops a.tmps) = true) (ho1 : o1.op = .indexAddr t x ix) (hw2 : ∀ y, Region.wanted o2 (yielded ops (a.put o1.dst y).tmps) = true) (ho2 : o2.op = .load e (.tmp d))
    {p : Option Addr} {n c : Nat} {k : IntKind} {i : Int} (hd : ∀ y, (a.put o1.dst y).eval (.tmp d) = y)
    (hx : a.eval x = .slice p n c) (hi : a.eval ix = .int k i) {xs : List Int} (hc : Cs w p (xs.map (Value.int q))) (hvn : xs.length = n) (h0 : 0 ≤ i) (hn : i < n)
    (h : wpX P ops F w wf Q rest ((a.put o1.dst (.pointer (some (adr p i.toNat)))).put o2.dst (.int q (xs.getD i.toNat 0)))) : wpX P ops F w wf Q (o1 :: o2 :: rest) a := by
  refine x_idxload hw1 ho1 hw2 ho2 hd hx hi hc (by simp [hvn]) h0 hn fun u hu => ?_
  rw [List.getElem?_map, Option.map_eq_some_iff] at hu
  obtain ⟨y, hy, rfl⟩ := hu
  have : xs.getD i.toNat 0 = y := by simp [hy]
  rw [this] at h; exact h
theorem x_ldF {t e b : Nat} {z : Value} [SlTy P t e 1 z b] [Cell1 P e] {x ix : Operand} {d : Tmp} (hw1 : Region.wanted o1 (yielded ops a.tmps) = true) (ho1 : o1.op = .indexAddr t x ix) (hw2 : ∀ y, Region.wanted o2 (yielded ops (a.put o1.dst y).tmps) = true) (ho2 : o2.op = .load e (.tmp d))
    {p : Option Addr} {n c : Nat} {k : IntKind} {i : Int} (hd : ∀ y, (a.put o1.dst y).eval (.tmp d) = y)
    (hx : a.eval x = .slice p n c) (hi : a.eval ix = .int k i) {vs : List Value} {xs : List Nat} (hc : Cs w p vs) (hf : F32s vs xs) (hvn : xs.length = n) (h0 : 0 ≤ i) (hn : i < n)
    (h : ∀ r, cn .f32 r = xs.getD i.toNat 0 → wpX P ops F w wf Q rest ((a.put o1.dst (.pointer (some (adr p i.toNat)))).put o2.dst (.float .f32 r))) : wpX P ops F w wf Q (o1 :: o2 :: rest) a := by
  refine x_idxload hw1 ho1 hw2 ho2 hd hx hi hc (by rw [hf.1, hvn]) h0 hn fun u hu => ?_
  obtain ⟨r, h1, h2⟩ := hf.2 i.toNat (by omega)
  rw [hu] at h1; cases h1
  exact h r h2
theorem x_fop {op : BinOp} {t t' : TypeId} {x y : Operand} {k : FloatKind} {b c : Nat} (hw : Region.wanted o (yielded ops a.tmps) = true) (ho : o.op = .binOp op t x y t') (hop : isArith op = true) (hx : a.eval x = .float k b) (hy : a.eval y = .float k c)
    (h : ∀ r, cn k r = fop op k (cn k b) (cn k c) → wpX P ops F w wf Q rest (a.put o.dst (.float k r))) : wpX P ops F w wf Q (o :: rest) a :=
  x_val (V := fun u => ∃ r, u = .float k r ∧ cn k r = fop op k (cn k b) (cn k c)) hw
    (fun w1 _ => by obtain ⟨r, n, h1, h2⟩ := run_fop (P := P) hop ho hx hy w1; exact ⟨_, _, h1, Ext.drewN w1 n, r, rfl, h2⟩) (fun u hu => by obtain ⟨r, rfl, h2⟩ := hu; exact h r h2)
theorem x_conv {src dst : TypeId} {x : Operand} {s k : FloatKind} {b : Nat} (hw : Region.wanted o (yielded ops a.tmps) = true) (ho : o.op = .convert src dst x) (hx : a.eval x = .float s b) (hs : (P.underlying src).isSome = true) (hd : P.underlying dst = some (.float k)) (hov : fover s (cn s b) k = false)
    (h : ∀ r, cn k r = fconv s (cn s b) k → wpX P ops F w wf Q rest (a.put o.dst (.float k r))) : wpX P ops F w wf Q (o :: rest) a :=
  x_val (V := fun u => ∃ r, u = .float k r ∧ cn k r = fconv s (cn s b) k) hw
    (fun w1 _ => by obtain ⟨r, n, h1, h2⟩ := run_conv (P := P) ho hx hs hd hov w1; exact ⟨_, _, h1, Ext.drewN w1 n, r, rfl, h2⟩) (fun u hu => by obtain ⟨r, rfl, h2⟩ := hu; exact h r h2)
/-- A call, by its contract: F tells what it leaves. -/
theorem y_callK {f : FuncId} {fn : Func} {xs : Array Operand} {ts : Array TypeId} {args : Array Value} (hw : Region.wanted o (yielded ops a.tmps) = true) (ho : o.op = .call { callee := .value (.func f), args := xs, argTypes := ts })
    (hf : P.funcs[f]? = some fn) (hb : fn.body.isNone = false) (hn : (fn.name == "runtime.NumGoroutine") = false) (hargs : xs.map a.eval = args)
    (hc : ∀ w1, Ext w w1 → KnownC P ops F w o a w1 → Calls P f args w1 (fun e w3 => ∃ u, e = .returned u ∧ Ext w1 w3 ∧ F o.dst w1 w3 u))
    (h : ∀ u w1 w3, Ext w w1 → KnownC P ops F w o a w1 → Ext w1 w3 → Ext w3 wf → F o.dst w1 w3 u → wpX P ops F w wf Q rest (a.put o.dst u)) : wpX P ops F w wf Q (o :: rest) a := by
  have hr := fun w1 => run_callf (P := P) (a := a) ho hf hb hn hargs w1
  refine ⟨fun _ w1 h1 hk => ?_, fun u hu => ?_⟩
  · rw [hr w1]; exact ⟨Ext.refl _, hc w1 h1 (known_C hk)⟩
  · rcases hu with ⟨_, w1, h1, hk, h2⟩ | ⟨hw', _⟩
    · rw [hr w1] at h2
      obtain ⟨w3, h3, h4, h5⟩ := h2
      exact h u w1 w3 h1 hk h3 h4 h5
    · rw [hw] at hw'; cases hw'
theorem x_callf {f : FuncId} {fn : Func} {xs : Array Operand} {ts : Array TypeId} {args : Array Value} (hw : Region.wanted o (yielded ops a.tmps) = true) (ho : o.op = .call { callee := .value (.func f), args := xs, argTypes := ts })
    (hf : P.funcs[f]? = some fn) (hb : fn.body.isNone = false) (hn : (fn.name == "runtime.NumGoroutine") = false) (hargs : xs.map a.eval = args)
    (hc : ∀ w1, Ext w w1 → Calls P f args w1 (fun e w3 => ∃ u, e = .returned u ∧ Ext w1 w3 ∧ G o.dst w3 u))
    (h : ∀ u w3, Ext w w3 → Ext w3 wf → G o.dst w3 u → wpX P ops (fun d _ W u => G d W u) w wf Q rest (a.put o.dst u)) : wpX P ops (fun d _ W u => G d W u) w wf Q (o :: rest) a :=
  y_callK hw ho hf hb hn hargs (fun w1 h1 _ => hc w1 h1) (fun u _ w3 h1 _ h3 h4 h5 => h u w3 (h1.trans h3) h4 h5)
/-- What a call knows of an earlier call that it waits for. -/
theorem knownC_call {o x : Oper} {w1 : World} (hk : KnownC P ops F w o a w1) {j : Nat} {d : Tmp} {f : FuncId} {fn : Func} {xs : Array Operand} {ts : Array TypeId} (hj : (o.after.any fun e => Region.binds .any e && e.on == j) = true) (hx : ops[j]? = some x) (hd : x.dst = some d) (hg : x.guard = none)
    (ho : x.op = .call { callee := .value (.func f), args := xs, argTypes := ts }) (hf : P.funcs[f]? = some fn) (hb : fn.body.isNone = false) (hn : (fn.name == "runtime.NumGoroutine") = false) (hr : d < a.tmps.size) :
    ∃ w0 w3, Ext w w0 ∧ Ext w0 w3 ∧ Ext w3 w1 ∧ F (some d) w0 w3 (a.eval (.tmp d)) := by
  rw [Array.any_eq_true'] at hj
  obtain ⟨e, he, hje⟩ := hj
  simp only [Bool.and_eq_true, beq_iff_eq] at hje
  obtain ⟨h1, h2⟩ := hje
  subst h2
  exact hk e he h1 x d hx hd hr ⟨hg, f, xs, ts, fn, ho, hf, hb, hn⟩
theorem known_call {o x : Oper} {w1 : World} (hk : KnownC P ops (fun d _ W u => G d W u) w o a w1) {j : Nat} {d : Tmp} {f : FuncId} {fn : Func} {xs : Array Operand} {ts : Array TypeId} (hj : (o.after.any fun e => Region.binds .any e && e.on == j) = true) (hx : ops[j]? = some x) (hd : x.dst = some d) (hg : x.guard = none)
    (ho : x.op = .call { callee := .value (.func f), args := xs, argTypes := ts }) (hf : P.funcs[f]? = some fn) (hb : fn.body.isNone = false) (hn : (fn.name == "runtime.NumGoroutine") = false) (hr : d < a.tmps.size) :
    ∃ w3, Ext w w3 ∧ Ext w3 w1 ∧ G (some d) w3 (a.eval (.tmp d)) := by
  obtain ⟨w0, w3, h1, h2, h3, h4⟩ := knownC_call hk hj hx hd hg ho hf hb hn hr
  exact ⟨w3, h1.trans h2, h3, h4⟩
theorem x_callK {f : FuncId} {fn : Func} {xs : Array Operand} {ts : Array TypeId} {args : Array Value} (hw : Region.wanted o (yielded ops a.tmps) = true) (ho : o.op = .call { callee := .value (.func f), args := xs, argTypes := ts })
    (hf : P.funcs[f]? = some fn) (hb : fn.body.isNone = false) (hn : (fn.name == "runtime.NumGoroutine") = false) (hargs : xs.map a.eval = args)
    (hc : ∀ w1, Ext w w1 → KnownC P ops (fun d _ W u => G d W u) w o a w1 → Calls P f args w1 (fun e w3 => ∃ u, e = .returned u ∧ Ext w1 w3 ∧ G o.dst w3 u))
    (h : ∀ u w3, Ext w w3 → Ext w3 wf → G o.dst w3 u → wpX P ops (fun d _ W u => G d W u) w wf Q rest (a.put o.dst u)) : wpX P ops (fun d _ W u => G d W u) w wf Q (o :: rest) a :=
  y_callK hw ho hf hb hn hargs hc (fun u _ w3 h1 _ h3 h4 h5 => h u w3 (h1.trans h3) h4 h5)
end
end Go.Proofs.Ytlimabbeaimdgaa
/- Data in memory by their shapes: what is read, what is owned, what a change may touch. -/
namespace Go.Proofs.Ytlimabbeaimdgaa
set_option linter.unusedSimpArgs false
set_option linter.unusedVariables false
open Go.RowKit

/-- Shapes of data: a struct is a chain of pairs. -/
inductive Sh where
  | int | flt | bool | str | un
  | sl (e : Sh)
  | pr (a b : Sh)
abbrev Sh.T : Sh → Type
  | .int => Int
  | .flt => Nat
  | .bool => Bool
  | .str => ByteArray
  | .un => Unit
  | .sl e => List e.T
  | .pr a b => a.T × b.T
def Sh.sz : Sh → Nat
  | .un => 0
  | .pr a b => a.sz + b.sz
  | _ => 1

/-- Element by element. -/
inductive All2 {A B : Type} (R : A → B → Prop) : List A → List B → Prop
  | nil : All2 R [] []
  | cons {a b us bs} : R a b → All2 R us bs → All2 R (a :: us) (b :: bs)
theorem All2.length {A B : Type} {R : A → B → Prop} {us : List A} {bs : List B} (h : All2 R us bs) : us.length = bs.length := by
  induction h with
  | nil => rfl
  | cons _ _ ih => simp [ih]
theorem All2.imp {A B : Type} {R S : A → B → Prop} {us : List A} {bs : List B} (h : All2 R us bs) (hi : ∀ a b, R a b → S a b) : All2 S us bs := by
  induction h with
  | nil => exact .nil
  | cons h _ ih => exact .cons (hi _ _ h) ih
theorem All2.get {A B : Type} {R : A → B → Prop} {us : List A} {bs : List B} (h : All2 R us bs) : ∀ (i : Nat) (b : B), bs[i]? = some b → ∃ a, us[i]? = some a ∧ R a b := by
  induction h with
  | nil => intro i b hb; simp at hb
  | cons h _ ih =>
    intro i b hb
    cases i with
    | zero => simp at hb; subst hb; exact ⟨_, rfl, h⟩
    | succ i => simpa using ih i b (by simpa using hb)
theorem All2.get' {A B : Type} {R : A → B → Prop} {us : List A} {bs : List B} (h : All2 R us bs) (i : Nat) (hi : i < bs.length) : ∃ (h1 : i < us.length), R us[i] bs[i] := by
  obtain ⟨a, h1, h2⟩ := h.get i bs[i] (by simp [hi])
  obtain ⟨h3, h4⟩ := List.getElem?_eq_some_iff.1 h1
  exact ⟨h3, by rw [h4]; exact h2⟩
theorem All2.append {A B : Type} {R : A → B → Prop} {us us' : List A} {bs bs' : List B} (h : All2 R us bs) (h' : All2 R us' bs') : All2 R (us ++ us') (bs ++ bs') := by
  induction h with
  | nil => exact h'
  | cons h _ ih => exact .cons h ih
theorem All2.of_get {A B : Type} {R : A → B → Prop} : ∀ {us : List A} {bs : List B}, us.length = bs.length → (∀ (i : Nat) (a : A) (b : B), us[i]? = some a → bs[i]? = some b → R a b) → All2 R us bs
  | [], [], _, _ => .nil
  | [], _ :: _, h, _ => by simp at h
  | _ :: _, [], h, _ => by simp at h
  | a :: us, b :: bs, h, hr => .cons (hr 0 a b rfl rfl) (All2.of_get (by simpa using h) fun i a' b' h1 h2 => hr (i + 1) a' b' (by simpa using h1) (by simpa using h2))

/-- What cells read us. -/
def Rep (w : World) : (s : Sh) → List Value → s.T → Prop
  | .int, cs, n => cs = [.int .i64 n]
  | .flt, cs, x => ∃ b, cs = [.float .f32 b] ∧ cn .f32 b = x
  | .bool, cs, b => cs = [.bool b]
  | .str, cs, s => cs = [.string s]
  | .un, cs, _ => cs = []
  | .sl e, cs, l => ∃ p c css, cs = [.slice p l.length c] ∧ Cs w p (List.flatten css) ∧ l.length ≤ c ∧ c ≤ maxLen ∧ All2 (Rep w e) css l
  | .pr a b, cs, x => ∃ ca cb, cs = ca ++ cb ∧ Rep w a ca x.1 ∧ Rep w b cb x.2

theorem Rep.ext {w w' : World} (h : Ext w w') : ∀ {s : Sh} {cs : List Value} {d : s.T}, Rep w s cs d → Rep w' s cs d
  | .int, _, _, r => r
  | .flt, _, _, r => r
  | .bool, _, _, r => r
  | .str, _, _, r => r
  | .un, _, _, r => r
  | .sl e, _, _, ⟨p, c, css, h1, h2, h3, h4, h5⟩ => ⟨p, c, css, h1, h2.ext h, h3, h4, h5.imp fun _ _ => Rep.ext h (s := e)⟩
  | .pr _ _, _, _, ⟨ca, cb, h1, h2, h3⟩ => ⟨ca, cb, h1, Rep.ext h h2, Rep.ext h h3⟩

theorem Rep.size {w : World} : ∀ {s : Sh} {cs : List Value} {d : s.T}, Rep w s cs d → cs.length = s.sz
  | .int, _, _, r => by cases r; rfl
  | .flt, _, _, ⟨_, r, _⟩ => by cases r; rfl
  | .bool, _, _, r => by cases r; rfl
  | .str, _, _, r => by cases r; rfl
  | .un, _, _, r => by cases r; rfl
  | .sl e, _, _, ⟨p, c, css, h1, _⟩ => by cases h1; rfl
  | .pr a b, _, _, ⟨ca, cb, h1, h2, h3⟩ => by rw [h1, List.length_append, h2.size, h3.size]; rfl

/-- A row of the call's own, whoever made it: its block, and its cells. -/
def OwnRow (w : World) (p : Option Addr) (n c : Nat) (vs : List Value) : Prop :=
  (p = none ∧ n = 0 ∧ c = 0 ∧ vs = []) ∨ ∃ g cur e, p = some ⟨g, 0, none⟩ ∧ w.heap[g]? = some (.cells cur e (0, 0)) ∧ cur.toList.take vs.length = vs
def blocksOf : Option Addr → List Nat
  | none => []
  | some a => [a.block]

/-- What cells read us, and the blocks behind them, which are the reader's own. -/
def Own (w : World) : (s : Sh) → List Value → s.T → List Nat → Prop
  | .int, cs, n, bs => cs = [.int .i64 n] ∧ bs = []
  | .flt, cs, x, bs => (∃ b, cs = [.float .f32 b] ∧ cn .f32 b = x) ∧ bs = []
  | .bool, cs, b, bs => cs = [.bool b] ∧ bs = []
  | .str, cs, s, bs => cs = [.string s] ∧ bs = []
  | .un, cs, _, bs => cs = [] ∧ bs = []
  | .sl e, cs, l, bs => ∃ p c css bss, cs = [.slice p l.length c] ∧ OwnRow w p l.length c (List.flatten css) ∧ l.length ≤ c ∧ c ≤ maxLen ∧ All2 (fun (x : List Value × List Nat) d => Own w e x.1 d x.2) (css.zip bss) l ∧ css.length = l.length ∧ bss.length = l.length ∧ bs = blocksOf p ++ bss.flatten
  | .pr a b, cs, x, bs => ∃ ca cb ba bb, cs = ca ++ cb ∧ Own w a ca x.1 ba ∧ Own w b cb x.2 bb ∧ bs = ba ++ bb

theorem OwnRow.cs {w : World} {p : Option Addr} {n c : Nat} {vs : List Value} (h : OwnRow w p n c vs) : Cs w p vs := by
  rcases h with ⟨_, _, _, rfl⟩ | ⟨g, cur, e, rfl, hg, ht⟩
  · exact Cs.nil w p
  · refine ⟨fun i u hu => ?_, fun _ => rfl⟩
    have hi : i < vs.length := (List.getElem?_eq_some_iff.1 hu).1
    rw [adr_row]
    unfold World.cell?
    rw [hg]
    simp only [Option.isSome_none, Bool.false_eq_true, if_false]
    rw [← ht, List.getElem?_take, if_pos hi] at hu
    simpa using hu
theorem zip_fst {A B : Type} {R : A → Prop} : ∀ {us : List A} {bs : List B}, us.length = bs.length → ∀ {C : Type} {ds : List C} {S : A × B → C → Prop} {T : A → C → Prop}, (∀ x d, S x d → T x.1 d) → All2 S (us.zip bs) ds → All2 T us ds
  | [], [], _, _, _, _, _, _, h => by cases h; exact .nil
  | [], _ :: _, h, _, _, _, _, _, _ => by simp at h
  | _ :: _, [], h, _, _, _, _, _, _ => by simp at h
  | a :: us, b :: bs, h, _, _, _, _, hi, hz => by
    cases hz with
    | cons h1 h2 => exact .cons (hi _ _ h1) (zip_fst (R := R) (by simpa using h) hi h2)
theorem Own.rep {w : World} : ∀ {s : Sh} {cs : List Value} {d : s.T} {bs : List Nat}, Own w s cs d bs → Rep w s cs d
  | .int, _, _, _, r => r.1
  | .flt, _, _, _, r => r.1
  | .bool, _, _, _, r => r.1
  | .str, _, _, _, r => r.1
  | .un, _, _, _, r => r.1
  | .sl e, _, _, _, ⟨p, c, css, bss, h1, h2, h3, h4, h5, h6, h7, _⟩ => ⟨p, c, css, h1, h2.cs, h3, h4, zip_fst (R := fun _ => True) (by rw [h6, h7]) (fun _ _ h => Own.rep (s := e) h) h5⟩
  | .pr a b, _, _, _, ⟨ca, cb, _, _, h1, h2, h3, _⟩ => ⟨ca, cb, h1, h2.rep, h3.rep⟩

/-- Only blocks in S have turned. -/
structure Chg (S : Nat → Prop) (w w' : World) : Prop where
  os : w'.os = w.os
  tape : w'.tape = w.tape
  output : w'.output = w.output
  size : w.heap.size ≤ w'.heap.size
  block : ∀ k, k < w.heap.size → ¬ S k → w'.heap[k]? = w.heap[k]?
theorem Chg.refl (S : Nat → Prop) (w : World) : Chg S w w := ⟨rfl, rfl, rfl, Nat.le_refl _, fun _ _ _ => rfl⟩
theorem Chg.of_ext {S : Nat → Prop} {w w' : World} (h : Ext w w') : Chg S w w' := ⟨h.os, h.tape, h.output, h.size, fun k hk _ => h.block k hk⟩
theorem Chg.mono {S S' : Nat → Prop} {w w' : World} (h : Chg S w w') (hs : ∀ k, S k → S' k) : Chg S' w w' := ⟨h.os, h.tape, h.output, h.size, fun k hk hn => h.block k hk fun h' => hn (hs k h')⟩
theorem Chg.trans {S : Nat → Prop} {a b c : World} (h : Chg S a b) (k : Chg S b c) : Chg S a c :=
  ⟨k.os.trans h.os, k.tape.trans h.tape, k.output.trans h.output, Nat.le_trans h.size k.size, fun i hi hn => (k.block i (Nat.lt_of_lt_of_le hi h.size) hn).trans (h.block i hi hn)⟩
theorem Chg.of_grown {w w' : World} {row : Option Nat} (h : w.grownBy w' row) : Chg (fun k => some k = row) w w' := ⟨h.os, h.tape, h.output, h.size, fun k hk hn => h.block k hk hn⟩
/-- A change of blocks that were not there. -/
theorem Ext.chg {S : Nat → Prop} {w0 w w' : World} (h : Ext w0 w) (k : Chg S w w') (hs : ∀ b, S b → w0.heap.size ≤ b) : Ext w0 w' :=
  ⟨k.os.trans h.os, k.tape.trans h.tape, k.output.trans h.output, Nat.le_trans h.size k.size, fun i hi => (k.block i (Nat.lt_of_lt_of_le hi h.size) (fun hb => by have := hs i hb; omega)).trans (h.block i hi)⟩

theorem OwnRow.lt {w : World} {p : Option Addr} {n c : Nat} {vs : List Value} (h : OwnRow w p n c vs) : ∀ b ∈ blocksOf p, b < w.heap.size := by
  rcases h with ⟨rfl, _⟩ | ⟨g, cur, e, rfl, hg, _⟩
  · intro b hb; simp [blocksOf] at hb
  · intro b hb
    simp [blocksOf] at hb; subst hb
    rcases Nat.lt_or_ge b w.heap.size with h' | h'
    · exact h'
    · simp [Array.getElem?_eq_none h'] at hg
theorem OwnRow.chg {S : Nat → Prop} {w w' : World} {p : Option Addr} {n c : Nat} {vs : List Value} (h : OwnRow w p n c vs) (k : Chg S w w') (hs : ∀ b ∈ blocksOf p, ¬ S b) : OwnRow w' p n c vs := by
  have hl := h.lt
  rcases h with h | ⟨g, cur, e, rfl, hg, ht⟩
  · exact .inl h
  · exact .inr ⟨g, cur, e, rfl, by rw [k.block g (hl g (by simp [blocksOf])) (hs g (by simp [blocksOf]))]; exact hg, ht⟩
theorem All2.mem_imp {A B : Type} {R S : A → B → Prop} {us : List A} {bs : List B} (h : All2 R us bs) (hi : ∀ a b, a ∈ us → R a b → S a b) : All2 S us bs := by
  induction h with
  | nil => exact .nil
  | cons h _ ih => exact .cons (hi _ _ (by simp) h) (ih fun a b ha => hi a b (by simp [ha]))
theorem Own.chg {S : Nat → Prop} {w w' : World} (k : Chg S w w') : ∀ {s : Sh} {cs : List Value} {d : s.T} {bs : List Nat}, Own w s cs d bs → (∀ b ∈ bs, ¬ S b) → Own w' s cs d bs
  | .int, _, _, _, r, _ => r
  | .flt, _, _, _, r, _ => r
  | .bool, _, _, _, r, _ => r
  | .str, _, _, _, r, _ => r
  | .un, _, _, _, r, _ => r
  | .sl e, _, _, _, ⟨p, c, css, bss, h1, h2, h3, h4, h5, h6, h7, h8⟩, hs => by
    subst h8
    exact ⟨p, c, css, bss, h1, h2.chg k (fun b hb => hs b (by simp [hb])), h3, h4,
      h5.mem_imp (fun x d hx h => Own.chg k (s := e) h fun b hb => hs b (by
        have := (List.of_mem_zip (show (x.1, x.2) ∈ css.zip bss from hx)).2
        simp only [List.mem_append, List.mem_flatten]
        exact .inr ⟨x.2, this, hb⟩)), h6, h7, rfl⟩
  | .pr a b, _, _, _, ⟨ca, cb, ba, bb, h1, h2, h3, h4⟩, hs => by
    subst h4
    exact ⟨ca, cb, ba, bb, h1, Own.chg k h2 (fun b hb => hs b (by simp [hb])), Own.chg k h3 (fun b hb => hs b (by simp [hb])), rfl⟩
theorem Own.ext {w w' : World} {s : Sh} {cs : List Value} {d : s.T} {bs : List Nat} (h : Own w s cs d bs) (e : Ext w w') : Own w' s cs d bs := h.chg (S := fun _ => False) (.of_ext e) (fun _ _ h => h)
theorem Own.lt {w : World} : ∀ {s : Sh} {cs : List Value} {d : s.T} {bs : List Nat}, Own w s cs d bs → ∀ b ∈ bs, b < w.heap.size
  | .int, _, _, _, r, b, hb => by rw [r.2] at hb; cases hb
  | .flt, _, _, _, r, b, hb => by rw [r.2] at hb; cases hb
  | .bool, _, _, _, r, b, hb => by rw [r.2] at hb; cases hb
  | .str, _, _, _, r, b, hb => by rw [r.2] at hb; cases hb
  | .un, _, _, _, r, b, hb => by rw [r.2] at hb; cases hb
  | .sl e, _, l, _, ⟨p, c, css, bss, h1, h2, h3, h4, h5, h6, h7, h8⟩, b, hb => by
    subst h8
    rcases List.mem_append.1 hb with hb | hb
    · exact h2.lt b hb
    · obtain ⟨bs', h9, h10⟩ := List.mem_flatten.1 hb
      obtain ⟨i, hi, rfl⟩ := List.mem_iff_getElem.1 h9
      have hil : i < l.length := by omega
      obtain ⟨h11, h12⟩ := h5.get' i hil
      simp only [List.getElem_zip] at h12
      exact Own.lt (s := e) h12 b h10
  | .pr a b, _, _, _, ⟨ca, cb, ba, bb, h1, h2, h3, h4⟩, x, hx => by
    subst h4
    rcases List.mem_append.1 hx with hx | hx
    · exact h2.lt x hx
    · exact h3.lt x hx

/-! ### Rows, read and written -/
theorem ownRow_of {w : World} {B e s n c : Nat} {p : Option Addr} {vs : List Value} (h : w.ownsRow B e s (.slice p n c) n vs) : OwnRow w p n c vs := by
  obtain ⟨h1, h2⟩ := h
  rcases h2 with ⟨hv, h0⟩ | ⟨g, cap, cur, hv, hg, hh, hn, hm, hs, ht⟩
  · cases hv; exact .inl ⟨rfl, rfl, rfl, List.eq_nil_of_length_eq_zero (by simpa using h1)⟩
  · cases hv; exact .inr ⟨g, cur, e, rfl, hh, by rw [h1]; exact ht⟩
theorem own_cap {w : World} {B e s n c : Nat} {p : Option Addr} {vs : List Value} (h : w.ownsRow B e s (.slice p n c) n vs) : n ≤ c ∧ c ≤ maxLen := by
  rcases h.2 with ⟨hv, h0⟩ | ⟨g, cap, cur, hv, hg, hh, hn, hm, hs, ht⟩
  · cases hv; exact ⟨Nat.le_refl _, Nat.zero_le _⟩
  · cases hv; exact ⟨hn, hm⟩
theorem OwnRow.set {w : World} {p : Option Addr} {n c : Nat} {vs : List Value} (h : OwnRow w p n c vs) (i : Nat) (hi : i < vs.length) (u : Value) :
    OwnRow (w.setCell (adr p i) u) p n c (vs.set i u) ∧ Chg (fun b => b ∈ blocksOf p) w (w.setCell (adr p i) u) ∧ w.frozen? (adr p i) = false ∧ ∃ v, w.cell? (adr p i) = some v := by
  rcases h with ⟨_, _, _, rfl⟩ | ⟨g, cur, e, rfl, hg, ht⟩
  · simp at hi
  · rw [adr_row]
    have hcs : i < cur.size := by
      have : (cur.toList.take vs.length).length = vs.length := by rw [ht]
      rw [List.length_take] at this; simp at this; omega
    refine ⟨.inr ⟨g, cur.setIfInBounds i u, e, rfl, ?_, ?_⟩, ⟨rfl, rfl, rfl, by simp [World.setCell], fun k hk hn => Below.heap_setCell _ _ _ _ (fun h => hn (by simp [blocksOf, h]))⟩, ?_, ?_⟩
    · simp [World.setCell, Array.getElem?_modify, hg]
    · rw [Array.toList_setIfInBounds, List.length_set, List.take_set, ht]
    · simp [World.frozen?, hg]
    · exact ⟨cur[i], by simp [World.cell?, hg, hcs]⟩
theorem F32s.cons {v : Value} {vs : List Value} {x : Nat} {xs : List Nat} {b : Nat} (hv : v = .float .f32 b) (hb : cn .f32 b = x) (h : F32s vs xs) : F32s (v :: vs) (x :: xs) :=
  ⟨by simp [h.1], fun i hi => by
    cases i with
    | zero => exact ⟨b, by simp [hv], by simpa using hb⟩
    | succ i => obtain ⟨b', h1, h2⟩ := h.2 i (by simpa using hi); exact ⟨b', by simpa using h1, by simpa using h2⟩⟩
theorem F32s.tail {v : Value} {vs : List Value} {x : Nat} {xs : List Nat} (h : F32s (v :: vs) (x :: xs)) : F32s vs xs :=
  ⟨by simpa using h.1, fun i hi => by obtain ⟨b, h1, h2⟩ := h.2 (i + 1) (by simpa using hi); exact ⟨b, by simpa using h1, by simpa using h2⟩⟩
theorem F32s.head {v : Value} {vs : List Value} {x : Nat} {xs : List Nat} (h : F32s (v :: vs) (x :: xs)) : ∃ b, v = .float .f32 b ∧ cn .f32 b = x := by
  obtain ⟨b, h1, h2⟩ := h.2 0 (by simp); exact ⟨b, by simpa using h1, by simpa using h2⟩
theorem flatten_map_one : ∀ (vs : List Value), (vs.map fun v => [v]).flatten = vs
  | [] => rfl
  | v :: vs => by simp [flatten_map_one vs]
theorem rep_flts_all {w : World} : ∀ {vs : List Value} {xs : List Nat}, F32s vs xs → All2 (Rep w .flt) (vs.map fun v => [v]) xs
  | [], [], _ => .nil
  | [], _ :: _, h => by have := h.1; simp at this
  | _ :: _, [], h => by have := h.1; simp at this
  | v :: vs, x :: xs, h => .cons (by obtain ⟨b, rfl, hb⟩ := h.head; exact ⟨b, rfl, hb⟩) (rep_flts_all h.tail)
theorem flts_of_all {w : World} {css : List (List Value)} {xs : List Nat} (h : All2 (Rep w .flt) css xs) : F32s css.flatten xs := by
  induction h with
  | nil => exact ⟨rfl, fun i hi => by simp at hi⟩
  | cons h _ ih => obtain ⟨b, rfl, hb⟩ := h; exact F32s.cons rfl hb ih
theorem rep_flts {w : World} {cs : List Value} {xs : List Nat} : Rep w (.sl .flt) cs xs ↔ ∃ p c vs, cs = [.slice p xs.length c] ∧ Cs w p vs ∧ F32s vs xs ∧ xs.length ≤ c ∧ c ≤ maxLen := by
  constructor
  · rintro ⟨p, c, css, h1, h2, h3, h4, h5⟩; exact ⟨p, c, _, h1, h2, flts_of_all h5, h3, h4⟩
  · rintro ⟨p, c, vs, h1, h2, h3, h4, h5⟩; exact ⟨p, c, _, h1, by rw [flatten_map_one]; exact h2, h4, h5, rep_flts_all h3⟩
theorem zip_nils : ∀ (vs : List Value), ((vs.map fun v => [v]).zip (vs.map fun _ => ([] : List Nat))) = vs.map fun v => ([v], [])
  | [] => rfl
  | v :: vs => by simp [zip_nils vs]
theorem own_flts_all {w : World} : ∀ {vs : List Value} {xs : List Nat}, F32s vs xs → All2 (fun (x : List Value × List Nat) (d : Nat) => Own w .flt x.1 d x.2) (vs.map fun v => ([v], [])) xs
  | [], [], _ => .nil
  | [], _ :: _, h => by have := h.1; simp at this
  | _ :: _, [], h => by have := h.1; simp at this
  | v :: vs, x :: xs, h => .cons (by obtain ⟨b, rfl, hb⟩ := h.head; exact ⟨⟨b, rfl, hb⟩, rfl⟩) (own_flts_all h.tail)
theorem nils_flatten : ∀ (vs : List Value), (vs.map fun _ => ([] : List Nat)).flatten = []
  | [] => rfl
  | v :: vs => by simp [nils_flatten vs]
theorem own_nils {w : World} : ∀ {css : List (List Value)} {bss : List (List Nat)} {xs : List Nat}, All2 (fun (x : List Value × List Nat) (d : Nat) => Own w .flt x.1 d x.2) (css.zip bss) xs → css.length = xs.length → bss.length = xs.length → bss.flatten = []
  | [], [], [], _, _, _ => rfl
  | [], _ :: _, [], _, _, h => by simp at h
  | _ :: _, _, [], _, h, _ => by simp at h
  | [], _, _ :: _, _, h, _ => by simp at h
  | _ :: _, [], _ :: _, _, _, h => by simp at h
  | cs :: css, bs :: bss, x :: xs, h, h1, h2 => by
    cases h with
    | cons h3 h4 =>
      have h5 : bs = [] := h3.2
      rw [List.flatten_cons, h5, own_nils h4 (by simpa using h1) (by simpa using h2)]; rfl
theorem own_flts {w : World} {cs : List Value} {xs : List Nat} {bs : List Nat} : Own w (.sl .flt) cs xs bs ↔ ∃ p c vs, cs = [.slice p xs.length c] ∧ OwnRow w p xs.length c vs ∧ F32s vs xs ∧ xs.length ≤ c ∧ c ≤ maxLen ∧ bs = blocksOf p := by
  constructor
  · rintro ⟨p, c, css, bss, h1, h2, h3, h4, h5, h6, h7, h8⟩
    refine ⟨p, c, css.flatten, h1, h2, flts_of_all (zip_fst (R := fun _ => True) (T := Rep w .flt) (by rw [h6, h7]) (fun _ _ h => Own.rep (s := .flt) h) h5), h3, h4, ?_⟩
    rw [h8, own_nils h5 h6 h7, List.append_nil]
  · rintro ⟨p, c, vs, h1, h2, h3, h4, h5, h6⟩
    refine ⟨p, c, vs.map fun v => [v], vs.map fun _ => [], h1, by rw [flatten_map_one]; exact h2, h4, h5, by rw [zip_nils]; exact own_flts_all h3, by rw [List.length_map]; exact h3.1, by rw [List.length_map]; exact h3.1, ?_⟩
    rw [h6, nils_flatten, List.append_nil]

section
variable {P : Program} {w : World} {ops : Array Oper} {rest : List Oper} {o o1 o2 : Oper} {a : Act} {Q : Exit → Act → World → Prop}
/-- 'xs[i] = u' of one-cell elements. -/
theorem wl_stRow {t e b : Nat} {z : Value} [SlTy P t e 1 z b] [Cell1 P e] {x ix y : Operand} {d : Tmp} (hg1 : o1.guard = none) (ho1 : o1.op = .indexAddr t x ix) (hg2 : o2.guard = none) (ho2 : o2.op = .store e (.tmp d) y)
    {p : Option Addr} {n c : Nat} {k : IntKind} {i : Int} {u : Value} (hd : ∀ y, (a.put o1.dst y).eval (.tmp d) = y)
    (hx : a.eval x = .slice p n c) (hi : a.eval ix = .int k i) (hy : ∀ q, (a.put o1.dst q).eval y = u) (hu1 : u.oneCell' = true) {vs : List Value} (hc : OwnRow w p n c vs) (hlen : vs.length = n) (h0 : 0 ≤ i) (hn : i < n)
    (h : ∀ w', OwnRow w' p n c (vs.set i.toNat u) → Chg (fun b => b ∈ blocksOf p) w w' → wpList P ops Q rest ((a.put o1.dst (.pointer (some (adr p i.toNat)))).put o2.dst undef) w') : wpList P ops Q (o1 :: o2 :: rest) a w := by
  have hlt : i.toNat < vs.length := by omega
  obtain ⟨s1, s2, s3, v, s4⟩ := hc.set i.toNat hlt u
  refine wl_idx hg1 ho1 hx hi (hc.cs.isS (by intro h; rw [h] at hlt; simp at hlt)) h0 hn ?_
  rw [Nat.mul_one]
  refine wl_skip hg2 (w' := w.setCell (adr p i.toNat) u) ?_ (h _ s1 s2)
  simp [execOp, ho2, hd, hy, run_store1 s4 s3 hu1]
end
end Go.Proofs.Ytlimabbeaimdgaa
/- The types of this program, as the walk's laws want them. -/
namespace Go.Proofs.Ytlimabbeaimdgaa
set_option linter.unusedSimpArgs false
set_option linter.unusedVariables false
open Go.RowKit
instance tyI64 : SlTy Try.prog 66 2 1 (.int .i64 0) 8 := ⟨by kernel_rfl, by kernel_rfl, by kernel_rfl, by decide, by decide⟩
instance tyF32 : SlTy Try.prog 43 49 1 (.float .f32 0) 4 := ⟨by kernel_rfl, by kernel_rfl, by kernel_rfl, by decide, by decide⟩
instance tyU8 : SlTy Try.prog 40 5 1 (.int .u8 0) 1 := ⟨by kernel_rfl, by kernel_rfl, by kernel_rfl, by decide, by decide⟩
instance tyI64s : SlTy Try.prog 67 66 1 (.slice none 0 0) 24 := ⟨by kernel_rfl, by kernel_rfl, by kernel_rfl, by decide, by decide⟩
instance tyF32s : SlTy Try.prog 60 43 1 (.slice none 0 0) 24 := ⟨by kernel_rfl, by kernel_rfl, by kernel_rfl, by decide, by decide⟩
instance c1I64 : Cell1 Try.prog 2 := ⟨by kernel_rfl, by kernel_rfl⟩
instance c1Int : Cell1 Try.prog 3 := ⟨by kernel_rfl, by kernel_rfl⟩
instance c1Bool : Cell1 Try.prog 4 := ⟨by kernel_rfl, by kernel_rfl⟩
instance c1U8 : Cell1 Try.prog 5 := ⟨by kernel_rfl, by kernel_rfl⟩
instance c1Str : Cell1 Try.prog 9 := ⟨by kernel_rfl, by kernel_rfl⟩
instance c1F32 : Cell1 Try.prog 49 := ⟨by kernel_rfl, by kernel_rfl⟩
instance c1F64 : Cell1 Try.prog 139 := ⟨by kernel_rfl, by kernel_rfl⟩
instance c1SlI64 : Cell1 Try.prog 66 := ⟨by kernel_rfl, by kernel_rfl⟩
instance c1SlF32 : Cell1 Try.prog 43 := ⟨by kernel_rfl, by kernel_rfl⟩
instance c1SlU8 : Cell1 Try.prog 40 := ⟨by kernel_rfl, by kernel_rfl⟩
end Go.Proofs.Ytlimabbeaimdgaa
/- Small functions on integers. -/
namespace Go.Proofs.Ytlimabbeaimdgaa
set_option linter.unusedSimpArgs false
set_option linter.unusedVariables false
open Go.RowKit

/-- 'low ≤ n ≤ high'. -/
def inB (n lo hi : Int) : Bool := decide (lo ≤ n) && decide (n ≤ hi)
theorem inB_true {n lo hi : Int} : inB n lo hi = true ↔ lo ≤ n ∧ n ≤ hi := by simp [inB]
theorem inB_false {n lo hi : Int} : inB n lo hi = false ↔ n < lo ∨ hi < n := by simp [inB]; omega
theorem ret_bool {a b : Bool} (h : a = b) : Ending.returned (.bool a) = .returned (.bool b) := by rw [h]
theorem ret_int {k : IntKind} {a b : Int} (h : a = b) : Ending.returned (.int k a) = .returned (.int k b) := by rw [h]

set_option maxHeartbeats 400000 in
theorem within_any (n lo hi : Int) (w : World) :
    Calls Try.prog 81 #[.int .i64 n, .int .i64 lo, .int .i64 hi] w fun e w' => e = .returned (.bool (inB n lo hi)) ∧ w = w' := by
  by_cases h1 : lo ≤ n
  · by_cases h2 : n ≤ hi
    all_goals
      go_enter Try.func81, Try.ntmps81
      go_wp2
      go_ret
      exact ⟨by simp [inB, h1, h2], rfl⟩
  · go_enter Try.func81, Try.ntmps81
    go_wp2
    go_ret
    exact ⟨ret_bool (inB_false.2 (Or.inl (by omega))).symm, rfl⟩

set_option maxHeartbeats 400000 in
theorem l00In_any (n lo hi : Int) (w : World) :
    Calls Try.prog 177 #[.int .i64 n, .int .i64 lo, .int .i64 hi] w fun e w' => e = .returned (.bool (inB n lo hi)) ∧ w = w' := by
  by_cases h1 : lo ≤ n
  · by_cases h2 : n ≤ hi
    all_goals
      go_enter Try.func177, Try.ntmps177
      go_wp2
      go_ret
      exact ⟨by simp [inB, h1, h2], rfl⟩
  · go_enter Try.func177, Try.ntmps177
    go_wp2
    go_ret
    exact ⟨ret_bool (inB_false.2 (Or.inl (by omega))).symm, rfl⟩

set_option maxHeartbeats 400000 in
theorem isSide_any (n : Int) (w : World) :
    Calls Try.prog 103 #[.int .i64 n] w fun e w' => e = .returned (.bool (inB n 1 16)) ∧ w = w' := by
  go_enter Try.func103, Try.ntmps103
  go_wp2_with (go_at_call 81; refine (within_any _ _ _ _).mono ?_; rintro e w' ⟨rfl, rfl⟩)
  go_ret
  exact ⟨rfl, rfl⟩

/-- The next seed. -/
def nxt (s : Int) : Int := (1103515245 * s + 12345) % 2147483648
theorem nxt_bd (s : Int) : 0 ≤ nxt s ∧ nxt s ≤ 2147483647 := by unfold nxt; omega

end Go.Proofs.Ytlimabbeaimdgaa
/- Shuffled rows: the program's and the reference's. -/
namespace Go.Proofs.Ytlimabbeaimdgaa
set_option linter.unusedSimpArgs false
set_option linter.unusedVariables false
open Go.RowKit

/-- Two places change what they hold. -/
def swp (l : List Int) (i j : Nat) : List Int := (l.set i (l.getD j 0)).set j (l.getD i 0)
theorem length_swp (l : List Int) (i j : Nat) : (swp l i j).length = l.length := by simp [swp]
def shufGo : Nat → List Int → Int → List Int × Int
  | 0, l, s => (l, s)
  | i + 1, l, s => shufGo i (swp l (i + 1) (nxt s / 65536 % ((i + 1 : Nat) + 1 : Int)).toNat) (nxt s)
def upTo (n : Nat) : List Int := (List.range n).map fun (i : Nat) => (i : Int)
def shuf (count : Nat) (s : Int) : List Int × Int := shufGo (count - 1) (upTo count) s
theorem length_upTo (n : Nat) : (upTo n).length = n := by simp [upTo]
theorem upTo_succ (n : Nat) : upTo (n + 1) = upTo n ++ [(n : Int)] := by simp [upTo, List.range_succ]
theorem shufGo_length : ∀ i l s, (shufGo i l s).1.length = l.length
  | 0, _, _ => rfl
  | i + 1, l, s => by unfold shufGo; rw [shufGo_length i, length_swp]
theorem shufGo_bd : ∀ i l s, 0 ≤ s → s ≤ 2147483647 → 0 ≤ (shufGo i l s).2 ∧ (shufGo i l s).2 ≤ 2147483647
  | 0, _, _, h0, h1 => ⟨h0, h1⟩
  | i + 1, l, s, _, _ => by unfold shufGo; exact shufGo_bd i _ _ (nxt_bd s).1 (nxt_bd s).2

end Go.Proofs.Ytlimabbeaimdgaa
/- The harness on lists of integers: equal, marked, held. -/
namespace Go.Proofs.Ytlimabbeaimdgaa
set_option linter.unusedSimpArgs false
set_option linter.unusedVariables false
open Go.RowKit

theorem grownBy_trans {a b c : World} {row : Option Nat} (h : a.grownBy b row) (k : b.grownBy c row) : a.grownBy c row :=
  ⟨k.os.trans h.os, k.tape.trans h.tape, k.output.trans h.output, Nat.le_trans h.size k.size, fun i hi hr => (k.block i (Nat.lt_of_lt_of_le hi h.size) hr).trans (h.block i hi hr)⟩
theorem grownBy_refl (a : World) (row : Option Nat) : a.grownBy a row := ⟨rfl, rfl, rfl, Nat.le_refl _, fun _ _ _ => rfl⟩

/-- k, k + 1, .. up to i places. -/
def marks (k : Int) (n : Nat) : List Int := (List.range n).map fun (i : Nat) => k + i
theorem length_marks (k : Int) (n : Nat) : (marks k n).length = n := by simp [marks]
theorem marks_getD (k : Int) (n i : Nat) (h : i < n) : (marks k n).getD i 0 = k + i := by simp [marks, h]
/-- The first i places marked. -/
def markTo (k : Int) (xs : List Int) (i : Nat) : List Int := marks k i ++ xs.drop i
theorem markTo_set (k : Int) (xs : List Int) (i : Nat) (h : i < xs.length) : (markTo k xs i).set i (k + i) = markTo k xs (i + 1) := by
  unfold markTo
  rw [List.set_append_right _ _ (by rw [length_marks]; omega), length_marks, Nat.sub_self]
  have : xs.drop i = xs[i] :: xs.drop (i + 1) := by rw [List.drop_eq_getElem_cons h]
  rw [this, List.set_cons_zero]
  have : marks k (i + 1) = marks k i ++ [k + i] := by simp [marks, List.range_succ]
  rw [this, List.append_assoc]; rfl
theorem length_markTo (k : Int) (xs : List Int) (i : Nat) (h : i ≤ xs.length) : (markTo k xs i).length = xs.length := by simp [markTo, length_marks]; omega
theorem markTo_all (k : Int) (xs : List Int) : markTo k xs xs.length = marks k xs.length := by simp [markTo]

theorem getD_eq {xs ys : List Int} (h : xs.length = ys.length) (ha : ∀ j, j < xs.length → xs.getD j 0 = ys.getD j 0) : xs = ys := by
  apply List.ext_getElem h
  intro i h1 h2
  have := ha i h1
  simpa [h1, h2] using this

/-- What 'held' answers. -/
def heldOf (k : Int) : List Int → Int
  | [] => k
  | x :: xs => if x = k then heldOf (k + 1) xs else -1
theorem heldOf_marks (n : Nat) : ∀ k, heldOf k (marks k n) = k + n := by
  induction n with
  | zero => intro k; simp [marks, heldOf]
  | succ n ih =>
    intro k
    have : marks k (n + 1) = k :: marks (k + 1) n := by
      simp only [marks, List.range_succ_eq_map, List.map_cons, List.map_map]
      congr 1
      · simp
      · apply List.map_congr_left; intro i _; simp; omega
    rw [this, heldOf, if_pos rfl, ih]; simp; omega
end Go.Proofs.Ytlimabbeaimdgaa
/- From a walk to a row: what a law's claim asks beside the walk, whatever its arguments are. -/
namespace Go.Proofs.Ytlimabbeaimdgaa
set_option linter.unusedSimpArgs false
set_option linter.unusedVariables false
open Go.RowKit Go.ChangeShapes Go.WideShapes Go.ChangeAt

theorem own_knob : ownKnob Try.prog.godebug = none := by kernel_rfl
theorem laid_out : laidOutB Try.prog = true := by kernel_rfl

/-- What a row asks of a call that answers true and leaves all that was there. -/
theorem post_true {H : Type} {enc : TypeId × Value → H} {P : Program} {f : Func} {s : ChangeSpec} {W W' : World} {args : Array Value} {ds : List (DataW H)} {before : List MemPlace} {tb : TypeId}
    (hl : laidOutB P = true) (hvs : s.vars = []) (hrt : f.resultTypes = #[tb]) (hb : P.underlying tb = some .bool)
    (hps : ∀ t ∈ f.params.toList, P.readableRec t = true ∧ t < P.types.size)
    (hfn : s.fn H (ds ++ []) = { results := [.lit (.bool true)], args := ds })
    (hW : DataW.Whole enc P f.params.toList s.vars false W args.toList ds [] before) (he : Ext W W') :
    s.post enc P f false true false false W args (.bool true) W' := by
  obtain ⟨p, q, hA, hV, hpq, hfz, hnd⟩ := hW
  have hW' : DataW.Whole enc P f.params.toList s.vars false W args.toList ds [] before := ⟨p, q, hA, hV, hpq, hfz, hnd⟩
  have hq : q = [] := by
    rw [hvs] at hV
    exact (trodVars_none hV).2
  subst hq
  simp only [List.append_nil] at hpq
  subst hpq
  refine ⟨ds, [], before, [], before, [], hW', ?_, ?_, ?_, ?_, fun h => by cases h⟩
  · rw [hfn, hrt]
    exact trodAll_mk1 (shut_bool hb _)
  · rw [hfn]
    exact stays hl hps hA he.below (fun x hx => by have := hW'.lt x hx; simpa using this)
  · rw [hvs] at hV ⊢
    rw [hfn]
    exact hV0
  · exact he.below.frame _
where
  hV0 {H : Type} {enc : TypeId × Value → H} {P : Program} {W' : World} {sp : Nat → Bool} : DataW.TrodVars enc P W' sp [] [] [] := rfl
  stays {H : Type} {enc : TypeId × Value → H} {P : Program} {W W' : World} (hl : laidOutB P = true) : ∀ {ts : List TypeId} {vs : List Value} {ds : List (DataW H)} {ps : List MemPlace},
      (∀ t ∈ ts, P.readableRec t = true ∧ t < P.types.size) → DataW.TrodAll enc P W 0 (fun _ => true) true ts vs ds ps → Below W.heap.size W W' → (∀ x ∈ ps, x.block < W.heap.size) →
      DataW.TrodAll enc P W' 0 (fun b => decide (b < W.heap.size)) true ts vs ds ps := by
    intro ts
    induction ts with
    | nil => intro vs ds ps _ h _ _; obtain ⟨rfl, rfl, rfl⟩ := trodAll_nil h; exact trodAll_mk0
    | cons t ts ih =>
      intro vs ds ps hts h hb hlt
      obtain ⟨v, vs', d, ds', p, q, rfl, rfl, rfl, h1, h2⟩ := trodAll_cons h
      have ht := hts t (by simp)
      exact ⟨p, q, Below.trod hl ht.1 ht.2 h1 hb (fun x hx => hlt x (by simp [hx])), ih (fun t' ht' => hts t' (by simp [ht'])) h2 hb (fun x hx => hlt x (by simp [hx])), rfl⟩
end Go.Proofs.Ytlimabbeaimdgaa
/- The harness on floats and lists of floats. -/
namespace Go.Proofs.Ytlimabbeaimdgaa
set_option linter.unusedSimpArgs false
set_option linter.unusedVariables false
open Go.RowKit

theorem order_self {k : FloatKind} {x : Nat} (h : (k.decode x).isNaN = false) : k.format.order x x = some .eq := by
  unfold Ieee.Format.order
  rw [decode_eq]
  cases hd : k.decode x with
  | nan s f => rw [hd] at h; simp [Ieee.Datum.isNaN] at h
  | infinity s => simp [Ieee.Datum.order]
  | number s m e => simp [Ieee.Datum.order]
theorem order_nan {k : FloatKind} {x : Nat} (h : (k.decode x).isNaN = true) (y : Nat) : k.format.order x y = none := by
  unfold Ieee.Format.order; rw [decode_eq, decode_eq]; exact order_nan_l h
theorem isNaN_of_cn {k : FloatKind} {x y : Nat} (h : cn k x = cn k y) : (k.decode x).isNaN = (k.decode y).isNaN := by
  rw [← isNaN_cn k x, h, isNaN_cn]
theorem eq_of_cn {k : FloatKind} {x y : Nat} (h : cn k x = cn k y) (hx : (k.decode x).isNaN = false) : x = y := by
  have hy : (k.decode y).isNaN = false := by rw [← isNaN_of_cn h]; exact hx
  rw [cn_not hx, cn_not hy] at h; exact h
theorem order_of_cn {k : FloatKind} {x x' y : Nat} (h : cn k x = cn k x') : k.format.order x y = k.format.order x' y := by
  rw [← order_cn k x y, h, order_cn]

set_option maxRecDepth 100000 in
set_option maxHeartbeats 1000000 in
theorem sameFloat_true (a b : Nat) (w : World) (h : cn .f64 a = cn .f64 b) :
    Calls Try.prog 198 #[.float .f64 a, .float .f64 b] w fun e w' => e = .returned (.bool true) ∧ Ext w w' := by
  by_cases hn : (FloatKind.f64.decode a).isNaN = true
  · have ha : (FloatKind.f64.format.order a a != some .eq) = true := by rw [order_nan hn]; rfl
    have hb : (FloatKind.f64.format.order b b != some .eq) = true := by rw [order_nan (by rw [← isNaN_of_cn h]; exact hn)]; rfl
    clear h hn
    go_enter Try.func198, Try.ntmps198
    go_wp2
    go_ret
    exact ⟨rfl, Ext.refl _⟩
  · have hn' : (FloatKind.f64.decode a).isNaN = false := by simpa using hn
    obtain rfl := eq_of_cn h hn'
    have ha : (FloatKind.f64.format.order a a != some .eq) = false := by rw [order_self hn']; rfl
    have ha2 : (FloatKind.f64.format.order a a == some .eq) = true := by rw [order_self hn']; rfl
    clear h hn hn'
    by_cases hz : (FloatKind.f64.format.order a 0 == some .eq) = true
    · go_enter Try.func198, Try.ntmps198
      go_wp2_with (refine wl_fop rfl rfl rfl rfl rfl ?_; intro r1 w1 e1 hr1; have Hr1 := hid hr1; clear hr1)
      rename_i r0 w0 e0 H0
      have hg : FloatKind.f64.format.order r1 0 = FloatKind.f64.format.order r0 0 := order_of_cn (by rw [Hr1.out, H0.out])
      go_ret
      refine ⟨ret_bool ?_, e0.trans e1⟩
      rw [hg]; simp
    · have hz' : (FloatKind.f64.format.order a 0 == some .eq) = false := by simpa using hz
      go_enter Try.func198, Try.ntmps198
      go_wp2
      go_ret
      exact ⟨rfl, Ext.refl _⟩

theorem F32s.get {vs : List Value} {xs : List Nat} (h : F32s vs xs) {i : Nat} (hi : i < xs.length) : ∃ b, vs[i]? = some (.float .f32 b) ∧ cn .f32 b = xs.getD i 0 := h.2 i hi
theorem F32s.nil : F32s [] [] := ⟨rfl, fun i hi => by simp at hi⟩

set_option maxRecDepth 100000 in
set_option maxHeartbeats 1000000 in
theorem toFloat32S_any (p : Option Addr) (n c : Nat) (vs : List Value) (xs : List Nat) (w : World) (hx : xs.length = n) (hn : n ≤ 1073741824) (hc : Cs w p vs) (hf : F32s vs xs) :
    Calls Try.prog 179 #[.slice p n c] w fun e w' => ∃ g, e = .returned (.slice (some ⟨g, 0, none⟩) n n) ∧ w'.ownsRow w.heap.size 49 1 (.slice (some ⟨g, 0, none⟩) n n) n vs ∧ Ext w w' := by
  have Hx := hid hx
  have Hv := hid (hf.1.trans hx)
  clear hx
  go_enter Try.func179, Try.ntmps179
  go_wp2_with (refine wl_make w.heap.size n rfl rfl rfl rfl (by unfold maxLen; omega) (by omega) (Nat.le_refl _) ?_; intro g w1 own1 e1)
  go_loopw [4] (fun iv wr => ∃ (i : Nat) (us : List Value), i ≤ n ∧ iv = .int .i64 i ∧ wr.ownsRow w.heap.size 49 1 (.slice (some ⟨g, 0, none⟩) n n) n us ∧ Hid (us.length = n) ∧ Hid (∀ j, j < i → us[j]? = vs[j]?) ∧ Ext w wr) (fun iv _ => n - (intOf iv).toNat)
  case atStart => exact ⟨0, _, by omega, rfl, own1, own1.1.trans (Nat.mul_one n), fun j hj => by omega, e1⟩
  case round =>
    clear own1 e1
    obtain ⟨i, us, hi, rfl, own1, Hu, Hall, e1⟩ := hrel
    by_cases hlt : i < n
    · obtain ⟨b, hb, _⟩ := hf.get (i := i) (by rw [Hx.out]; exact hlt)
      have Hb := hid hb
      clear hb
      have hcw := hc.ext e1
      go_wp2_with (first | (refine wl_idxload rfl rfl rfl rfl (fun _ => rfl) rfl rfl hcw Hv.out (by omega) (by omega) ?_; intro u hu; rw [Int.toNat_natCast, Hb.out] at hu; cases hu) | (refine wl_idxstore (u := .float .f32 b) rfl rfl rfl rfl (fun _ => rfl) rfl rfl (fun _ => rfl) rfl own1 (by omega) (by omega) ?_; intro w2 own2 g2))
      go_roundw
      case rel =>
        refine ⟨i + 1, _, by omega, by go_num, own2, by rw [Hid, List.length_set]; exact Hu.out, fun j hj => ?_, e1.grown g2 (fun k hk => (own_le own1 k hk))⟩
        rw [Int.toNat_natCast, List.getElem?_set]
        by_cases hji : i = j
        · subst hji; rw [if_pos rfl, if_pos (by rw [Hu.out]; exact hlt), Hb.out]
        · rw [if_neg hji]; exact Hall j (by omega)
      case measure => simp [intOf]; omega
    · obtain rfl : i = n := by omega
      go_wp2
      go_ret
      have : us = vs := by
        apply List.ext_getElem?
        intro j
        by_cases hj : j < i
        · exact Hall j hj
        · rw [List.getElem?_eq_none (by rw [Hu.out]; omega), List.getElem?_eq_none (by rw [Hv.out]; omega)]
      subst this
      exact ⟨g, rfl, own1, e1⟩

theorem underlying_f64 : Try.prog.underlying 139 = some (.float .f64) := by kernel_rfl
theorem underlying_f32 : Try.prog.underlying 49 = some (.float .f32) := by kernel_rfl

set_option maxRecDepth 100000 in
set_option maxHeartbeats 1000000 in
theorem eqFloat32S_true (p q : Option Addr) (n c d : Nat) (us vs : List Value) (xs : List Nat) (w : World) (hx : xs.length = n) (hn : n ≤ 1073741824) (hp : Cs w p us) (hq : Cs w q vs) (hu : F32s us xs) (hv : F32s vs xs) :
    Calls Try.prog 180 #[.slice p n c, .slice q n d] w fun e w' => e = .returned (.bool true) ∧ Ext w w' := by
  have Hx := hid hx
  clear hx
  go_enter Try.func180, Try.ntmps180
  go_wp2
  go_loopw [5] (fun iv wr => ∃ i : Nat, i ≤ n ∧ iv = .int .i64 i ∧ Ext w wr) (fun iv _ => n - (intOf iv).toNat)
  case atStart => exact ⟨0, by omega, rfl, Ext.refl w⟩
  case round =>
    obtain ⟨i, hi, rfl, he⟩ := hrel
    by_cases hlt : i < n
    · have hp' := (hp.ext he).ext (Ext.drew wr)
      have hq' := (hq.ext he).ext (Ext.drew wr)
      go_wp2_with fail
      refine wp_region_xall (F := fun _ _ u => u = .bool true) (by kernel_rfl) (by kernel_rfl) (by kernel_rfl) ?_
      intro wf hwf
      refine x_mv rfl rfl rfl ?_
      simp only [Act.put, ev_tmp, List.setIfInBounds_toArray, List.set_cons_succ, List.set_cons_zero, List.getD_cons_succ, List.getD_cons_zero]
      refine x_mv rfl rfl rfl ?_
      simp only [Act.put, ev_tmp, List.setIfInBounds_toArray, List.set_cons_succ, List.set_cons_zero, List.getD_cons_succ, List.getD_cons_zero]
      refine x_ldF rfl rfl (fun _ => rfl) rfl (fun _ => rfl) rfl rfl (hp') (hu) (Hx.out) (by omega) (by omega) ?_
      intro r1 h1
      simp only [Act.put, ev_tmp, List.setIfInBounds_toArray, List.set_cons_succ, List.set_cons_zero, List.getD_cons_succ, List.getD_cons_zero]
      refine x_conv rfl rfl rfl (by kernel_rfl) underlying_f64 (fover_widen _) ?_
      intro r2 h2
      simp only [Act.put, ev_tmp, List.setIfInBounds_toArray, List.set_cons_succ, List.set_cons_zero, List.getD_cons_succ, List.getD_cons_zero]
      refine x_mv rfl rfl rfl ?_
      simp only [Act.put, ev_tmp, List.setIfInBounds_toArray, List.set_cons_succ, List.set_cons_zero, List.getD_cons_succ, List.getD_cons_zero]
      refine x_mv rfl rfl rfl ?_
      simp only [Act.put, ev_tmp, List.setIfInBounds_toArray, List.set_cons_succ, List.set_cons_zero, List.getD_cons_succ, List.getD_cons_zero]
      refine x_ldF rfl rfl (fun _ => rfl) rfl (fun _ => rfl) rfl rfl (hq') (hv) (Hx.out) (by omega) (by omega) ?_
      intro r3 h3
      simp only [Act.put, ev_tmp, List.setIfInBounds_toArray, List.set_cons_succ, List.set_cons_zero, List.getD_cons_succ, List.getD_cons_zero]
      refine x_conv rfl rfl rfl (by kernel_rfl) underlying_f64 (fover_widen _) ?_
      intro r4 h4
      simp only [Act.put, ev_tmp, List.setIfInBounds_toArray, List.set_cons_succ, List.set_cons_zero, List.getD_cons_succ, List.getD_cons_zero]
      have hcn : cn .f64 r2 = cn .f64 r4 := by rw [h2, h4, h1, h3]
      refine x_callf (f := 198) (args := #[.float .f64 r2, .float .f64 r4]) rfl rfl Try.func198 rfl (by kernel_rfl) (by simp [Act.eval]) (fun w1 hw1 => (sameFloat_true r2 r4 w1 hcn).mono fun e w3 h => ⟨_, h.1, h.2, rfl⟩) ?_
      rintro u w3 _ _ rfl
      simp only [Act.put, ev_tmp, List.setIfInBounds_toArray, List.set_cons_succ, List.set_cons_zero, List.getD_cons_succ, List.getD_cons_zero]
      refine x_run rfl fun K hK w1 _ => ?_
      go_simp
      refine hK _ ?_
      clear hK K
      refine x_nil ?_
      have he' := (he.trans (Ext.drew wr)).trans hwf
      clear hwf hp' hq' he h1 h2 h3 h4 hcn
      go_wp2
      go_roundw
      case rel => exact ⟨i + 1, by omega, by go_num, he'⟩
      case measure => simp [intOf]; omega
    · obtain rfl : i = n := by omega
      go_wp2
      go_ret
      exact ⟨rfl, he⟩

/-- The numbers k, k + 1, .. as floats. -/
def marksF (k : Int) (n : Nat) : List Nat := (List.range n).map fun (i : Nat) => FloatKind.f32.nearest (k + i)
theorem length_marksF (k : Int) (n : Nat) : (marksF k n).length = n := by simp [marksF]
theorem marksF_getD (k : Int) (n i : Nat) (h : i < n) : (marksF k n).getD i 0 = FloatKind.f32.nearest (k + i) := by simp [marksF, h]
def markVs (k : Int) (n : Nat) : List Value := (List.range n).map fun (i : Nat) => Value.float .f32 (FloatKind.f32.nearest (k + i))
theorem markVs_flts (k : Int) (n : Nat) : F32s (markVs k n) (marksF k n) :=
  ⟨by simp [markVs, marksF], fun i hi => by
    rw [length_marksF] at hi
    exact ⟨FloatKind.f32.nearest (k + i), by simp [markVs, hi], by rw [marksF_getD k n i hi, cn_nearest]⟩⟩

set_option maxRecDepth 100000 in
set_option maxHeartbeats 1000000 in
theorem markFloat32S_own (p : Option Addr) (n c : Nat) (k : Int) (vs : List Value) (w : World) (hv : vs.length = n) (hn : n ≤ 1073741824) (hk0 : 0 ≤ k) (hk : k ≤ 4611686018427387904) (hown : OwnRow w p n c vs) :
    Calls Try.prog 134 #[.slice p n c, .int .i64 k] w fun e w' => e = .returned (.int .i64 (k + n)) ∧ OwnRow w' p n c (markVs k n) ∧ Chg (fun b => b ∈ blocksOf p) w w' := by
  have Hv := hid hv
  clear hv
  go_enter Try.func134, Try.ntmps134
  go_wp2
  go_loopw [1, 5] (fun kv iv wr => ∃ (i : Nat) (us : List Value), i ≤ n ∧ iv = .int .i64 i ∧ kv = .int .i64 (k + i) ∧ Hid (us.length = n) ∧ Hid (∀ j, j < i → us[j]? = (markVs k n)[j]?) ∧ OwnRow wr p n c us ∧ Chg (fun b => b ∈ blocksOf p) w wr) (fun _ iv _ => n - (intOf iv).toNat)
  case atStart => exact ⟨0, vs, by omega, rfl, by go_num, Hv.out, fun j hj => by omega, hown, Chg.refl _ _⟩
  case round =>
    clear hown
    obtain ⟨i, us, hi, rfl, rfl, Hu, Hall, hown, hch⟩ := hrel
    by_cases hlt : i < n
    · go_wp2_with (refine wl_stRow (u := .float .f32 (FloatKind.f32.nearest (k + i))) rfl rfl rfl rfl (fun _ => rfl) rfl rfl (fun _ => rfl) rfl hown Hu.out (by omega) (by omega) ?_; intro w1 own1 g1)
      go_roundw
      case rel =>
        refine ⟨i + 1, _, by omega, by go_num, by go_num, by rw [Hid, List.length_set]; exact Hu.out, fun j hj => ?_, own1, hch.trans g1⟩
        rw [Int.toNat_natCast, List.getElem?_set]
        by_cases hji : i = j
        · subst hji; rw [if_pos rfl, if_pos (by rw [Hu.out]; exact hlt)]; simp [markVs, hlt]
        · rw [if_neg hji]; exact Hall j (by omega)
      case measure => simp [intOf]; omega
    · obtain rfl : i = n := by omega
      go_wp2
      go_ret
      have : us = markVs k i := by
        apply List.ext_getElem?
        intro j
        by_cases hj : j < i
        · exact Hall j hj
        · rw [List.getElem?_eq_none (by rw [Hu.out]; omega), List.getElem?_eq_none (by simp [markVs]; omega)]
      subst this
      exact ⟨rfl, hown, hch⟩

set_option maxRecDepth 100000 in
set_option maxHeartbeats 1000000 in
theorem heldFloat32S_any (p : Option Addr) (n c : Nat) (k : Int) (vs : List Value) (w : World) (hn : n ≤ 1073741824) (hk0 : 0 ≤ k) (hk : k ≤ 4611686018427387904) (hp : Cs w p vs) (hf : F32s vs (marksF k n)) :
    Calls Try.prog 135 #[.slice p n c, .int .i64 k] w fun e w' => e = .returned (.int .i64 (k + n)) ∧ Ext w w' := by
  have Hl := hid (length_marksF k n)
  go_enter Try.func135, Try.ntmps135
  go_wp2
  go_loopw [1, 5] (fun kv iv wr => ∃ i : Nat, i ≤ n ∧ iv = .int .i64 i ∧ kv = .int .i64 (k + i) ∧ Ext w wr) (fun _ iv _ => n - (intOf iv).toNat)
  case atStart => exact ⟨0, by omega, rfl, by go_num, Ext.refl w⟩
  case round =>
    obtain ⟨i, hi, rfl, rfl, he⟩ := hrel
    by_cases hlt : i < n
    · have hp' := hp.ext he
      obtain ⟨b, hb, hcb⟩ := hf.get (i := i) (by rw [Hl.out]; exact hlt)
      rw [marksF_getD k n i hlt] at hcb
      have hbe : b = FloatKind.f32.nearest (k + i) := eq_of_cn (hcb.trans (cn_nearest .f32 _).symm) (by rw [isNaN_of_cn (hcb.trans (cn_nearest .f32 _).symm)]; exact nearest_not .f32 _)
      have ho : (FloatKind.f32.format.order b (floatOfInt .f32 (k + i)) != some .eq) = false := by rw [hbe]; show (FloatKind.f32.format.order (FloatKind.f32.nearest (k + i)) (FloatKind.f32.nearest (k + i)) != some .eq) = false; rw [order_self (nearest_not .f32 _)]; rfl
      have Hb := hid hb
      have Hv := hid (hf.1.trans Hl.out)
      clear hbe hcb hb
      go_wp2_with (refine wl_idxload rfl rfl rfl rfl (fun _ => rfl) rfl rfl hp' Hv.out (by omega) (by omega) ?_; intro u hu; rw [Int.toNat_natCast, Hb.out] at hu; cases hu)
      go_roundw
      case rel => exact ⟨i + 1, by omega, by go_num, by go_num, he⟩
      case measure => simp [intOf]; omega
    · obtain rfl : i = n := by omega
      go_wp2
      go_ret
      exact ⟨rfl, he⟩

/-- What is left of a budget. -/
def Left (left tot : Int) (e : Ending) : Prop := ∃ r : Int, e = .returned (.int .i64 r) ∧ (r < 0 ∨ (r = left - tot ∧ 0 ≤ r))
set_option maxRecDepth 100000 in
set_option maxHeartbeats 1000000 in
theorem szFloat32S_any (p : Option Addr) (n c : Nat) (left : Int) (w : World) (hn : n ≤ maxLen) (h0 : 0 ≤ left) (h1 : left ≤ 1048576) :
    Calls Try.prog 176 #[.slice p n c, .int .i64 left] w fun e w' => Left left n e ∧ Ext w w' := by
  unfold maxLen at hn
  by_cases h : left < n
  · go_enter Try.func176, Try.ntmps176
    go_wp2
    go_ret
    exact ⟨⟨-1, rfl, .inl (by omega)⟩, Ext.refl _⟩
  · go_enter Try.func176, Try.ntmps176
    go_wp2
    go_ret
    exact ⟨⟨_, rfl, .inr ⟨rfl, by omega⟩⟩, Ext.refl _⟩
end Go.Proofs.Ytlimabbeaimdgaa
/- The harness's contracts, by shapes: copied, equal, measured, marked, held. -/
namespace Go.Proofs.Ytlimabbeaimdgaa
set_option linter.unusedSimpArgs false
set_option linter.unusedVariables false
open Go.RowKit

/-- How much a value holds. -/
def tot : (s : Sh) → s.T → Nat
  | .sl e, l => l.length + (l.map (tot e)).sum
  | .str, s => s.size
  | .pr a b, x => tot a x.1 + tot b x.2
  | _, _ => 0

/-- One after another, the number carried on. -/
def carry {A : Type} (f : A → Int → A × Int) : List A → Int → List A × Int
  | [], k => ([], k)
  | x :: xs, k => ((f x k).1 :: (carry f xs (f x k).2).1, (carry f xs (f x k).2).2)
/-- The decimal digits of a number, none of 0. -/
def digs (n : Nat) : List UInt8 := if n = 0 then [] else digs (n / 10) ++ [UInt8.ofNat (48 + n % 10)]
termination_by n
decreasing_by omega
/-- The text m and a number. -/
def markStr (k : Int) : ByteArray := if k ≤ 0 then ⟨#[109, 48]⟩ else ⟨(109 :: digs k.toNat).toArray⟩
/-- An element of a slice, marked from k on: what it becomes, and the next number. -/
def mkE : (s : Sh) → s.T → Int → s.T × Int
  | .int, _, k => (k, k + 1)
  | .flt, _, k => (FloatKind.f32.nearest k, k + 1)
  | .bool, _, k => (decide (k % 3 = 0), k + 1)
  | .str, _, k => (markStr k, k + 1)
  | .un, d, k => (d, k)
  | .sl e, l, k => carry (mkE e) l k
  | .pr a b, x, k => (((mkE a x.1 k).1, (mkE b x.2 (mkE a x.1 k).2).1), (mkE b x.2 (mkE a x.1 k).2).2)
/-- A value, marked: only what lies in slices. -/
def mkV : (s : Sh) → s.T → Int → s.T × Int
  | .sl e, l, k => carry (mkE e) l k
  | .pr a b, x, k => (((mkV a x.1 k).1, (mkV b x.2 (mkV a x.1 k).2).1), (mkV b x.2 (mkV a x.1 k).2).2)
  | _, d, k => (d, k)

/-- A struct's value is its cells; another one is one cell. -/
def Sh.agg : Sh → Bool
  | .pr _ _ => true
  | .un => true
  | _ => false
def ofCs (s : Sh) (cs : List Value) : Value := if s.agg then .agg cs.toArray else cs.headD undef
/-- No more than the harness lets through. -/
def most : Nat := 1048576

/-- A copy of its own is handed back. -/
def RetOwn (w : World) (s : Sh) (d : s.T) (e : Ending) (w' : World) : Prop :=
  ∃ cs bs, e = .returned (ofCs s cs) ∧ Own w' s cs d bs ∧ bs.Nodup ∧ (∀ b ∈ bs, w.heap.size ≤ b) ∧ Ext w w'
def RetTrue (w : World) (e : Ending) (w' : World) : Prop := e = .returned (.bool true) ∧ Ext w w'
/-- The value has been marked. -/
def Marked (w : World) (s : Sh) (cs : List Value) (d : s.T) (bs : List Nat) (k : Int) (e : Ending) (w' : World) : Prop :=
  e = .returned (.int .i64 (mkV s d k).2) ∧ Own w' s cs (mkV s d k).1 bs ∧ Chg (fun b => b ∈ bs) w w'
def Held (w : World) (s : Sh) (d : s.T) (k : Int) (e : Ending) (w' : World) : Prop := e = .returned (.int .i64 (mkV s d k).2) ∧ Ext w w'

def ToOk (f : Nat) (s : Sh) : Prop := ∀ (cs : List Value) (d : s.T) (w : World), Rep w s cs d → tot s d ≤ 1048576 → Calls Try.prog f #[ofCs s cs] w (RetOwn w s d)
def EqOk (f : Nat) (s : Sh) : Prop := ∀ (cs cs' : List Value) (d : s.T) (w : World), Rep w s cs d → Rep w s cs' d → tot s d ≤ 1048576 → Calls Try.prog f #[ofCs s cs, ofCs s cs'] w (RetTrue w)
def SzOk (f : Nat) (s : Sh) : Prop := ∀ (cs : List Value) (d : s.T) (left : Int) (w : World), Rep w s cs d → 0 ≤ left → left ≤ 1048576 → Calls Try.prog f #[ofCs s cs, .int .i64 left] w fun e w' => Left left (tot s d) e ∧ Ext w w'
def MarkOk (f : Nat) (s : Sh) : Prop := ∀ (cs : List Value) (d : s.T) (bs : List Nat) (k : Int) (w : World), Own w s cs d bs → bs.Nodup → 0 ≤ k → k + 64 * (tot s d : Int) ≤ 68719476736 → Calls Try.prog f #[ofCs s cs, .int .i64 k] w (Marked w s cs d bs k)
def HeldOk (f : Nat) (s : Sh) : Prop := ∀ (cs : List Value) (d : s.T) (k : Int) (w : World), Rep w s cs (mkV s d k).1 → 0 ≤ k → k + 64 * (tot s d : Int) ≤ 68719476736 → Calls Try.prog f #[ofCs s cs, .int .i64 k] w (Held w s d k)

theorem Own.keep {w : World} {s : Sh} {cs : List Value} {d : s.T} {bs : List Nat} (h : Own w s cs d bs) {B : Nat} (hb : ∀ b ∈ bs, B ≤ b) {a : Addr} (ha : a.block < B) (v : Value) : Own (w.setCell a v) s cs d bs :=
  h.chg (S := fun b => b = a.block) (show Chg _ w (w.setCell a v) from ⟨rfl, rfl, rfl, by simp [World.setCell], fun k hk hn => Below.heap_setCell _ _ _ _ hn⟩) (fun b hb' he => by have := hb b hb'; omega)
theorem Own.alloc {w : World} {s : Sh} {cs : List Value} {d : s.T} {bs : List Nat} (h : Own w s cs d bs) (o : Obj) : Own (w.alloc o) s cs d bs := h.ext (Ext.alloc w o)

theorem carry_flt (l : List Nat) : ∀ k, carry (mkE .flt) l k = (marksF k l.length, k + l.length) := by
  induction l with
  | nil => intro k; simp [carry, marksF]
  | cons x l ih =>
    intro k
    show (FloatKind.f32.nearest k :: (carry (mkE .flt) l (k + 1)).1, (carry (mkE .flt) l (k + 1)).2) = _
    rw [ih, List.length_cons]
    refine Prod.ext ?_ (by simp; omega)
    simp only [marksF, List.range_succ_eq_map, List.map_cons, List.map_map]
    congr 1
    · simp
    · apply List.map_congr_left; intro i _; simp; congr 1; omega
theorem rep_val {w : World} {e : Sh} {cs : List Value} {l : List e.T} (h : Rep w (.sl e) cs l) : ∃ p c, cs = [.slice p l.length c] ∧ l.length ≤ maxLen := by
  obtain ⟨p, c, _, h1, _, h3, h4, _⟩ := h; exact ⟨p, c, h1, Nat.le_trans h3 h4⟩

theorem tot_flts (xs : List Nat) : tot (.sl .flt) xs = xs.length := by
  have : ∀ l : List Nat, (l.map (tot .flt)).sum = 0 := fun l => by induction l with | nil => rfl | cons x l ih => simpa [tot] using ih
  show xs.length + (xs.map (tot .flt)).sum = _
  rw [this]; rfl

theorem toFloat32S_ok : ToOk 179 (.sl .flt) := by
  intro cs xs w h hn
  rw [tot_flts] at hn
  obtain ⟨p, c, vs, rfl, h2, h3, h4, h5⟩ := rep_flts.1 h
  refine (toFloat32S_any p _ c vs xs w rfl (by omega) h2 h3).mono ?_
  rintro e w' ⟨g, rfl, own, he⟩
  exact ⟨_, [g], rfl, own_flts.2 ⟨_, _, vs, rfl, ownRow_of own, h3, (own_cap own).1, (own_cap own).2, rfl⟩, by simp, by simpa using own_le own g rfl, he⟩
theorem eqFloat32S_ok : EqOk 180 (.sl .flt) := by
  intro cs cs' xs w hu hv hn
  rw [tot_flts] at hn
  obtain ⟨p, c, us, rfl, h2, h3, h4, h5⟩ := rep_flts.1 hu
  obtain ⟨q, d, vs, rfl, g2, g3, g4, g5⟩ := rep_flts.1 hv
  exact eqFloat32S_true p q _ c d us vs xs w rfl (by omega) h2 g2 h3 g3
theorem szFloat32S_ok : SzOk 176 (.sl .flt) := by
  intro cs xs left w h h0 h1
  obtain ⟨p, c, rfl, hl⟩ := rep_val h
  rw [tot_flts]
  exact szFloat32S_any p _ c left w hl h0 h1
theorem markFloat32S_ok : MarkOk 134 (.sl .flt) := by
  intro cs xs bs k w h _ hk0 hk
  rw [tot_flts] at hk
  obtain ⟨p, c, vs, rfl, h2, h3, h4, h5, rfl⟩ := own_flts.1 h
  refine (markFloat32S_own p _ c k vs w h3.1 (by omega) hk0 (by omega) h2).mono ?_
  rintro e w' ⟨rfl, own, hch⟩
  have hm : mkV (.sl .flt) xs k = (marksF k xs.length, k + xs.length) := carry_flt xs k
  refine ⟨by rw [hm], ?_, hch⟩
  rw [hm]
  exact own_flts.2 ⟨p, c, _, by rw [length_marksF], by rw [length_marksF]; exact own, markVs_flts k _, by rw [length_marksF]; exact h4, h5, rfl⟩
theorem heldFloat32S_ok : HeldOk 135 (.sl .flt) := by
  intro cs xs k w h hk0 hk
  rw [tot_flts] at hk
  have hm : mkV (.sl .flt) xs k = (marksF k xs.length, k + xs.length) := carry_flt xs k
  rw [hm] at h
  obtain ⟨p, c, vs, rfl, h2, h3, h4, h5⟩ := rep_flts.1 h
  rw [length_marksF]
  unfold Held
  rw [hm]
  exact heldFloat32S_any p _ c k vs w (by omega) hk0 (by omega) h2 h3

theorem Ext.cellOf {W w1 : World} (h : Ext W w1) {b : Nat} (hb : b < W.heap.size) : (∀ o, w1.cell? ⟨b, o, none⟩ = W.cell? ⟨b, o, none⟩) ∧ (∀ o, w1.frozen? ⟨b, o, none⟩ = W.frozen? ⟨b, o, none⟩) :=
  ⟨fun o => World.cell?_of_block (h.block b hb), fun o => World.frozen?_of_block (h.block b hb)⟩
theorem Chg.cellOf {S : Nat → Prop} {W w1 : World} (h : Chg S W w1) {b : Nat} (hb : b < W.heap.size) (hn : ¬ S b) : (∀ o, w1.cell? ⟨b, o, none⟩ = W.cell? ⟨b, o, none⟩) ∧ (∀ o, w1.frozen? ⟨b, o, none⟩ = W.frozen? ⟨b, o, none⟩) :=
  ⟨fun o => World.cell?_of_block (h.block b hb hn), fun o => World.frozen?_of_block (h.block b hb hn)⟩
theorem Chg.setCell {S : Nat → Prop} {w0 w : World} (h : Chg S w0 w) {p : Addr} (hp : S p.block) (u : Value) : Chg S w0 (w.setCell p u) :=
  h.trans ⟨rfl, rfl, rfl, by simp [World.setCell], fun k hk hn => Below.heap_setCell _ _ _ _ (fun he => hn (he ▸ hp))⟩
theorem Chg.alloc {S : Nat → Prop} {w0 w : World} (h : Chg S w0 w) (o : Obj) : Chg S w0 (w.alloc o) := h.trans (.of_ext (Ext.alloc w o))
theorem Chg.drew {S : Nat → Prop} {w0 w : World} (h : Chg S w0 w) : Chg S w0 w.drew := h.trans (.of_ext (Ext.drew w))
theorem nodup_app2 {a b : List Nat} (B : Nat) (h1 : a.Nodup) (h2 : b.Nodup) (l1 : ∀ x ∈ a, x < B) (l2 : ∀ x ∈ b, B ≤ x) : (a ++ b).Nodup := by
  rw [List.nodup_append]
  exact ⟨h1, h2, fun x hx y hy h => by have := l1 x hx; have := l2 y hy; omega⟩
end Go.Proofs.Ytlimabbeaimdgaa
/- More laws of the walk on memory: a part of a slice, a slice appended to a row of the call's own, text appended. -/
namespace Go.Proofs.Ytlimabbeaimdgaa
set_option linter.unusedSimpArgs false
set_option linter.unusedVariables false
open Go.RowKit

section
variable {P : Program} {w : World} {ops : Array Oper} {rest : List Oper} {o o1 o2 : Oper} {a : Act} {Q : Exit → Act → World → Prop}

/-- The address of a part of a slice. -/
def subp (p : Option Addr) (s l c : Nat) : Option Addr := if c = l then p else p.map (·.add (l * s))
theorem Cs.sub {w : World} {p : Option Addr} {vs : List Value} (h : Cs w p vs) {s l hi c : Nat} (h1 : l ≤ hi) (h2 : hi ≤ c) : Cs w (subp p s l c) ((vs.take (hi * s)).drop (l * s)) := by
  unfold subp
  by_cases hc : c = l
  · subst hc
    have : hi = c := by omega
    subst this
    rw [if_pos rfl, List.drop_eq_nil_of_le (by simp; omega)]
    exact Cs.nil w p
  · rw [if_neg hc]
    cases p with
    | none =>
      have : vs = [] := Classical.byContradiction fun hn => by have := h.isS hn; simp at this
      subst this
      simpa using Cs.nil w none
    | some a => exact (h.take _).drop _

theorem run_slice {t e s b : Nat} {z : Value} [T : SlTy P t e s z b] {p : Option Addr} {n c l hi : Nat} {k1 k2 : IntKind} (h1 : l ≤ hi) (h2 : hi ≤ c) :
    (Instr.sliceAt t (.slice p n c) (some (.int k1 (l : Int))) (some (.int k2 (hi : Int))) none).run P w = .ok (.slice (subp p s l c) (hi - l) (c - l)) w := by
  obtain ⟨ti, hi', hzz⟩ := Option.map_eq_some_iff.1 T.inf
  simp only [Prod.mk.injEq] at hzz
  have hu := T.und
  simp [Instr.sliceAt, Instr.slice, Instr.sliceBounds, Instr.sliceBound, asIntOf, run_underlying hu, sizeOf, typeInfo, hi', hzz.2.1, subp, h1, h2]
theorem run_sliceTo {t e s b : Nat} {z : Value} [T : SlTy P t e s z b] {p : Option Addr} {n c hi : Nat} {k2 : IntKind} (h2 : hi ≤ c) :
    (Instr.sliceAt t (.slice p n c) none (some (.int k2 (hi : Int))) none).run P w = .ok (.slice (subp p s 0 c) (hi - 0) (c - 0)) w := by
  obtain ⟨ti, hi', hzz⟩ := Option.map_eq_some_iff.1 T.inf
  simp only [Prod.mk.injEq] at hzz
  have hu := T.und
  simp [Instr.sliceAt, Instr.slice, Instr.sliceBounds, Instr.sliceBound, asIntOf, run_underlying hu, sizeOf, typeInfo, hi', hzz.2.1, subp, h2]
theorem run_sliceFrom {t e s b : Nat} {z : Value} [T : SlTy P t e s z b] {p : Option Addr} {n c l : Nat} {k2 : IntKind} (h1 : l ≤ n) (h2 : n ≤ c) :
    (Instr.sliceAt t (.slice p n c) (some (.int k2 (l : Int))) none none).run P w = .ok (.slice (subp p s l c) (n - l) (c - l)) w := by
  obtain ⟨ti, hi', hzz⟩ := Option.map_eq_some_iff.1 T.inf
  simp only [Prod.mk.injEq] at hzz
  have hu := T.und
  simp [Instr.sliceAt, Instr.slice, Instr.sliceBounds, Instr.sliceBound, asIntOf, run_underlying hu, sizeOf, typeInfo, hi', hzz.2.1, subp, h1, h2]

/-- 'xs[l:hi]'. -/
theorem wl_slice {t e s b : Nat} {z : Value} [T : SlTy P t e s z b] {x lo hi : Operand} (hg : o.guard = none) (ho : o.op = .slice t x (some lo) (some hi) none) {p : Option Addr} {n c : Nat} {k1 k2 : IntKind} {li ui : Int} {l u : Nat}
    (hx : a.eval x = .slice p n c) (hlo : a.eval lo = .int k1 li) (hhi : a.eval hi = .int k2 ui) (h1 : li = l) (h2 : ui = u) (h3 : l ≤ u) (h4 : u ≤ c)
    (h : wpList P ops Q rest (a.put o.dst (.slice (subp p s l c) (u - l) (c - l))) w) : wpList P ops Q (o :: rest) a w := by
  subst h1; subst h2
  exact wl_value hg (by simp [execOp, ho, hx, hlo, hhi, run_slice h3 h4]) h
/-- 'xs[:hi]'. -/
theorem wl_sliceTo {t e s b : Nat} {z : Value} [T : SlTy P t e s z b] {x hi : Operand} (hg : o.guard = none) (ho : o.op = .slice t x none (some hi) none) {p : Option Addr} {n c : Nat} {k2 : IntKind} {ui : Int} {u : Nat}
    (hx : a.eval x = .slice p n c) (hhi : a.eval hi = .int k2 ui) (h2 : ui = u) (h4 : u ≤ c)
    (h : wpList P ops Q rest (a.put o.dst (.slice (subp p s 0 c) (u - 0) (c - 0))) w) : wpList P ops Q (o :: rest) a w := by
  subst h2
  exact wl_value hg (by simp [execOp, ho, hx, hhi, run_sliceTo h4]) h
/-- 'xs[l:]'. -/
theorem wl_sliceFrom {t e s b : Nat} {z : Value} [T : SlTy P t e s z b] {x lo : Operand} (hg : o.guard = none) (ho : o.op = .slice t x (some lo) none none) {p : Option Addr} {n c : Nat} {k1 : IntKind} {li : Int} {l : Nat}
    (hx : a.eval x = .slice p n c) (hlo : a.eval lo = .int k1 li) (h1 : li = l) (h3 : l ≤ n) (h4 : n ≤ c)
    (h : wpList P ops Q rest (a.put o.dst (.slice (subp p s l c) (n - l) (c - l))) w) : wpList P ops Q (o :: rest) a w := by
  subst h1
  exact wl_value hg (by simp [execOp, ho, hx, hlo, run_sliceFrom h3 h4]) h

/-- 'append(xs, ys...)' onto a row of the call's own. -/
theorem wl_appn {t e s b : Nat} {z : Value} [T : SlTy P t e s z b] {x1 x2 : Operand} {v : Value} {B n m c : Nat} {vs us : List Value} {p : Option Addr}
    (hg : o.guard = none) (ho : o.op = .call { callee := .builtin .append, args := #[x1, x2], argTypes := #[t, t] })
    (hx1 : a.eval x1 = v) (hx2 : a.eval x2 = .slice p m c) (how : w.ownsRow B e s v n vs) (hc : Cs w p us) (hm : us.length = m * s) (hmc : m ≤ c) (h1 : ∀ u ∈ us, u.oneCell' = true) (hp : p = none → c = 0)
    (hn : n + m ≤ maxLen) (hb : (n + m) * b ≤ 140737488355328) (hB : B ≤ w.heap.size)
    (h : ∀ v' w', w'.ownsRow B e s v' (n + m) (vs ++ us) → w.grownBy w' v.ownBlock → wpList P ops Q rest (a.put o.dst v') w') : wpList P ops Q (o :: rest) a w := by
  obtain ⟨ti, hi, hzz⟩ := Option.map_eq_some_iff.1 T.inf
  simp only [Prod.mk.injEq] at hzz
  cases p with
  | some ad =>
    exact wpList_append_own _ hg x1 x2 t ho B e ti z s b T.und hi hzz.1 hzz.2.1 hzz.2.2 T.zs T.pos v n vs hx1 how ad m c us hx2 hm (fun j u hj => hc.cell j u hj) h1 hn hb hB (fun v' w' h1 h2 _ => h v' w' h1 h2)
  | none =>
    have hus : us = [] := Classical.byContradiction fun hn => by have := hc.isS hn; simp at this
    obtain rfl := hp rfl
    obtain rfl : m = 0 := by omega
    subst hus
    refine wpList_plain hg fun K hK' => ?_
    have hrun := run_append_owned_none (P := P) w B t o.type e ti s T.und hi v n vs how
    unfold Oper.wp
    simp [execOp, ho, resolve, invoke, builtin, hx1, hx2, hrun, Result.andThen]
    exact hK' _ _ (h v w (by simpa using how) (World.grownBy.refl _ _))
@[go_sem] theorem run_eql_nil {t e s b : Nat} {z : Value} [T : SlTy P t e s z b] (p : Option Addr) (n c : Nat) : (binOp .eql t (.slice p n c) (.slice none 0 0)).run P w = .ok (.bool p.isNone) w :=
  Lib.run_eql_slice_nil w t e p n c 0 0 T.und
end
end Go.Proofs.Ytlimabbeaimdgaa
/- 'append(xs, ys...)' onto a row of the call's own, whatever is appended. -/
namespace Go.Proofs.Ytlimabbeaimdgaa
set_option linter.unusedSimpArgs false
set_option linter.unusedVariables false
open Go.RowKit

section
variable {P : Program} {w : World} {ops : Array Oper} {rest : List Oper} {o : Oper} {a : Act} {Q : Exit → Act → World → Prop}
theorem run_append_none (base : Nat) (t ty e : TypeId) (i : TypeInfo) (size : Nat) (ht : P.underlying t = some (.slice e)) (hi : P.info? e = some i)
    (v : Value) (n c : Nat) (xs : List Value) (hown : w.ownsRow base e size v n xs) :
    (Builtin.append_ #[t, t] ty #[v, .slice none 0 c]).run P w = .ok v w := by
  rcases hown.2 with ⟨rfl, rfl⟩ | ⟨g, cap, cur, rfl, _, _, hnc, _⟩
  · simp [Builtin.append_, run_underlying ht, sizeOf, typeInfo, hi, Builtin.lenOf, Builtin.firstCells]
  · simp [Builtin.append_, run_underlying ht, sizeOf, typeInfo, hi, Builtin.lenOf, Builtin.firstCells, hnc, storeCells]
theorem wl_appz {t e s b : Nat} {z : Value} [T : SlTy P t e s z b] {x1 x2 : Operand} {v : Value} {B n m c : Nat} {vs us : List Value} {p : Option Addr}
    (hg : o.guard = none) (ho : o.op = .call { callee := .builtin .append, args := #[x1, x2], argTypes := #[t, t] })
    (hx1 : a.eval x1 = v) (hx2 : a.eval x2 = .slice p m c) (how : w.ownsRow B e s v n vs) (hc : Cs w p us) (hm : us.length = m * s) (hmc : m ≤ c) (h1 : ∀ u ∈ us, u.oneCell' = true)
    (hn : n + m ≤ maxLen) (hb : (n + m) * b ≤ 140737488355328) (hB : B ≤ w.heap.size)
    (h : ∀ v' w', w'.ownsRow B e s v' (n + m) (vs ++ us) → w.grownBy w' v.ownBlock → wpList P ops Q rest (a.put o.dst v') w') : wpList P ops Q (o :: rest) a w := by
  obtain ⟨ti, hi, hzz⟩ := Option.map_eq_some_iff.1 T.inf
  simp only [Prod.mk.injEq] at hzz
  cases p with
  | some ad =>
    exact wpList_append_own _ hg x1 x2 t ho B e ti z s b T.und hi hzz.1 hzz.2.1 hzz.2.2 T.zs T.pos v n vs hx1 how ad m c us hx2 hm (fun j u hj => hc.cell j u hj) h1 hn hb hB (fun v' w' h1 h2 _ => h v' w' h1 h2)
  | none =>
    have hus : us = [] := Classical.byContradiction fun hn => by have := hc.isS hn; simp at this
    subst hus
    have hm0 : m = 0 := by
      rcases Nat.eq_zero_or_pos m with h | h
      · exact h
      · have := Nat.mul_pos h T.pos; simp at hm; omega
    subst hm0
    refine wpList_plain hg fun K hK' => ?_
    have hrun := run_append_none (P := P) B t o.type e ti s T.und hi v n c vs how
    unfold Oper.wp
    simp [execOp, ho, resolve, invoke, builtin, hx1, hx2, hrun, Result.andThen]
    exact hK' _ _ (h v w (by simpa using how) (World.grownBy.refl _ _))
end
end Go.Proofs.Ytlimabbeaimdgaa
/- Elements of slices, of one cell or more: read, written, and the cells of all of them. -/
namespace Go.Proofs.Ytlimabbeaimdgaa
set_option linter.unusedSimpArgs false
set_option linter.unusedVariables false
open Go.RowKit

/-- A type whose values have a shape. -/
class ElTy (P : Program) (t : TypeId) (s : Sh) : Prop where
  und : (P.underlying t).map notAgg = some (!s.agg)
  inf : (P.info? t).map (fun i => i.size) = some s.sz

theorem Rep.one {w : World} : ∀ {s : Sh} {cs : List Value} {d : s.T}, Rep w s cs d → ∀ u ∈ cs, u.oneCell' = true
  | .int, _, _, r, u, hu => by cases r; simp at hu; subst hu; rfl
  | .flt, _, _, ⟨b, r, _⟩, u, hu => by cases r; simp at hu; subst hu; rfl
  | .bool, _, _, r, u, hu => by cases r; simp at hu; subst hu; rfl
  | .str, _, _, r, u, hu => by cases r; simp at hu; subst hu; rfl
  | .un, _, _, r, u, hu => by cases r; simp at hu
  | .sl e, _, _, ⟨p, c, css, r, _⟩, u, hu => by cases r; simp at hu; subst hu; rfl
  | .pr a b, _, _, ⟨ca, cb, r, h1, h2⟩, u, hu => by
    subst r
    rcases List.mem_append.1 hu with hu | hu
    · exact h1.one u hu
    · exact h2.one u hu
theorem Rep.single {w : World} : ∀ {s : Sh} {cs : List Value} {d : s.T}, s.agg = false → Rep w s cs d → ∃ v, cs = [v]
  | .int, _, _, _, r => ⟨_, r⟩
  | .flt, _, _, _, ⟨b, r, _⟩ => ⟨_, r⟩
  | .bool, _, _, _, r => ⟨_, r⟩
  | .str, _, _, _, r => ⟨_, r⟩
  | .sl e, _, _, _, ⟨p, c, css, r, _⟩ => ⟨_, r⟩
  | .un, _, _, h, _ => by simp [Sh.agg] at h
  | .pr a b, _, _, h, _ => by simp [Sh.agg] at h

section
variable {P : Program} {w : World} {ops : Array Oper} {rest : List Oper} {o o1 o2 o3 : Oper} {a : Act} {Q : Exit → Act → World → Prop}

theorem single_of {s : Sh} (hs : s.agg = false) {cs : List Value} (hl : cs.length = s.sz) : ∃ v, cs = [v] := by
  cases s <;> first | (simp [Sh.agg] at hs; done) | (match cs, hl with | [v], _ => exact ⟨v, rfl⟩)
theorem run_loadE {t : TypeId} {s : Sh} [T : ElTy P t s] {q : Addr} {cs : List Value} (hc : Cs w (some q) cs) (hl : cs.length = s.sz) : (Instr.loadAt t (.pointer (some q))).run P w = .ok (ofCs s cs) w := by
  obtain ⟨d, hd, hk⟩ := Option.map_eq_some_iff.1 T.und
  obtain ⟨i, hi, hz⟩ := Option.map_eq_some_iff.1 T.inf
  by_cases hs : s.agg = true
  · rw [hs] at hk
    have hld : (loadCells q s.sz).run P w = .ok cs.toArray w := by
      rw [← hl]
      exact run_loadCells_list w q cs (fun j v hv => by have := hc.cell j v hv; rwa [adr_some] at this)
    cases d <;> first | (cases hk; done) | simp [Instr.loadAt, Instr.sureAddr, loadVar, isAgg, run_underlying hd, sizeOf, typeInfo, hi, hz, hld, ofCs, hs]
  · have hs' : s.agg = false := by simpa using hs
    rw [hs'] at hk
    obtain ⟨v, rfl⟩ := single_of hs' hl
    have h0 : w.cell? q = some v := by have := hc.cell 0 v rfl; rwa [adr_some, show q.add 0 = q by simp [Addr.add]] at this
    cases d <;> first | (cases hk; done) | simp [Instr.loadAt, Instr.sureAddr, loadVar, isAgg, run_underlying hd, load, Sem.run, h0, ofCs, hs']

theorem ofCs_cells {s : Sh} {cs : List Value} (hl : cs.length = s.sz) (h1 : ∀ u ∈ cs, u.oneCell' = true) : (ofCs s cs).cells = cs.toArray := by
  unfold ofCs
  by_cases hs : s.agg = true
  · rw [if_pos hs]; rfl
  · have hs' : s.agg = false := by simpa using hs
    obtain ⟨v, rfl⟩ := single_of hs' hl
    rw [if_neg hs]
    have := h1 v (by simp)
    cases v <;> first | rfl | (simp [Value.oneCell'] at this)

/-- The cells from j on are others. -/
def splice (vs : List Value) (j : Nat) (cs : List Value) : List Value := vs.take j ++ cs ++ vs.drop (j + cs.length)
theorem length_splice {vs : List Value} {j : Nat} {cs : List Value} (h : j + cs.length ≤ vs.length) : (splice vs j cs).length = vs.length := by
  simp [splice]; omega
theorem OwnRow.splice {p : Option Addr} {n c : Nat} {vs : List Value} (h : OwnRow w p n c vs) (j : Nat) (cs : List Value) (hj : j + cs.length ≤ vs.length) (h1 : ∀ u ∈ cs, u.oneCell' = true) (hp : 0 < vs.length) :
    ∃ g, p = some ⟨g, 0, none⟩ ∧ (storeCells (adr p j) cs).run P w = .ok () (w.setCells g j cs) ∧ OwnRow (w.setCells g j cs) p n c (splice vs j cs) ∧ Chg (fun b => b ∈ blocksOf p) w (w.setCells g j cs) := by
  rcases h with ⟨_, _, _, rfl⟩ | ⟨g, cur, e, rfl, hg, ht⟩
  · simp at hp
  · have hsz : vs.length ≤ cur.size := by
      have : (cur.toList.take vs.length).length = vs.length := by rw [ht]
      rw [List.length_take] at this; simp at this; omega
    have hcell : ∀ k, k < cs.length → (w.cell? ⟨g, j + 0 + k, none⟩).isSome = true := fun k hk => by
      simp [World.cell?, hg, show j + k < cur.size by omega]
    have hfr : ∀ k, k < cs.length → w.frozen? ⟨g, j + 0 + k, none⟩ = false := fun k hk => by simp [World.frozen?, hg]
    have hrun := run_storeCells_cells (P := P) g j cs 0 w hcell hfr h1
    obtain ⟨hheap, hch⟩ := big cs j w cur e hg (by omega)
    refine ⟨g, rfl, ?_, .inr ⟨g, _, e, rfl, hheap, ?_⟩, hch⟩
    · rw [adr_row]; exact hrun
    · rw [length_splice hj]
      generalize hN : vs.length = N at *
      generalize hm : cs.length = m at *
      have hlj : (cur.toList.take j).length = j := by rw [List.length_take]; simp; omega
      have e1 : ((cur.toList.take j ++ cs ++ cur.toList.drop (j + m))).take N = cur.toList.take j ++ cs ++ (cur.toList.drop (j + m)).take (N - (j + m)) := by
        rw [List.take_append, List.take_of_length_le (by rw [List.length_append, hlj, hm]; omega), List.length_append, hlj, hm]
      show (cur.toList.take j ++ cs ++ cur.toList.drop (j + m)).take N = vs.take j ++ cs ++ vs.drop (j + cs.length)
      rw [e1, hm, ← ht, List.take_take, List.drop_take, show min j N = j by omega]
where
  big : ∀ (cs : List Value) (j : Nat) (w : World) (cur : Array Value) (e : TypeId) {g : Nat}, w.heap[g]? = some (.cells cur e (0, 0)) → j + cs.length ≤ cur.size →
      (w.setCells g j cs).heap[g]? = some (.cells (cur.toList.take j ++ cs ++ cur.toList.drop (j + cs.length)).toArray e (0, 0)) ∧ Chg (fun b => b ∈ blocksOf (some ⟨g, 0, none⟩)) w (w.setCells g j cs)
    | [], j, w, cur, e, g, hg, hj => ⟨by simp [World.setCells, hg], Chg.refl _ _⟩
    | v :: cs, j, w, cur, e, g, hg, hj => by
      have h1 : (w.setCell ⟨g, j, none⟩ v).heap[g]? = some (.cells (cur.setIfInBounds j v) e (0, 0)) := by simp [World.setCell, Array.getElem?_modify, hg]
      simp only [List.length_cons] at hj
      obtain ⟨h2, h3⟩ := big cs (j + 1) _ _ e h1 (by simp; omega)
      refine ⟨?_, Chg.trans (b := w.setCell ⟨g, j, none⟩ v) ⟨rfl, rfl, rfl, by simp [World.setCell], fun k hk hn => Below.heap_setCell _ _ _ _ (fun h => hn (by simp [blocksOf, h]))⟩ h3⟩
      simp only [World.setCells]
      rw [h2]
      congr 3
      rw [Array.toList_setIfInBounds]
      have hl : j < cur.toList.length := by simp; omega
      simp only [List.length_cons]
      rw [List.take_add_one, List.take_set_of_le (by omega), List.getElem?_set_self hl, List.drop_set_of_lt (by omega)]
      simp [Nat.add_assoc, Nat.add_comm 1]

/-! ### Elements in a row -/
theorem flat_len : ∀ {css : List (List Value)} {s : Nat}, (∀ c ∈ css, c.length = s) → css.flatten.length = css.length * s
  | [], s, _ => by simp
  | c :: css, s, h => by
    rw [List.flatten_cons, List.length_append, flat_len (fun c hc => h c (by simp [hc])), h c (by simp), List.length_cons, Nat.add_mul, Nat.one_mul, Nat.add_comm]
theorem flat_parts : ∀ {css : List (List Value)} {s i : Nat}, (∀ c ∈ css, c.length = s) → (hi : i < css.length) → css.flatten = (css.take i).flatten ++ css[i] ++ (css.drop (i + 1)).flatten ∧ (css.take i).flatten.length = i * s
  | [], s, i, _, hi => by simp at hi
  | c :: css, s, 0, h, hi => by simp
  | c :: css, s, i + 1, h, hi => by
    obtain ⟨h1, h2⟩ := flat_parts (css := css) (s := s) (i := i) (fun c hc => h c (by simp [hc])) (by simpa using hi)
    refine ⟨?_, ?_⟩
    · have hi' : i < css.length := by simpa using hi
      simp only [List.flatten_cons, List.take_succ_cons, List.getElem_cons_succ, List.drop_succ_cons]
      conv => lhs; rw [h1]
      simp only [List.append_assoc]
    · rw [List.take_succ_cons, List.flatten_cons, List.length_append, h2, h c (by simp), Nat.add_mul, Nat.one_mul, Nat.add_comm]
theorem flat_get {css : List (List Value)} {s i j : Nat} (h : ∀ c ∈ css, c.length = s) (hi : i < css.length) (hj : j < s) : css.flatten[i * s + j]? = css[i][j]? := by
  obtain ⟨h1, h2⟩ := flat_parts h hi
  have h3 : css[i].length = s := h _ (List.getElem_mem hi)
  rw [h1, List.append_assoc, List.getElem?_append_right (by omega), h2, Nat.add_sub_cancel_left, List.getElem?_append_left (by omega)]
theorem flat_splice {css : List (List Value)} {s i : Nat} {cs : List Value} (h : ∀ c ∈ css, c.length = s) (hi : i < css.length) (hc : cs.length = s) : splice css.flatten (i * s) cs = (css.set i cs).flatten := by
  obtain ⟨h1, h2⟩ := flat_parts h hi
  have h3 : css[i].length = s := h _ (List.getElem_mem hi)
  unfold splice
  rw [List.set_eq_take_append_cons_drop, if_pos hi, List.flatten_append, List.flatten_cons, h1, hc]
  have e1 : ((css.take i).flatten ++ css[i] ++ (css.drop (i + 1)).flatten).take (i * s) = (css.take i).flatten := by
    rw [List.append_assoc, ← h2, List.take_left]
  have e2 : ((css.take i).flatten ++ css[i] ++ (css.drop (i + 1)).flatten).drop (i * s + s) = (css.drop (i + 1)).flatten := by
    have : ((css.take i).flatten ++ css[i]).length = i * s + s := by rw [List.length_append, h2, h3]
    rw [← this, List.drop_left]
  rw [e1, e2, List.append_assoc]
theorem flat_set {css : List (List Value)} {s i f : Nat} {u : Value} (h : ∀ c ∈ css, c.length = s) (hi : i < css.length) (hf : f < s) : css.flatten.set (i * s + f) u = (css.set i (css[i].set f u)).flatten := by
  obtain ⟨h1, h2⟩ := flat_parts h hi
  have h3 : css[i].length = s := h _ (List.getElem_mem hi)
  rw [List.set_eq_take_append_cons_drop (l := css), if_pos hi, List.flatten_append, List.flatten_cons, h1, List.append_assoc, List.set_append_right _ _ (by omega), h2, Nat.add_sub_cancel_left, List.set_append_left _ _ (by omega)]
theorem all_set {css : List (List Value)} {s i : Nat} {cs : List Value} (h : ∀ c ∈ css, c.length = s) (hc : cs.length = s) : ∀ c ∈ css.set i cs, c.length = s := by
  intro c hm
  rcases List.mem_or_eq_of_mem_set hm with h1 | rfl
  · exact h c h1
  · exact hc
theorem Cs.elem {w : World} {p : Option Addr} {css : List (List Value)} {s i : Nat} (hc : Cs w p css.flatten) (h : ∀ c ∈ css, c.length = s) (hi : i < css.length) : Cs w (some (adr p (i * s))) css[i] := by
  refine ⟨fun j u hu => ?_, fun _ => rfl⟩
  have hj : j < s := by have := (List.getElem?_eq_some_iff.1 hu).1; rwa [h _ (List.getElem_mem hi)] at this
  rw [adr_some]
  have h1 := hc.cell (i * s + j) u (by rw [flat_get h hi hj]; exact hu)
  unfold adr at h1 ⊢
  rw [add_add]; exact h1

/-- 'xs[i]' of elements, read. -/
theorem wl_idxloadE {t e b : Nat} {z : Value} {s : Sh} [SlTy P t e s.sz z b] [ElTy P e s] {x ix : Operand} {d : Tmp} (hg1 : o1.guard = none) (ho1 : o1.op = .indexAddr t x ix) (hg2 : o2.guard = none) (ho2 : o2.op = .load e (.tmp d))
    {p : Option Addr} {n c : Nat} {k : IntKind} {i : Int} {j : Nat} (hd : ∀ y, (a.put o1.dst y).eval (.tmp d) = y)
    (hx : a.eval x = .slice p n c) (hi : a.eval ix = .int k i) (hij : i = j) {css : List (List Value)} (hc : Cs w p css.flatten) (hall : ∀ c ∈ css, c.length = s.sz) (hvn : css.length = n) (hn : j < n) (hp : p.isSome = true) {cs : List Value} (hcs : css[j]? = some cs)
    (h : wpList P ops Q rest ((a.put o1.dst (.pointer (some (adr p (j * s.sz))))).put o2.dst (ofCs s cs)) w) : wpList P ops Q (o1 :: o2 :: rest) a w := by
  subst hij
  refine wl_idx hg1 ho1 hx hi hp (by omega) (by omega) ?_
  rw [Int.toNat_natCast]
  have hj : j < css.length := by omega
  have hce := hc.elem hall hj
  obtain ⟨_, rfl⟩ := List.getElem?_eq_some_iff.1 hcs
  exact wl_value hg2 (by simp [execOp, ho2, hd, run_loadE (P := P) (t := e) (s := s) hce (hall _ (List.getElem_mem hj))]) h
/-- 'xs[i].f' is read. -/
theorem wl_ldField {t e b : Nat} {z : Value} {s : Nat} {tf : TypeId} [SlTy P t e s z b] [Cell1 P tf] {x ix : Operand} {d d' : Tmp} {f off : Nat} (hg1 : o1.guard = none) (ho1 : o1.op = .indexAddr t x ix) (hg2 : o2.guard = none) (ho2 : o2.op = .fieldAddr e (.tmp d) f) (hg3 : o3.guard = none) (ho3 : o3.op = .load tf (.tmp d'))
    {p : Option Addr} {n c : Nat} {k : IntKind} {i : Int} {j : Nat} (hd : ∀ y, (a.put o1.dst y).eval (.tmp d) = y) (hd' : ∀ y u, ((a.put o1.dst y).put o2.dst u).eval (.tmp d') = u)
    (hfo : ∀ (q : Addr) (w : World), (Instr.fieldAt e (.pointer (some q)) f).run P w = .ok (.pointer (some (q.add off))) w)
    (hx : a.eval x = .slice p n c) (hi : a.eval ix = .int k i) (hij : i = j) {css : List (List Value)} (hc : Cs w p css.flatten) (hall : ∀ c ∈ css, c.length = s) (hvn : css.length = n) (hn : j < n) (hp : p.isSome = true) {cs : List Value} (hcs : css[j]? = some cs) {u : Value} (hu : cs[off]? = some u)
    (h : wpList P ops Q rest (((a.put o1.dst (.pointer (some (adr p (j * s))))).put o2.dst (.pointer (some (adr p (j * s + off))))).put o3.dst u) w) : wpList P ops Q (o1 :: o2 :: o3 :: rest) a w := by
  subst hij
  refine wl_idx hg1 ho1 hx hi hp (by omega) (by omega) ?_
  rw [Int.toNat_natCast]
  have hj : j < css.length := by omega
  obtain ⟨_, rfl⟩ := List.getElem?_eq_some_iff.1 hcs
  have hadd : (adr p (j * s)).add off = adr p (j * s + off) := by unfold adr; rw [add_add]
  refine wl_value hg2 (w' := w) (v := .pointer (some (adr p (j * s + off)))) (by simp [execOp, ho2, hd, hfo, hadd]) ?_
  have hoff : off < s := by have := (List.getElem?_eq_some_iff.1 hu).1; rwa [hall _ (List.getElem_mem hj)] at this
  have hcell : w.cell? (adr p (j * s + off)) = some u := hc.cell _ _ (by rw [flat_get hall hj hoff]; exact hu)
  exact wl_value hg3 (by simp [execOp, ho3, hd', run_load1 hcell]) h
/-- 'xs[i].f = u' into a row of the call's own. -/
theorem wl_stField {t e b : Nat} {z : Value} {s : Nat} {tf : TypeId} [SlTy P t e s z b] [Cell1 P tf] {x ix y : Operand} {d d' : Tmp} {f off : Nat} (hg1 : o1.guard = none) (ho1 : o1.op = .indexAddr t x ix) (hg2 : o2.guard = none) (ho2 : o2.op = .fieldAddr e (.tmp d) f) (hg3 : o3.guard = none) (ho3 : o3.op = .store tf (.tmp d') y)
    {p : Option Addr} {n c : Nat} {k : IntKind} {i : Int} {j : Nat} (hd : ∀ y, (a.put o1.dst y).eval (.tmp d) = y) (hd' : ∀ y u, ((a.put o1.dst y).put o2.dst u).eval (.tmp d') = u)
    (hfo : ∀ (q : Addr) (w : World), (Instr.fieldAt e (.pointer (some q)) f).run P w = .ok (.pointer (some (q.add off))) w)
    (hx : a.eval x = .slice p n c) (hi : a.eval ix = .int k i) (hij : i = j) {u : Value} (hy : ∀ q q', ((a.put o1.dst q).put o2.dst q').eval y = u) (hu1 : u.oneCell' = true) {css : List (List Value)} (hc : OwnRow w p n c css.flatten) (hall : ∀ c ∈ css, c.length = s) (hvn : css.length = n) (hn : j < n) (hoff : off < s) {cs : List Value} (hcs : css[j]? = some cs)
    (h : ∀ w', OwnRow w' p n c (css.set j (cs.set off u)).flatten → Chg (fun b => b ∈ blocksOf p) w w' → wpList P ops Q rest (((a.put o1.dst (.pointer (some (adr p (j * s))))).put o2.dst (.pointer (some (adr p (j * s + off))))).put o3.dst undef) w') : wpList P ops Q (o1 :: o2 :: o3 :: rest) a w := by
  subst hij
  have hj : j < css.length := by omega
  have hlen := flat_len hall
  have hlt : j * s + off < css.flatten.length := by
    rw [hlen]
    have : (j + 1) * s ≤ css.length * s := Nat.mul_le_mul_right s hj
    rw [Nat.add_mul] at this; omega
  have hp : p.isSome = true := hc.cs.isS (by intro h0; rw [h0] at hlt; simp at hlt)
  refine wl_idx hg1 ho1 hx hi hp (by omega) (by omega) ?_
  rw [Int.toNat_natCast]
  obtain ⟨_, rfl⟩ := List.getElem?_eq_some_iff.1 hcs
  have hadd : (adr p (j * s)).add off = adr p (j * s + off) := by unfold adr; rw [add_add]
  refine wl_value hg2 (w' := w) (v := .pointer (some (adr p (j * s + off)))) (by simp [execOp, ho2, hd, hfo, hadd]) ?_
  obtain ⟨h1, h2, h3, v, h4⟩ := hc.set (j * s + off) hlt u
  rw [flat_set hall hj hoff] at h1
  exact wl_skip hg3 (by simp [execOp, ho3, hd', hy, run_store1 h4 h3 hu1]) (h _ h1 h2)
/-- 'xs[i] = u' of elements into a row of the call's own. -/
theorem run_storeE {t : TypeId} {s : Sh} [T : ElTy P t s] {p : Option Addr} {n c j : Nat} {css : List (List Value)} {cs : List Value} (hc : OwnRow w p n c css.flatten) (hall : ∀ c ∈ css, c.length = s.sz) (hj : j < css.length) (hl : cs.length = s.sz) (hs : 0 < s.sz) (h1 : ∀ u ∈ cs, u.oneCell' = true) :
    ∃ w', (Instr.storeAt t (.pointer (some (adr p (j * s.sz)))) (ofCs s cs)).run P w = .ok () w' ∧ OwnRow w' p n c (css.set j cs).flatten ∧ Chg (fun b => b ∈ blocksOf p) w w' := by
  have hlen := flat_len hall
  have hlt : j * s.sz + cs.length ≤ css.flatten.length := by
    rw [hlen, hl]
    have : (j + 1) * s.sz ≤ css.length * s.sz := Nat.mul_le_mul_right s.sz hj
    rw [Nat.add_mul] at this; omega
  obtain ⟨g, rfl, h2, h3, h4⟩ := hc.splice (P := P) (j * s.sz) cs hlt h1 (by omega)
  rw [flat_splice hall hj hl] at h3
  obtain ⟨i, hi, hz⟩ := Option.map_eq_some_iff.1 T.inf
  have hcells := ofCs_cells hl h1
  refine ⟨_, ?_, h3, h4⟩
  simp [Instr.storeAt, Instr.sureAddr, storeVar, sizeOf, typeInfo, hi, hz, hcells, hl, h2]
theorem wl_idxE {t e b : Nat} {z : Value} {s : Nat} [SlTy P t e s z b] {x ix : Operand} (hg : o.guard = none) (ho : o.op = .indexAddr t x ix) {p : Option Addr} {n c : Nat} {k : IntKind} {i : Int} {j : Nat}
    (hx : a.eval x = .slice p n c) (hi : a.eval ix = .int k i) (hij : i = j) (hp : p.isSome = true) (hn : j < n)
    (h : wpList P ops Q rest (a.put o.dst (.pointer (some (adr p (j * s))))) w) : wpList P ops Q (o :: rest) a w := by
  subst hij
  exact wl_idx hg ho hx hi hp (by omega) (by omega) (by rw [Int.toNat_natCast]; exact h)
theorem wl_storeE {t : TypeId} {s : Sh} [T : ElTy P t s] {x y : Operand} (hg : o.guard = none) (ho : o.op = .store t x y) {p : Option Addr} {n c j : Nat} {css : List (List Value)} {cs : List Value}
    (hx : a.eval x = .pointer (some (adr p (j * s.sz)))) (hy : a.eval y = ofCs s cs) (hc : OwnRow w p n c css.flatten) (hall : ∀ c ∈ css, c.length = s.sz) (hj : j < css.length) (hl : cs.length = s.sz) (hs : 0 < s.sz) (h1 : ∀ u ∈ cs, u.oneCell' = true)
    (h : ∀ w', OwnRow w' p n c (css.set j cs).flatten → Chg (fun b => b ∈ blocksOf p) w w' → wpList P ops Q rest (a.put o.dst undef) w') : wpList P ops Q (o :: rest) a w := by
  obtain ⟨w', h2, h3, h4⟩ := run_storeE (P := P) (t := t) hc hall hj hl hs h1
  exact wl_skip hg (by simp [execOp, ho, hx, hy, h2]) (h w' h3 h4)
end

section
variable {P : Program} {w wf : World} {ops : Array Oper} {rest : List Oper} {o o1 o2 : Oper} {a : Act} {Q : Act → Prop} {F : Option Tmp → World → World → Value → Prop}
theorem x_idxloadE {t e b : Nat} {z : Value} {s : Sh} [SlTy P t e s.sz z b] [ElTy P e s] {x ix : Operand} {d : Tmp} (hw1 : Region.wanted o1 (yielded ops a.tmps) = true) (ho1 : o1.op = .indexAddr t x ix) (hw2 : ∀ y, Region.wanted o2 (yielded ops (a.put o1.dst y).tmps) = true) (ho2 : o2.op = .load e (.tmp d))
    {p : Option Addr} {n c : Nat} {k : IntKind} {i : Int} {j : Nat} (hd : ∀ y, (a.put o1.dst y).eval (.tmp d) = y)
    (hx : a.eval x = .slice p n c) (hi : a.eval ix = .int k i) (hij : i = j) {css : List (List Value)} (hc : Cs w p css.flatten) (hall : ∀ c ∈ css, c.length = s.sz) (hvn : css.length = n) (hn : j < n) (hp : p.isSome = true) {cs : List Value} (hcs : css[j]? = some cs)
    (h : wpX P ops F w wf Q rest ((a.put o1.dst (.pointer (some (adr p (j * s.sz))))).put o2.dst (ofCs s cs))) : wpX P ops F w wf Q (o1 :: o2 :: rest) a := by
  subst hij
  refine x_idx hw1 ho1 hx hi hp (by omega) (by omega) ?_
  rw [Int.toNat_natCast]
  have hj : j < css.length := by omega
  have hce := hc.elem hall hj
  obtain ⟨_, rfl⟩ := List.getElem?_eq_some_iff.1 hcs
  exact x_pure (hw2 _) (fun w1 h1 => by simp [execOp, ho2, hd, run_loadE (P := P) (t := e) (s := s) (hce.ext h1) (hall _ (List.getElem_mem hj))]) h
end

section
variable {P : Program} {w wf : World} {ops : Array Oper} {rest : List Oper} {o o1 o2 o3 : Oper} {a : Act} {Q : Act → Prop} {F : Option Tmp → World → World → Value → Prop}
/-- 'xs[i].f' is read. -/
theorem x_ldField {t e b : Nat} {z : Value} {s : Nat} {tf : TypeId} [SlTy P t e s z b] [Cell1 P tf] {x ix : Operand} {d d' : Tmp} {f off : Nat} (hw1 : Region.wanted o1 (yielded ops a.tmps) = true) (ho1 : o1.op = .indexAddr t x ix) (hw2 : ∀ y, Region.wanted o2 (yielded ops (a.put o1.dst y).tmps) = true) (ho2 : o2.op = .fieldAddr e (.tmp d) f)
    (hw3 : ∀ y u, Region.wanted o3 (yielded ops ((a.put o1.dst y).put o2.dst u).tmps) = true) (ho3 : o3.op = .load tf (.tmp d'))
    {p : Option Addr} {n c : Nat} {k : IntKind} {i : Int} {j : Nat} (hd : ∀ y, (a.put o1.dst y).eval (.tmp d) = y) (hd' : ∀ y u, ((a.put o1.dst y).put o2.dst u).eval (.tmp d') = u)
    (hfo : ∀ (q : Addr) (w : World), (Instr.fieldAt e (.pointer (some q)) f).run P w = .ok (.pointer (some (q.add off))) w)
    (hx : a.eval x = .slice p n c) (hi : a.eval ix = .int k i) (hij : i = j) {css : List (List Value)} (hc : Cs w p css.flatten) (hall : ∀ c ∈ css, c.length = s) (hvn : css.length = n) (hn : j < n) (hp : p.isSome = true) {cs : List Value} (hcs : css[j]? = some cs) {u : Value} (hu : cs[off]? = some u)
    (h : wpX P ops F w wf Q rest (((a.put o1.dst (.pointer (some (adr p (j * s))))).put o2.dst (.pointer (some (adr p (j * s + off))))).put o3.dst u)) : wpX P ops F w wf Q (o1 :: o2 :: o3 :: rest) a := by
  subst hij
  refine x_idx hw1 ho1 hx hi hp (by omega) (by omega) ?_
  rw [Int.toNat_natCast]
  have hj : j < css.length := by omega
  obtain ⟨_, rfl⟩ := List.getElem?_eq_some_iff.1 hcs
  have hadd : (adr p (j * s)).add off = adr p (j * s + off) := by unfold adr; rw [add_add]
  refine x_pure (hw2 _) (v := .pointer (some (adr p (j * s + off)))) (fun w1 _ => by simp [execOp, ho2, hd, hfo, hadd]) ?_
  have hoff : off < s := by have := (List.getElem?_eq_some_iff.1 hu).1; rwa [hall _ (List.getElem_mem hj)] at this
  have hcell : w.cell? (adr p (j * s + off)) = some u := hc.cell _ _ (by rw [flat_get hall hj hoff]; exact hu)
  exact x_load1 (hw3 _ _) ho3 (hd' _ _) hcell h
end

/-! ### Elements of a slice that is read -/
theorem rep_sl {w : World} {e : Sh} {cs : List Value} {l : List e.T} (h : Rep w (.sl e) cs l) : ∃ p c css, cs = [.slice p l.length c] ∧ Cs w p (List.flatten css) ∧ l.length ≤ c ∧ c ≤ maxLen ∧ All2 (Rep w e) css l ∧ (∀ c ∈ css, c.length = e.sz) ∧ css.length = l.length := by
  obtain ⟨p, c, css, h1, h2, h3, h4, h5⟩ := h
  refine ⟨p, c, css, h1, h2, h3, h4, h5, ?_, h5.length⟩
  intro cs hm
  obtain ⟨i, hi, rfl⟩ := List.mem_iff_getElem.1 hm
  obtain ⟨_, h6⟩ := h5.get' i (by rw [← h5.length]; exact hi)
  exact h6.size
theorem Cs.some_of {w : World} {p : Option Addr} {css : List (List Value)} {s i : Nat} (hc : Cs w p css.flatten) (h : ∀ c ∈ css, c.length = s) (hs : 0 < s) (hi : i < css.length) : p.isSome = true := by
  refine hc.isS fun h0 => ?_
  have := flat_len h
  rw [h0, List.length_nil] at this
  have : css.length * s ≠ 0 := Nat.mul_ne_zero (by omega) (by omega)
  omega
end Go.Proofs.Ytlimabbeaimdgaa
/- Marks: how far the numbers go, and what a mark on one element makes of a list. -/
namespace Go.Proofs.Ytlimabbeaimdgaa
set_option linter.unusedSimpArgs false
set_option linter.unusedVariables false
open Go.RowKit

def Sh.ok : Sh → Bool
  | .sl e => e.ok && decide (e.sz ≤ 32)
  | .pr a b => a.ok && b.ok
  | _ => true
theorem tot_sl {e : Sh} (l : List e.T) : tot (.sl e) l = l.length + (l.map (tot e)).sum := rfl
theorem mkE_sl {e : Sh} (l : List e.T) (k : Int) : mkE (.sl e) l k = carry (mkE e) l k := rfl
theorem mkV_sl {e : Sh} (l : List e.T) (k : Int) : mkV (.sl e) l k = carry (mkE e) l k := rfl
theorem carry_nil {A : Type} (f : A → Int → A × Int) (k : Int) : carry f [] k = ([], k) := rfl
theorem carry_cons {A : Type} (f : A → Int → A × Int) (x : A) (xs : List A) (k : Int) : carry f (x :: xs) k = ((f x k).1 :: (carry f xs (f x k).2).1, (carry f xs (f x k).2).2) := rfl
theorem length_carry {A : Type} (f : A → Int → A × Int) : ∀ (l : List A) (k : Int), (carry f l k).1.length = l.length
  | [], _ => rfl
  | x :: l, k => by rw [carry_cons]; simp [length_carry f l]
theorem carry_append {A : Type} (f : A → Int → A × Int) : ∀ (l m : List A) (k : Int), carry f (l ++ m) k = ((carry f l k).1 ++ (carry f m (carry f l k).2).1, (carry f m (carry f l k).2).2)
  | [], m, k => by simp [carry_nil]
  | x :: l, m, k => by rw [List.cons_append, carry_cons, carry_append f l m, carry_cons]; rfl
theorem carry_bd {A : Type} {f : A → Int → A × Int} {t : A → Nat} {z : Nat} (hz : z ≤ 32) (h : ∀ x k, k ≤ (f x k).2 ∧ (f x k).2 ≤ k + z + 64 * (t x : Int)) : ∀ (l : List A) (k : Int), k ≤ (carry f l k).2 ∧ (carry f l k).2 ≤ k + 64 * ((l.length + (l.map t).sum : Nat) : Int)
  | [], k => by simp [carry_nil]
  | x :: l, k => by
    obtain ⟨h1, h2⟩ := h x k
    obtain ⟨h3, h4⟩ := carry_bd hz h l (f x k).2
    rw [carry_cons]
    simp only [List.length_cons, List.map_cons, List.sum_cons]
    refine ⟨by omega, ?_⟩
    have : ((l.length + 1 + (t x + (l.map t).sum) : Nat) : Int) = ((l.length + (l.map t).sum : Nat) : Int) + 1 + (t x : Int) := by omega
    rw [this]; omega
theorem mkE_bd : ∀ (s : Sh), s.ok = true → ∀ (x : s.T) (k : Int), k ≤ (mkE s x k).2 ∧ (mkE s x k).2 ≤ k + s.sz + 64 * (tot s x : Int)
  | .int, _, x, k => by simp only [mkE, Sh.sz, tot]; omega
  | .flt, _, x, k => by simp only [mkE, Sh.sz, tot]; omega
  | .bool, _, x, k => by simp only [mkE, Sh.sz, tot]; omega
  | .str, _, x, k => by simp only [mkE, Sh.sz, tot]; omega
  | .un, _, x, k => by simp [mkE, Sh.sz, tot]
  | .sl e, h, l, k => by
    simp only [Sh.ok, Bool.and_eq_true, decide_eq_true_eq] at h
    obtain ⟨h1, h2⟩ := carry_bd h.2 (mkE_bd e h.1) l k
    rw [mkE_sl, tot_sl]
    exact ⟨h1, by simp only [Sh.sz]; omega⟩
  | .pr a b, h, x, k => by
    simp only [Sh.ok, Bool.and_eq_true] at h
    obtain ⟨h1, h2⟩ := mkE_bd a h.1 x.1 k
    obtain ⟨h3, h4⟩ := mkE_bd b h.2 x.2 (mkE a x.1 k).2
    simp only [mkE, Sh.sz, tot]
    exact ⟨by omega, by omega⟩
theorem mkV_bd : ∀ (s : Sh), s.ok = true → ∀ (x : s.T) (k : Int), k ≤ (mkV s x k).2 ∧ (mkV s x k).2 ≤ k + 64 * (tot s x : Int)
  | .int, _, x, k => by simp [mkV, tot]
  | .flt, _, x, k => by simp [mkV, tot]
  | .bool, _, x, k => by simp [mkV, tot]
  | .str, _, x, k => by simp only [mkV, tot]; omega
  | .un, _, x, k => by simp [mkV, tot]
  | .sl e, h, l, k => by
    simp only [Sh.ok, Bool.and_eq_true, decide_eq_true_eq] at h
    exact carry_bd h.2 (mkE_bd e h.1) l k
  | .pr a b, h, x, k => by
    simp only [Sh.ok, Bool.and_eq_true] at h
    obtain ⟨h1, h2⟩ := mkV_bd a h.1 x.1 k
    obtain ⟨h3, h4⟩ := mkV_bd b h.2 x.2 (mkV a x.1 k).2
    simp only [mkV, tot]
    exact ⟨by omega, by omega⟩

/-- The first i elements marked; the number that comes next. -/
def mkTo (e : Sh) (l : List e.T) (k : Int) (i : Nat) : List e.T := (carry (mkE e) (l.take i) k).1 ++ l.drop i
def mkK (e : Sh) (l : List e.T) (k : Int) (i : Nat) : Int := (carry (mkE e) (l.take i) k).2
theorem mkTo_zero (e : Sh) (l : List e.T) (k : Int) : mkTo e l k 0 = l := by simp [mkTo, carry_nil]
theorem mkK_zero (e : Sh) (l : List e.T) (k : Int) : mkK e l k 0 = k := by simp [mkK, carry_nil]
theorem mkTo_all (e : Sh) (l : List e.T) (k : Int) : mkTo e l k l.length = (mkV (.sl e) l k).1 := by simp [mkTo, mkV_sl]
theorem mkK_all (e : Sh) (l : List e.T) (k : Int) : mkK e l k l.length = (mkV (.sl e) l k).2 := by simp [mkK, mkV_sl]
theorem length_mkTo (e : Sh) (l : List e.T) (k : Int) (i : Nat) : (mkTo e l k i).length = l.length := by
  simp [mkTo, length_carry]; omega
theorem mk_succ (e : Sh) (l : List e.T) (k : Int) (i : Nat) (hi : i < l.length) : mkK e l k (i + 1) = (mkE e l[i] (mkK e l k i)).2 ∧ mkTo e l k (i + 1) = (mkTo e l k i).set i (mkE e l[i] (mkK e l k i)).1 := by
  have ht : l.take (i + 1) = l.take i ++ [l[i]] := by rw [List.take_add_one, List.getElem?_eq_getElem hi]; rfl
  have hd : l.drop i = l[i] :: l.drop (i + 1) := List.drop_eq_getElem_cons hi
  unfold mkK mkTo
  rw [ht, carry_append]
  simp only [carry_cons, carry_nil]
  refine ⟨trivial, ?_⟩
  have hl : (carry (mkE e) (l.take i) k).1.length = i := by rw [length_carry, List.length_take]; omega
  rw [List.set_append_right _ _ (by omega), hl, Nat.sub_self, hd, List.set_cons_zero, List.append_assoc]; rfl
theorem mkTo_get (e : Sh) (l : List e.T) (k : Int) (i : Nat) (hi : i < l.length) : (mkTo e l k i)[i]? = some l[i] := by
  have hl : (carry (mkE e) (l.take i) k).1.length = i := by rw [length_carry, List.length_take]; omega
  unfold mkTo
  rw [List.getElem?_append_right (by omega), hl, Nat.sub_self, List.getElem?_drop, Nat.add_zero, List.getElem?_eq_getElem hi]
theorem sum_take_le (f : Nat → Nat) : ∀ (l : List Nat) (i : Nat) (hi : i < l.length), (l.take i).sum + l[i] ≤ l.sum
  | [], _, hi => by simp at hi
  | x :: l, 0, _ => by simp
  | x :: l, i + 1, hi => by
    have := sum_take_le f l i (by simpa using hi)
    simp only [List.take_succ_cons, List.sum_cons, List.getElem_cons_succ]; omega
theorem mkK_bd (e : Sh) (h : (Sh.sl e).ok = true) (l : List e.T) (k : Int) (i : Nat) (hi : i < l.length) : k ≤ mkK e l k i ∧ mkK e l k i + 64 + 64 * (tot e l[i] : Int) ≤ k + 64 * (tot (.sl e) l : Int) := by
  simp only [Sh.ok, Bool.and_eq_true, decide_eq_true_eq] at h
  obtain ⟨h1, h2⟩ := carry_bd h.2 (mkE_bd e h.1) (l.take i) k
  refine ⟨h1, ?_⟩
  have h3 := sum_take_le id (l.map (tot e)) i (by simpa using hi)
  rw [← List.map_take, List.getElem_map] at h3
  have h4 : (l.take i).length = i := by rw [List.length_take]; omega
  rw [h4] at h2
  unfold mkK
  rw [tot_sl]
  have : 64 * ((i + ((l.take i).map (tot e)).sum : Nat) : Int) + 64 + 64 * (tot e l[i] : Int) ≤ 64 * ((l.length + (l.map (tot e)).sum : Nat) : Int) := by omega
  omega
theorem tot_get {e : Sh} (l : List e.T) (i : Nat) (hi : i < l.length) : tot e l[i] + l.length ≤ tot (.sl e) l := by
  have h3 := sum_take_le id (l.map (tot e)) i (by simpa using hi)
  rw [List.getElem_map] at h3
  rw [tot_sl]; omega
theorem tot_len {e : Sh} (l : List e.T) : l.length ≤ tot (.sl e) l := by rw [tot_sl]; omega

/-- Elements of one's own: their cells, their blocks. -/
def OwnEs (w : World) (e : Sh) (css : List (List Value)) (bss : List (List Nat)) (l : List e.T) : Prop :=
  css.length = l.length ∧ bss.length = l.length ∧ ∀ (i : Nat) (cs : List Value) (bs : List Nat) (d : e.T), css[i]? = some cs → bss[i]? = some bs → l[i]? = some d → Own w e cs d bs
theorem All2.toGet {A B : Type} {R : A → B → Prop} {us : List A} {bs : List B} (h : All2 R us bs) : ∀ (i : Nat) (a : A) (b : B), us[i]? = some a → bs[i]? = some b → R a b := by
  induction h with
  | nil => intro i a b h; simp at h
  | cons h _ ih =>
    intro i a b h1 h2
    cases i with
    | zero => simp at h1 h2; subst h1; subst h2; exact h
    | succ i => exact ih i a b (by simpa using h1) (by simpa using h2)
theorem own_sl {w : World} {e : Sh} {cs : List Value} {l : List e.T} {bs : List Nat} : Own w (.sl e) cs l bs ↔ ∃ p c css bss, cs = [.slice p l.length c] ∧ OwnRow w p l.length c (List.flatten css) ∧ l.length ≤ c ∧ c ≤ maxLen ∧ OwnEs w e css bss l ∧ bs = blocksOf p ++ bss.flatten := by
  constructor
  · rintro ⟨p, c, css, bss, h1, h2, h3, h4, h5, h6, h7, h8⟩
    refine ⟨p, c, css, bss, h1, h2, h3, h4, ⟨h6, h7, fun i a b d ha hb hd => ?_⟩, h8⟩
    exact h5.toGet i (a, b) d (by rw [List.getElem?_zip_eq_some]; exact ⟨ha, hb⟩) hd
  · rintro ⟨p, c, css, bss, h1, h2, h3, h4, ⟨h6, h7, h5⟩, h8⟩
    refine ⟨p, c, css, bss, h1, h2, h3, h4, All2.of_get (by rw [List.length_zip]; omega) (fun i a b ha hb => ?_), h6, h7, h8⟩
    obtain ⟨h9, h10⟩ := List.getElem?_zip_eq_some.1 ha
    exact h5 i _ _ _ h9 h10 hb
theorem OwnEs.chg {S : Nat → Prop} {w w' : World} {e : Sh} {css : List (List Value)} {bss : List (List Nat)} {l : List e.T} (h : OwnEs w e css bss l) (k : Chg S w w') (hS : ∀ b ∈ bss.flatten, ¬ S b) : OwnEs w' e css bss l :=
  ⟨h.1, h.2.1, fun i cs bs d h1 h2 h3 => (h.2.2 i cs bs d h1 h2 h3).chg k fun b hb => hS b (List.mem_flatten.2 ⟨bs, List.mem_of_getElem? h2, hb⟩)⟩
theorem OwnEs.all {w : World} {e : Sh} {css : List (List Value)} {bss : List (List Nat)} {l : List e.T} (h : OwnEs w e css bss l) : ∀ c ∈ css, c.length = e.sz := by
  intro cs hm
  obtain ⟨i, hi, rfl⟩ := List.mem_iff_getElem.1 hm
  have h1 := h.1; have h2 := h.2.1
  exact (h.2.2 i css[i] bss[i] l[i] (by simp) (by simp) (by simp)).rep.size
/-- One element turns into another one. -/
theorem OwnEs.upd {S : Nat → Prop} {w w' : World} {e : Sh} {css : List (List Value)} {bss : List (List Nat)} {l : List e.T} (h : OwnEs w e css bss l) (k : Chg S w w') {i : Nat} {cs : List Value} {bs : List Nat} {d : e.T}
    (hb : bss[i]? = some bs) (hS : ∀ j bj, j ≠ i → bss[j]? = some bj → ∀ b ∈ bj, ¬ S b) (ho : Own w' e cs d bs) : OwnEs w' e (css.set i cs) bss (l.set i d) := by
  refine ⟨by simp [h.1], by simp [h.2.1], fun j cs' bs' d' h1 h2 h3 => ?_⟩
  by_cases hj : i = j
  · subst hj
    rw [hb] at h2; cases h2
    have : i < l.length := by rw [← h.2.1]; exact (List.getElem?_eq_some_iff.1 hb).1
    rw [List.getElem?_set_self (by rw [h.1]; exact this)] at h1; cases h1
    rw [List.getElem?_set_self this] at h3; cases h3
    exact ho
  · rw [List.getElem?_set_ne hj] at h1 h3
    exact (h.2.2 j cs' bs' d' h1 h2 h3).chg k (hS j bs' (fun h => hj h.symm) h2)
/-- The blocks of two elements are apart. -/
theorem flat_apart : ∀ {bss : List (List Nat)}, bss.flatten.Nodup → ∀ {i j : Nat} {bi bj : List Nat}, bss[i]? = some bi → bss[j]? = some bj → j ≠ i → ∀ b ∈ bj, b ∉ bi
  | [], _, i, j, bi, bj, h, _, _, _, _ => by simp at h
  | x :: bss, hn, i, j, bi, bj, hi, hj, hne, b, hb => by
    rw [List.flatten_cons, List.nodup_append] at hn
    obtain ⟨_, h2, h3⟩ := hn
    match i, j with
    | 0, 0 => exact (hne rfl).elim
    | 0, j + 1 =>
      simp at hi hj; subst hi
      exact fun h => h3 b h b (List.mem_flatten.2 ⟨bj, List.mem_of_getElem? hj, hb⟩) rfl
    | i + 1, 0 =>
      simp at hi hj; subst hj
      exact fun h => h3 b hb b (List.mem_flatten.2 ⟨bi, List.mem_of_getElem? hi, h⟩) rfl
    | i + 1, j + 1 => exact flat_apart h2 (by simpa using hi) (by simpa using hj) (by omega) b hb
theorem flat_nodup : ∀ {bss : List (List Nat)}, bss.flatten.Nodup → ∀ {i : Nat} {bi : List Nat}, bss[i]? = some bi → bi.Nodup
  | [], _, i, bi, h => by simp at h
  | x :: bss, hn, i, bi, h => by
    rw [List.flatten_cons, List.nodup_append] at hn
    match i with
    | 0 => simp at h; subst h; exact hn.1
    | i + 1 => exact flat_nodup hn.2.1 (by simpa using h)
theorem nodup_split {a b : List Nat} (h : (a ++ b).Nodup) : a.Nodup ∧ b.Nodup ∧ (∀ x ∈ a, x ∉ b) ∧ (∀ x ∈ b, x ∉ a) := by
  rw [List.nodup_append] at h
  exact ⟨h.1, h.2.1, fun x hx hy => h.2.2 x hx x hy rfl, fun x hx hy => h.2.2 x hy x hx rfl⟩
theorem nodup_app {a b : List Nat} {B : Nat} (h1 : a.Nodup) (h2 : b.Nodup) (l1 : ∀ x ∈ a, x < B) (l2 : ∀ x ∈ b, B ≤ x) : (a ++ b).Nodup := by
  rw [List.nodup_append]
  exact ⟨h1, h2, fun x hx y hy h => by have := l1 x hx; have := l2 y hy; omega⟩

theorem mkV_get (e : Sh) (l : List e.T) (k : Int) (i : Nat) (hi : i < l.length) : (mkV (.sl e) l k).1[i]? = some (mkE e l[i] (mkK e l k i)).1 := by
  rw [mkV_sl]
  conv => lhs; rw [← List.take_append_drop i l]
  have hl : (carry (mkE e) (l.take i) k).1.length = i := by rw [length_carry, List.length_take]; omega
  rw [carry_append]
  simp only
  rw [List.getElem?_append_right (by omega), hl, Nat.sub_self, List.drop_eq_getElem_cons hi, carry_cons]
  rfl
theorem OwnEs.snoc {w : World} {e : Sh} {css : List (List Value)} {bss : List (List Nat)} {l : List e.T} (h : OwnEs w e css bss l) {cs : List Value} {bs : List Nat} {d : e.T} (ho : Own w e cs d bs) : OwnEs w e (css ++ [cs]) (bss ++ [bs]) (l ++ [d]) := by
  obtain ⟨h1, h2, h3⟩ := h
  refine ⟨by simp [h1], by simp [h2], fun i cs' bs' d' g1 g2 g3 => ?_⟩
  by_cases hi : i < l.length
  · rw [List.getElem?_append_left (by omega)] at g1 g2 g3
    exact h3 i _ _ _ g1 g2 g3
  · rw [List.getElem?_append_right (by omega)] at g1 g2 g3
    rw [h1] at g1; rw [h2] at g2
    generalize i - l.length = j at *
    cases j with
    | zero => simp at g1 g2 g3; subst g1; subst g2; subst g3; exact ho
    | succ j => simp at g1
theorem take_set_succ {A : Type} {us : List A} {i : Nat} {x : A} (h : i < us.length) : (us.set i x).take (i + 1) = us.take i ++ [x] := by
  rw [List.take_add_one, List.take_set_of_le (Nat.le_refl _), List.getElem?_set_self h]; rfl
/-- A made slice's cells, element by element. -/
theorem made_rows {z : Value} {s : Nat} (n : Nat) (hz : z.cells.size = s) : ∃ us : List (List Value), us.flatten = (madeCells z.cells (n * s)).toList ∧ us.length = n ∧ ∀ c ∈ us, c.length = s := by
  subst hz
  generalize hV : (madeCells z.cells (n * z.cells.size)).toList = V
  have hV' : V.length = n * z.cells.size := by rw [← hV]; simp [madeCells]
  clear hV
  generalize z.cells.size = s at *
  induction n generalizing V with
  | zero => exact ⟨[], by simpa using (List.eq_nil_of_length_eq_zero (by simpa using hV')).symm, rfl, by simp⟩
  | succ n ih =>
    rw [Nat.add_mul, Nat.one_mul] at hV'
    obtain ⟨us, h1, h2, h3⟩ := ih (V.drop s) (by simp; omega)
    refine ⟨V.take s :: us, by rw [List.flatten_cons, h1, List.take_append_drop], by simp [h2], ?_⟩
    intro c hc
    rcases List.mem_cons.1 hc with rfl | hc
    · simp; omega
    · exact h3 c hc
end Go.Proofs.Ytlimabbeaimdgaa
