/- Steps: floats in a walk; operations of a region whose order is drawn. -/
import Derived.Test.YtnlhahlegedlaaaMem
namespace Go.Proofs.Ytnlhahlegedlaaa
set_option linter.unusedSimpArgs false
set_option linter.unusedVariables false
open Go.RowKit

theorem ev_tmp (l : List Value) (d : List Deferred) (i : Nat) : Act.eval ⟨l.toArray, d⟩ (.tmp i) = l.getD i undef := by simp [Act.eval]
/-- A call of a function of the program's. -/
theorem run_callf {P : Program} {o : Oper} {a : Act} {f : FuncId} {fn : Func} {xs : Array Operand} {ts : Array TypeId} {args : Array Value} (ho : o.op = .call { callee := .value (.func f), args := xs, argTypes := ts })
    (hf : P.funcs[f]? = some fn) (hb : fn.body.isNone = false) (hn : (fn.name == "runtime.NumGoroutine") = false) (hargs : xs.map a.eval = args) (w : World) : (execOp a.eval o).run P w = .ok (.enter f args) w := by
  subst hargs
  simp only [execOp, ho, resolve, Act.eval, Deferred.ofValue, invoke, callFunc, Sem.run_bind, Sem.run_pure, Result.andThen_ok]
  have hn' : ¬ fn.name = "runtime.NumGoroutine" := by simpa using hn
  have hb' : ¬ fn.body = none := by intro h; simp [h] at hb
  simp [Sem.run, hf, hb', hn', program, Sem.run_bind]

/-! ### Floats, one after another -/
section
variable {P : Program} {w : World} {ops : Array Oper} {rest : List Oper} {o o1 o2 : Oper} {a : Act} {Q : Exit → Act → World → Prop}

def isArith (op : BinOp) : Bool := match op with | .add | .sub | .mul | .quo => true | _ => false
theorem isArith_or {op : BinOp} (h : isArith op = true) : op = .add ∨ op = .sub ∨ op = .mul ∨ op = .quo := by cases op <;> first | (cases h; done) | simp
theorem eqGuard_arith {op : BinOp} (h : isArith op = true) (t : TypeId) (x y : Operand) (u v : Value) : eqGuard op t x y u v = pure () := by cases op <;> first | (cases h; done) | rfl
theorem eqGuard_float (op : BinOp) (t : TypeId) (x y : Operand) (k : FloatKind) (b c : Nat) : eqGuard op t x y (.float k b) (.float k c) = pure () := by cases op <;> rfl

theorem run_fop {op : BinOp} {t t' : TypeId} {x y : Operand} {k : FloatKind} {b c : Nat} (hop : isArith op = true) (ho : o.op = .binOp op t x y t') (hx : a.eval x = .float k b) (hy : a.eval y = .float k c) (w : World) :
    ∃ r n, (execOp a.eval o).run P w = .ok (.value (.float k r)) (w.drewN n) ∧ cn k r = fop op k (cn k b) (cn k c) := by
  obtain ⟨r, n, h1, h2⟩ := run_farith (P := P) w op (isArith_or hop) t k b c
  exact ⟨r, n, by simp [execOp, ho, hx, hy, eqGuard_arith hop, h1], h2⟩
theorem run_conv {src dst : TypeId} {x : Operand} {s k : FloatKind} {b : Nat} (ho : o.op = .convert src dst x) (hx : a.eval x = .float s b) (hs : (P.underlying src).isSome = true) (hd : P.underlying dst = some (.float k)) (hov : fover s (cn s b) k = false) (w : World) :
    ∃ r n, (execOp a.eval o).run P w = .ok (.value (.float k r)) (w.drewN n) ∧ cn k r = fconv s (cn s b) k := by
  obtain ⟨r, n, h1, h2⟩ := run_fconv (P := P) w src dst s k b hs hd hov
  exact ⟨r, n, by simp [execOp, ho, hx, h1], h2⟩

theorem wl_fop {op : BinOp} {t t' : TypeId} {x y : Operand} {k : FloatKind} {b c : Nat} (hg : o.guard = none) (ho : o.op = .binOp op t x y t') (hop : isArith op = true) (hx : a.eval x = .float k b) (hy : a.eval y = .float k c)
    (h : ∀ r w', Ext w w' → cn k r = fop op k (cn k b) (cn k c) → wpList P ops Q rest (a.put o.dst (.float k r)) w') : wpList P ops Q (o :: rest) a w := by
  obtain ⟨r, n, h1, h2⟩ := run_fop (P := P) hop ho hx hy w
  exact wl_value hg h1 (h r _ (Ext.drewN w n) h2)
theorem wl_conv {src dst : TypeId} {x : Operand} {s k : FloatKind} {b : Nat} (hg : o.guard = none) (ho : o.op = .convert src dst x) (hx : a.eval x = .float s b) (hs : (P.underlying src).isSome = true) (hd : P.underlying dst = some (.float k)) (hov : fover s (cn s b) k = false)
    (h : ∀ r w', Ext w w' → cn k r = fconv s (cn s b) k → wpList P ops Q rest (a.put o.dst (.float k r)) w') : wpList P ops Q (o :: rest) a w := by
  obtain ⟨r, n, h1, h2⟩ := run_conv (P := P) ho hx hs hd hov w
  exact wl_value hg h1 (h r _ (Ext.drewN w n) h2)
theorem wl_ldF {t e b : Nat} {z : Value} [SlTy P t e 1 z b] [Cell1 P e] {x ix : Operand} {d : Tmp} (hg1 : o1.guard = none) (ho1 : o1.op = .indexAddr t x ix) (hg2 : o2.guard = none) (ho2 : o2.op = .load e (.tmp d))
    {p : Option Addr} {n c : Nat} {k : IntKind} {i : Int} (hd : ∀ y, (a.put o1.dst y).eval (.tmp d) = y)
    (hx : a.eval x = .slice p n c) (hi : a.eval ix = .int k i) {vs : List Value} {xs : List Nat} (hc : Cs w p vs) (hf : F32s vs xs) (hvn : xs.length = n) (h0 : 0 ≤ i) (hn : i < n)
    (h : ∀ r, cn .f32 r = xs.getD i.toNat 0 → wpList P ops Q rest ((a.put o1.dst (.pointer (some (adr p i.toNat)))).put o2.dst (.float .f32 r)) w) : wpList P ops Q (o1 :: o2 :: rest) a w := by
  refine wl_idxload hg1 ho1 hg2 ho2 hd hx hi hc (by rw [hf.1, hvn]) h0 hn fun u hu => ?_
  obtain ⟨r, h1, h2⟩ := hf.2 i.toNat (by omega)
  rw [hu] at h1; cases h1
  exact h r h2
end

/-! ### A region whose order is drawn -/
section
variable {P : Program} {w wf : World} {ops : Array Oper} {rest : List Oper} {o o1 o2 : Oper} {a : Act} {Q : Act → Prop} {F : Option Tmp → World → Value → Prop}

theorem x_nil (h : Q a) : wpX P ops F w wf Q [] a := h
theorem x_skip (hw : Region.wanted o (yielded ops a.tmps) = false) (h : wpX P ops F w wf Q rest (a.put o.dst undef)) : wpX P ops F w wf Q (o :: rest) a := by
  refine ⟨fun hw' => (by rw [hw] at hw'; cases hw'), fun u hu => ?_⟩
  rcases hu with ⟨hw', _⟩ | ⟨_, rfl⟩
  · rw [hw] at hw'; cases hw'
  · exact h
/-- An operation that yields a value of some kind. -/
theorem x_val {V : Value → Prop} (hw : Region.wanted o (yielded ops a.tmps) = true) (hr : ∀ w1, Ext w w1 → ∃ u w2, (execOp a.eval o).run P w1 = .ok (.value u) w2 ∧ Ext w1 w2 ∧ V u)
    (h : ∀ u, V u → wpX P ops F w wf Q rest (a.put o.dst u)) : wpX P ops F w wf Q (o :: rest) a := by
  refine ⟨fun _ w1 h1 => ?_, fun u hu => ?_⟩
  · obtain ⟨u, w2, h2, h3, _⟩ := hr w1 h1
    rw [h2]; exact h3
  · rcases hu with ⟨_, w1, h1, h2⟩ | ⟨hw', _⟩
    · obtain ⟨u', w2, h3, h4, h5⟩ := hr w1 h1
      rw [h3] at h2
      obtain ⟨rfl, _⟩ := h2
      exact h _ h5
    · rw [hw] at hw'; cases hw'
/-- An operation that makes something: what is known of it in every later world. -/
theorem x_made {V : World → Value → Prop} (hw : Region.wanted o (yielded ops a.tmps) = true) (hr : ∀ w1, Ext w w1 → ∃ u w2, (execOp a.eval o).run P w1 = .ok (.value u) w2 ∧ Ext w1 w2 ∧ ∀ wf, Ext w2 wf → V wf u)
    (h : ∀ u, V wf u → wpX P ops F w wf Q rest (a.put o.dst u)) : wpX P ops F w wf Q (o :: rest) a := by
  refine ⟨fun _ w1 h1 => ?_, fun u hu => ?_⟩
  · obtain ⟨u, w2, h2, h3, _⟩ := hr w1 h1
    rw [h2]; exact h3
  · rcases hu with ⟨_, w1, h1, h2⟩ | ⟨hw', _⟩
    · obtain ⟨u', w2, h3, h4, h5⟩ := hr w1 h1
      rw [h3] at h2
      obtain ⟨rfl, h6⟩ := h2
      exact h _ (h5 wf h6)
    · rw [hw] at hw'; cases hw'
theorem x_pure {v : Value} (hw : Region.wanted o (yielded ops a.tmps) = true) (hr : ∀ w1, Ext w w1 → (execOp a.eval o).run P w1 = .ok (.value v) w1)
    (h : wpX P ops F w wf Q rest (a.put o.dst v)) : wpX P ops F w wf Q (o :: rest) a :=
  x_val (V := fun u => u = v) hw (fun w1 h1 => ⟨v, w1, hr w1 h1, Ext.refl _, rfl⟩) (fun u hu => by subst hu; exact h)
theorem x_mv {x : Operand} {v : Value} (hw : Region.wanted o (yielded ops a.tmps) = true) (ho : o.op = .move x) (hx : a.eval x = v) (h : wpX P ops F w wf Q rest (a.put o.dst v)) : wpX P ops F w wf Q (o :: rest) a :=
  x_pure hw (fun w1 _ => by simp [execOp, ho, hx]) h
theorem x_as {x : Operand} {v : Value} (hw : Region.wanted o (yielded ops a.tmps) = true) (ho : o.op = .assign x) (hx : a.eval x = v) (h : wpX P ops F w wf Q rest (a.put o.dst v)) : wpX P ops F w wf Q (o :: rest) a :=
  x_pure hw (fun w1 _ => by simp [execOp, ho, hx]) h
/-- Any operation that the walk's own set can run. -/
def xRun (K : Act → Prop) (a : Act) (d : Option Tmp) (w1 : World) : Result Next → Prop
  | .ok (.value u) w2 => w2 = w1 ∧ K (a.put d u)
  | _ => False
@[go_sem] theorem xRun_value (K : Act → Prop) (a : Act) (d : Option Tmp) (w1 : World) (u : Value) : xRun K a d w1 (.ok (.value u) w1) = K (a.put d u) := by simp [xRun]
theorem x_run (hw : Region.wanted o (yielded ops a.tmps) = true) (h : ∀ K : Act → Prop, (∀ a, wpX P ops F w wf Q rest a → K a) → ∀ w1, Ext w w1 → xRun K a o.dst w1 ((execOp a.eval o).run P w1)) : wpX P ops F w wf Q (o :: rest) a := by
  have h' := h (wpX P ops F w wf Q rest) (fun _ h => h)
  refine ⟨fun _ w1 h1 => ?_, fun u hu => ?_⟩
  · have h2 := h' w1 h1
    generalize (execOp a.eval o).run P w1 = r at h2
    cases r with
    | ok n w2 => cases n <;> simp only [xRun] at h2; obtain ⟨rfl, _⟩ := h2; exact Ext.refl _
    | halt x w2 => simp only [xRun] at h2
  · rcases hu with ⟨_, w1, h1, h2⟩ | ⟨hw', _⟩
    · have h3 := h' w1 h1
      generalize (execOp a.eval o).run P w1 = r at h2 h3
      cases r with
      | ok n w2 => cases n <;> simp only [xRun] at h3; obtain ⟨rfl, h4⟩ := h3; obtain ⟨rfl, _⟩ := h2; exact h4
      | halt x w2 => simp only [xRun] at h3
    · rw [hw] at hw'; cases hw'

theorem x_idx {t e s b : Nat} {z : Value} [SlTy P t e s z b] {x ix : Operand} (hw : Region.wanted o (yielded ops a.tmps) = true) (ho : o.op = .indexAddr t x ix) {p : Option Addr} {n c : Nat} {k : IntKind} {i : Int}
    (hx : a.eval x = .slice p n c) (hi : a.eval ix = .int k i) (hp : p.isSome = true) (h0 : 0 ≤ i) (hn : i < n)
    (h : wpX P ops F w wf Q rest (a.put o.dst (.pointer (some (adr p (i.toNat * s)))))) : wpX P ops F w wf Q (o :: rest) a :=
  x_pure hw (fun w1 _ => by simp [execOp, ho, hx, hi, run_indexAt hp h0 hn]) h
theorem x_load1 {t : TypeId} [Cell1 P t] {x : Operand} (hw : Region.wanted o (yielded ops a.tmps) = true) (ho : o.op = .load t x) {q : Addr} {u : Value} (hx : a.eval x = .pointer (some q)) (hc : w.cell? q = some u)
    (h : wpX P ops F w wf Q rest (a.put o.dst u)) : wpX P ops F w wf Q (o :: rest) a :=
  x_pure hw (fun w1 h1 => by simp [execOp, ho, hx, run_load1 (h1.cell hc)]) h
/-- 'xs[i]' of one-cell elements, read. -/
theorem x_idxload {t e b : Nat} {z : Value} [SlTy P t e 1 z b] [Cell1 P e] {x ix : Operand} {d : Tmp} (hw1 : Region.wanted o1 (yielded ops a.tmps) = true) (ho1 : o1.op = .indexAddr t x ix) (hw2 : ∀ y, Region.wanted o2 (yielded ops (a.put o1.dst y).tmps) = true) (ho2 : o2.op = .load e (.tmp d))
    {p : Option Addr} {n c : Nat} {k : IntKind} {i : Int} (hd : ∀ y, (a.put o1.dst y).eval (.tmp d) = y)
    (hx : a.eval x = .slice p n c) (hi : a.eval ix = .int k i) {vs : List Value} (hc : Cs w p vs) (hvn : vs.length = n) (h0 : 0 ≤ i) (hn : i < n)
    (h : ∀ u, vs[i.toNat]? = some u → wpX P ops F w wf Q rest ((a.put o1.dst (.pointer (some (adr p i.toNat)))).put o2.dst u)) : wpX P ops F w wf Q (o1 :: o2 :: rest) a := by
  have hlt : i.toNat < vs.length := by omega
  have hu : vs[i.toNat]? = some vs[i.toNat] := by simp [hlt]
  refine x_idx hw1 ho1 hx hi (hc.isS (by intro h; simp [h] at hlt)) h0 hn ?_
  rw [Nat.mul_one]
  exact x_load1 (hw2 _) ho2 (hd _) (hc.cell _ _ hu) (h _ hu)
theorem x_ldI {q : IntKind} {t e b : Nat} {z : Value} [SlTy P t e 1 z b] [Cell1 P e] {x ix : Operand} {d : Tmp} (hw1 : Region.wanted o1 (yielded ops a.tmps) = true) (ho1 : o1.op = .indexAddr t x ix) (hw2 : ∀ y, Region.wanted o2 (yielded ops (a.put o1.dst y).tmps) = true) (ho2 : o2.op = .load e (.tmp d))
    {p : Option Addr} {n c : Nat} {k : IntKind} {i : Int} (hd : ∀ y, (a.put o1.dst y).eval (.tmp d) = y)
    (hx : a.eval x = .slice p n c) (hi : a.eval ix = .int k i) {xs : List Int} (hc : Cs w p (xs.map (Value.int q))) (hvn : xs.length = n) (h0 : 0 ≤ i) (hn : i < n)
    (h : wpX P ops F w wf Q rest ((a.put o1.dst (.pointer (some (adr p i.toNat)))).put o2.dst (.int q (xs.getD i.toNat 0)))) : wpX P ops F w wf Q (o1 :: o2 :: rest) a := by
  refine x_idxload hw1 ho1 hw2 ho2 hd hx hi hc (by simp [hvn]) h0 hn fun u hu => ?_
  rw [List.getElem?_map, Option.map_eq_some_iff] at hu
  obtain ⟨y, hy, rfl⟩ := hu
  have : xs.getD i.toNat 0 = y := by simp [hy]
  rw [this] at h; exact h
theorem x_ldF {t e b : Nat} {z : Value} [SlTy P t e 1 z b] [Cell1 P e] {x ix : Operand} {d : Tmp} (hw1 : Region.wanted o1 (yielded ops a.tmps) = true) (ho1 : o1.op = .indexAddr t x ix) (hw2 : ∀ y, Region.wanted o2 (yielded ops (a.put o1.dst y).tmps) = true) (ho2 : o2.op = .load e (.tmp d))
    {p : Option Addr} {n c : Nat} {k : IntKind} {i : Int} (hd : ∀ y, (a.put o1.dst y).eval (.tmp d) = y)
    (hx : a.eval x = .slice p n c) (hi : a.eval ix = .int k i) {vs : List Value} {xs : List Nat} (hc : Cs w p vs) (hf : F32s vs xs) (hvn : xs.length = n) (h0 : 0 ≤ i) (hn : i < n)
    (h : ∀ r, cn .f32 r = xs.getD i.toNat 0 → wpX P ops F w wf Q rest ((a.put o1.dst (.pointer (some (adr p i.toNat)))).put o2.dst (.float .f32 r))) : wpX P ops F w wf Q (o1 :: o2 :: rest) a := by
  refine x_idxload hw1 ho1 hw2 ho2 hd hx hi hc (by rw [hf.1, hvn]) h0 hn fun u hu => ?_
  obtain ⟨r, h1, h2⟩ := hf.2 i.toNat (by omega)
  rw [hu] at h1; cases h1
  exact h r h2
theorem x_fop {op : BinOp} {t t' : TypeId} {x y : Operand} {k : FloatKind} {b c : Nat} (hw : Region.wanted o (yielded ops a.tmps) = true) (ho : o.op = .binOp op t x y t') (hop : isArith op = true) (hx : a.eval x = .float k b) (hy : a.eval y = .float k c)
    (h : ∀ r, cn k r = fop op k (cn k b) (cn k c) → wpX P ops F w wf Q rest (a.put o.dst (.float k r))) : wpX P ops F w wf Q (o :: rest) a :=
  x_val (V := fun u => ∃ r, u = .float k r ∧ cn k r = fop op k (cn k b) (cn k c)) hw
    (fun w1 _ => by obtain ⟨r, n, h1, h2⟩ := run_fop (P := P) hop ho hx hy w1; exact ⟨_, _, h1, Ext.drewN w1 n, r, rfl, h2⟩) (fun u hu => by obtain ⟨r, rfl, h2⟩ := hu; exact h r h2)
theorem x_conv {src dst : TypeId} {x : Operand} {s k : FloatKind} {b : Nat} (hw : Region.wanted o (yielded ops a.tmps) = true) (ho : o.op = .convert src dst x) (hx : a.eval x = .float s b) (hs : (P.underlying src).isSome = true) (hd : P.underlying dst = some (.float k)) (hov : fover s (cn s b) k = false)
    (h : ∀ r, cn k r = fconv s (cn s b) k → wpX P ops F w wf Q rest (a.put o.dst (.float k r))) : wpX P ops F w wf Q (o :: rest) a :=
  x_val (V := fun u => ∃ r, u = .float k r ∧ cn k r = fconv s (cn s b) k) hw
    (fun w1 _ => by obtain ⟨r, n, h1, h2⟩ := run_conv (P := P) ho hx hs hd hov w1; exact ⟨_, _, h1, Ext.drewN w1 n, r, rfl, h2⟩) (fun u hu => by obtain ⟨r, rfl, h2⟩ := hu; exact h r h2)
/-- A call, by its contract: F tells what it leaves. -/
theorem x_call {f : FuncId} {args : Array Value} (hw : Region.wanted o (yielded ops a.tmps) = true) (hr : ∀ w1, (execOp a.eval o).run P w1 = .ok (.enter f args) w1)
    (hc : ∀ w1, Ext w w1 → Calls P f args w1 (fun e w3 => ∃ u, e = .returned u ∧ Ext w1 w3 ∧ F o.dst w3 u))
    (h : ∀ u w3, Ext w w3 → Ext w3 wf → F o.dst w3 u → wpX P ops F w wf Q rest (a.put o.dst u)) : wpX P ops F w wf Q (o :: rest) a := by
  refine ⟨fun _ w1 h1 => ?_, fun u hu => ?_⟩
  · rw [hr w1]; exact ⟨Ext.refl _, hc w1 h1⟩
  · rcases hu with ⟨_, w1, h1, h2⟩ | ⟨hw', _⟩
    · rw [hr w1] at h2
      obtain ⟨w3, h3, h4, h5⟩ := h2
      exact h u w3 (h1.trans h3) h4 h5
    · rw [hw] at hw'; cases hw'
theorem x_callf {f : FuncId} {fn : Func} {xs : Array Operand} {ts : Array TypeId} {args : Array Value} (hw : Region.wanted o (yielded ops a.tmps) = true) (ho : o.op = .call { callee := .value (.func f), args := xs, argTypes := ts })
    (hf : P.funcs[f]? = some fn) (hb : fn.body.isNone = false) (hn : (fn.name == "runtime.NumGoroutine") = false) (hargs : xs.map a.eval = args)
    (hc : ∀ w1, Ext w w1 → Calls P f args w1 (fun e w3 => ∃ u, e = .returned u ∧ Ext w1 w3 ∧ F o.dst w3 u))
    (h : ∀ u w3, Ext w w3 → Ext w3 wf → F o.dst w3 u → wpX P ops F w wf Q rest (a.put o.dst u)) : wpX P ops F w wf Q (o :: rest) a :=
  x_call hw (run_callf ho hf hb hn hargs) hc h
end
end Go.Proofs.Ytnlhahlegedlaaa
