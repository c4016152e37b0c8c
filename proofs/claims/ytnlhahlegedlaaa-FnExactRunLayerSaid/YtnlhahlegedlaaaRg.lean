/- Regions whose order is drawn: operations that only read old memory, make new memory or call what does so may come in any order; the walk goes once through the text's order. -/
import Derived.Test.YtnlhahlegedlaaaRows
import Derived.WalkKit
import Derived.WalkSpells
import Derived.WalkLawsBesides
import Derived.Deep.LoopGhost
namespace Go.Proofs.Ytnlhahlegedlaaa
set_option linter.unusedSimpArgs false
set_option linter.unusedVariables false
open Go.RowKit

theorem hid {p : Prop} (h : p) : Hid p := h
/-- Nothing that was there has turned; there may be more. -/
structure Ext (w w' : World) : Prop where
  os : w'.os = w.os
  tape : w'.tape = w.tape
  output : w'.output = w.output
  size : w.heap.size ≤ w'.heap.size
  block : ∀ k, k < w.heap.size → w'.heap[k]? = w.heap[k]?

theorem Ext.refl (w : World) : Ext w w := ⟨rfl, rfl, rfl, Nat.le_refl _, fun _ _ => rfl⟩
theorem Ext.trans {a b c : World} (h : Ext a b) (k : Ext b c) : Ext a c :=
  ⟨k.os.trans h.os, k.tape.trans h.tape, k.output.trans h.output, Nat.le_trans h.size k.size, fun i hi => (k.block i (Nat.lt_of_lt_of_le hi h.size)).trans (h.block i hi)⟩
theorem Ext.drewN (w : World) (n : Nat) : Ext w (w.drewN n) := ⟨rfl, rfl, rfl, Nat.le_refl _, fun _ _ => rfl⟩
theorem Ext.drew (w : World) : Ext w w.drew := Ext.drewN w 1
theorem Ext.alloc (w : World) (o : Obj) : Ext w (w.alloc o) :=
  ⟨rfl, rfl, rfl, by simp, fun k hk => Below.heap_alloc w o k hk⟩
theorem Ext.below {w w' : World} (h : Ext w w') : Below w.heap.size w w' := ⟨h.os, h.tape, h.output, h.size, h.block⟩
theorem Ext.of_below {w w' : World} (h : Below w.heap.size w w') : Ext w w' := ⟨h.os, h.tape, h.output, h.size, h.block⟩
theorem lt_of_cell {w : World} {p : Addr} {v : Value} (h : w.cell? p = some v) : p.block < w.heap.size := by
  rcases Nat.lt_or_ge p.block w.heap.size with h' | h'
  · exact h'
  · simp [World.cell?, Array.getElem?_eq_none h'] at h
theorem Ext.cell {w w' : World} (h : Ext w w') {p : Addr} {v : Value} (hp : w.cell? p = some v) : w'.cell? p = some v := by
  rw [World.cell?_of_block (h.block _ (lt_of_cell hp))]; exact hp
theorem Ext.frozen {w w' : World} (h : Ext w w') {p : Addr} {b : Bool} (hb : p.block < w.heap.size) (hp : w.frozen? p = b) : w'.frozen? p = b := by
  rw [World.frozen?_of_block (h.block _ hb)]; exact hp

section
variable {P : Program} {ops : Array Oper} {md : Region.Mode}

/-- What is asked of one run of one operation. -/
def XSafe (P : Program) (F : World → Value → Prop) (w1 : World) : Result Next → Prop
  | .ok (.value _) w2 => Ext w1 w2
  | .ok .skip w2 => Ext w1 w2
  | .ok (.enter f args) w2 => Ext w1 w2 ∧ Calls P f args w2 (fun e w3 => ∃ u, e = .returned u ∧ Ext w2 w3 ∧ F w3 u)
  | _ => False
/-- What one operation may leave in its slot, seen from a later world. -/
def XOut (P : Program) (F : World → Value → Prop) (w : World) (wf : World) (s : Sem Next) (u : Value) : Prop :=
  ∃ w1, Ext w w1 ∧ match s.run P w1 with
    | .ok (.value v) w2 => v = u ∧ Ext w2 wf
    | .ok .skip w2 => u = undef ∧ Ext w2 wf
    | .ok (.enter _ _) w2 => ∃ w3, Ext w2 w3 ∧ Ext w3 wf ∧ F w3 u
    | _ => False
def xSafe (P : Program) (ops : Array Oper) (F : World → Value → Prop) (w : World) (o : Oper) (a : Act) : Prop :=
  Region.wanted o (yielded ops a.tmps) = true → ∀ w1, Ext w w1 → XSafe P F w1 ((execOp a.eval o).run P w1)
def xOut (P : Program) (ops : Array Oper) (F : World → Value → Prop) (w wf : World) (o : Oper) (a : Act) (u : Value) : Prop :=
  (Region.wanted o (yielded ops a.tmps) = true ∧ XOut P F w wf (execOp a.eval o) u) ∨ (Region.wanted o (yielded ops a.tmps) = false ∧ u = undef)

/-- The walk in the order of the text. -/
def wpX (P : Program) (ops : Array Oper) (F : Option Tmp → World → Value → Prop) (w wf : World) (Q : Act → Prop) : List Oper → Act → Prop
  | [], a => Q a
  | o :: rest, a => xSafe P ops (F o.dst) w o a ∧ ∀ u, xOut P ops (F o.dst) w wf o a u → wpX P ops F w wf Q rest (a.put o.dst u)

variable {F : Option Tmp → World → Value → Prop} {w : World}

theorem xOut_mono {G : World → Value → Prop} {wf wg : World} {o : Oper} {a : Act} {u : Value} (h : xOut P ops G w wf o a u) (hg : Ext wf wg) : xOut P ops G w wg o a u := by
  rcases h with ⟨hw, w1, h1, h2⟩ | h
  · refine .inl ⟨hw, w1, h1, ?_⟩
    split at h2
    · exact ⟨h2.1, h2.2.trans hg⟩
    · exact ⟨h2.1, h2.2.trans hg⟩
    · obtain ⟨w3, h3, h4, h5⟩ := h2; exact ⟨w3, h3, h4.trans hg, h5⟩
    · exact h2.elim
  · exact .inr h

/-- One run of a safe operation: an outcome, and a later world that knows it. -/
theorem xSafe.some {G : World → Value → Prop} {o : Oper} {a : Act} (h : xSafe P ops G w o a) (w1 : World) (h1 : Ext w w1) :
    ∃ u w2, Ext w1 w2 ∧ xOut P ops G w w2 o a u := by
  by_cases hw : Region.wanted o (yielded ops a.tmps) = true
  · have h2 := h hw w1 h1
    generalize hr : (execOp a.eval o).run P w1 = r at h2
    cases r with
    | ok n w2 =>
      cases n <;> simp only [XSafe] at h2
      case value v => exact ⟨v, w2, h2, .inl ⟨hw, w1, h1, by rw [hr]; exact ⟨rfl, Ext.refl _⟩⟩⟩
      case skip => exact ⟨undef, w2, h2, .inl ⟨hw, w1, h1, by rw [hr]; exact ⟨rfl, Ext.refl _⟩⟩⟩
      case enter f args =>
        obtain ⟨h3, hc⟩ := h2
        obtain ⟨e, w3, _, ⟨u, _, h4, h5⟩, _⟩ := hc []
        exact ⟨u, w3, h3.trans h4, .inl ⟨hw, w1, h1, by rw [hr]; exact ⟨w3, h4, Ext.refl _, h5⟩⟩⟩
    | halt x w2 => simp only [XSafe] at h2
  · have hw' : Region.wanted o (yielded ops a.tmps) = false := by simpa using hw
    exact ⟨undef, w1, Ext.refl _, .inr ⟨hw', rfl⟩⟩

theorem xSafe_put {G : World → Value → Prop} {o : Oper} (hs : ∀ cs b, o.op ≠ .select cs b) {a : Act} {d : Option Tmp} {v : Value} (h : ∀ x, d = some x → x ∉ o.looksAt ops) :
    xSafe P ops G w o (a.put d v) ↔ xSafe P ops G w o a := by
  unfold xSafe; rw [execOp_put o hs a d v h, wanted_put o a d v h]
theorem xOut_put {G : World → Value → Prop} {wf : World} {o : Oper} (hs : ∀ cs b, o.op ≠ .select cs b) {a : Act} {d : Option Tmp} {v u : Value} (h : ∀ x, d = some x → x ∉ o.looksAt ops) :
    xOut P ops G w wf o (a.put d v) u ↔ xOut P ops G w wf o a u := by
  unfold xOut; rw [execOp_put o hs a d v h, wanted_put o a d v h]

/-- Two neighbours that are apart change places. -/
theorem wpX_swap {Q : World → Act → Prop} {x y : Oper} {rest : List Oper} {a : Act} {w1 : World} (hap : y.apart ops x = true) (hx : ∀ cs b, x.op ≠ .select cs b) (hy : ∀ cs b, y.op ≠ .select cs b)
    (h1 : Ext w w1) (h : ∀ wf, Ext w1 wf → wpX P ops F w wf (Q wf) (x :: y :: rest) a) : ∀ wf, Ext w1 wf → wpX P ops F w wf (Q wf) (y :: x :: rest) a := by
  obtain ⟨p1, p2, p3⟩ := Oper.apart_spec hap
  obtain ⟨ux, w2, e2, hux⟩ := (h w1 (Ext.refl _)).1.some w1 h1
  have hysafe : xSafe P ops (F y.dst) w y a := (xSafe_put hy p3).1 ((h w2 e2).2 ux hux).1
  intro wf hf
  refine ⟨hysafe, fun v hv => ⟨(xSafe_put hx p1).2 (h wf hf).1, fun u hu => ?_⟩⟩
  have hu' := (xOut_put hx p1).1 hu
  have := ((h wf hf).2 u hu').2 v ((xOut_put hy p3).2 hv)
  rwa [Act.put_comm a u v (fun d hd he => p2 d he hd)] at this

/-- Whatever is apart from all before it may come first. -/
theorem wpX_first {Q : World → Act → Prop} {y : Oper} {rest : List Oper} (hy : ∀ cs b, y.op ≠ .select cs b) :
    ∀ (l : List Oper) (a : Act) (w1 : World), (∀ x ∈ l, y.apart ops x = true ∧ ∀ cs b, x.op ≠ .select cs b) → Ext w w1 →
      (∀ wf, Ext w1 wf → wpX P ops F w wf (Q wf) (l ++ y :: rest) a) → ∀ wf, Ext w1 wf → wpX P ops F w wf (Q wf) (y :: (l ++ rest)) a
  | [], _, _, _, _, h => h
  | x :: l, a, w1, hl, h1, h => by
    refine wpX_swap (hl x (by simp)).1 (hl x (by simp)).2 hy h1 fun wf hf => ⟨(h wf hf).1, fun u hu => ?_⟩
    exact wpX_first hy l (a.put x.dst u) wf (fun z hz => hl z (by simp [hz])) (h1.trans hf) (fun wg hg => (h wg (hf.trans hg)).2 u (xOut_mono hu hg)) wf (Ext.refl _)

/-- The operations that have not come up yet, in the text's order, up to place n. -/
def restOf (ops : Array Oper) (listed : Array Bool) : Nat → List Oper
  | 0 => []
  | n + 1 => restOf ops listed n ++ (match ops[n]? with | some o => if listed.getD n true then [] else [o] | none => [])

theorem restOf_listed {listed : Array Bool} {i : Nat} : ∀ n, n ≤ i → restOf ops (listed.setIfInBounds i true) n = restOf ops listed n
  | 0, _ => rfl
  | n + 1, h => by
    unfold restOf
    rw [restOf_listed n (by omega), getD_set_ne true (by omega)]

theorem restOf_split {listed : Array Bool} {i : Nat} {y : Oper} (hi : ops[i]? = some y) (hun : listed.getD i true = false) : ∀ n, i < n →
    ∃ l, restOf ops listed n = restOf ops listed i ++ y :: l ∧ restOf ops (listed.setIfInBounds i true) n = restOf ops listed i ++ l
  | 0, h => by omega
  | n + 1, h => by
    by_cases he : n = i
    · subst he
      refine ⟨[], ?_, ?_⟩
      · simp only [restOf, hi, hun]; simp
      · simp only [restOf, hi]
        rw [restOf_listed n (Nat.le_refl _)]
        have : n < listed.size := by
          rcases Nat.lt_or_ge n listed.size with h' | h'
          · exact h'
          · simp [Array.getElem?_eq_none h'] at hun
        simp [this]
    · obtain ⟨l, h1, h2⟩ := restOf_split hi hun n (by omega)
      have hg : (listed.setIfInBounds i true).getD n true = listed.getD n true := getD_set_ne true (fun h' => he h'.symm)
      refine ⟨l ++ (match ops[n]? with | some o => if listed.getD n true then [] else [o] | none => []), ?_, ?_⟩
      · show restOf ops listed n ++ _ = _
        rw [h1, List.append_assoc, List.cons_append]
      · show restOf ops (listed.setIfInBounds i true) n ++ _ = _
        rw [h2, hg, List.append_assoc]

theorem mem_restOf {listed : Array Bool} {o : Oper} : ∀ {n}, o ∈ restOf ops listed n → ∃ j, j < n ∧ ops[j]? = some o ∧ listed.getD j true = false
  | 0, h => by simp [restOf] at h
  | n + 1, h => by
    unfold restOf at h
    rcases List.mem_append.1 h with h | h
    · obtain ⟨j, h1, h2⟩ := mem_restOf h
      exact ⟨j, by omega, h2⟩
    · cases ho : ops[n]? with
      | none => simp [ho] at h
      | some p =>
        simp only [ho] at h
        split at h
        · simp at h
        · rename_i hl
          simp at h; subst h
          exact ⟨n, by omega, ho, by simpa using hl⟩

/-- Which operations are listed: all before a listed one that it waits for are. -/
def Closed (md : Region.Mode) (ops : Array Oper) (listed : Array Bool) : Prop :=
  ∀ j o, ops[j]? = some o → listed.getD j false = true → ∀ e ∈ o.after, Region.binds md e = true → listed.getD e.on false = true

/-- The places that operation j waits for, in so many steps. -/
def ancs (md : Region.Mode) (ops : Array Oper) : Nat → Nat → List Nat
  | 0, _ => []
  | n + 1, j => match ops[j]? with
    | some o => (o.after.toList.filter (Region.binds md)).flatMap fun e => e.on :: ancs md ops n e.on
    | none => []

theorem ancs_listed {listed : Array Bool} (hc : Closed md ops listed) : ∀ n j, (∀ o, ops[j]? = some o → ∀ e ∈ o.after, Region.binds md e = true → listed.getD e.on false = true) →
    ∀ k ∈ ancs md ops n j, listed.getD k false = true
  | 0, _, _, k, hk => by simp [ancs] at hk
  | n + 1, j, h, k, hk => by
    unfold ancs at hk
    cases ho : ops[j]? with
    | none => simp [ho] at hk
    | some o =>
      simp only [ho, List.mem_flatMap, List.mem_filter, List.mem_cons] at hk
      obtain ⟨e, ⟨he, hb⟩, hk⟩ := hk
      have hl := h o ho e (by simpa using he) hb
      rcases hk with rfl | hk
      · exact hl
      · exact ancs_listed hc n e.on (fun o' ho' => hc _ o' ho' hl) k hk

/-- From place N on each operation waits for all before N. -/
def barred (md : Region.Mode) (ops : Array Oper) (N : Nat) : Bool :=
  decide (N ≤ ops.size) && (List.range ops.size).all fun j => decide (j < N) || (List.range N).all fun i => (ancs md ops ops.size j).contains i
/-- Before N: two operations of which the later one does not wait for the earlier one are apart. -/
def orderedB (md : Region.Mode) (ops : Array Oper) : Bool :=
  (List.range ops.size).all fun j => match ops[j]? with | some y => y.after.all fun e => !Region.binds md e || decide (e.on < j) | none => true
def apartB (md : Region.Mode) (ops : Array Oper) (N : Nat) : Bool :=
  orderedB md ops && (List.range N).all fun j => (List.range j).all fun i => match ops[i]?, ops[j]? with
    | some x, some y => (y.after.any fun e => Region.binds md e && e.on == i) || y.apart ops x
    | _, _ => true

def marked (n N : Nat) : Array Bool := (Array.range n).map fun i => decide (i < N)

theorem ready_some {listed : Array Bool} (hord : orderedB md ops = true) (hsz : listed.size = ops.size) : ∀ {j : Nat}, j < ops.size → listed.getD j true = false → Region.ready md ops listed = [] → False := by
  intro j
  induction j using Nat.strongRecOn with
  | ind j ih =>
    intro hj hl hnone
    have hjo : ops[j]? = some ops[j] := by simp [hj]
    have : j ∈ Region.ready md ops listed := by
      refine mem_ready.2 ⟨hl, ops[j], hjo, fun e he hb => ?_⟩
      have h2 := List.all_eq_true.1 hord j (by simpa using hj)
      simp only [hjo] at h2
      have h3 := (Array.all_eq_true_iff_forall_mem.1 h2) e he
      simp only [hb, Bool.not_true, Bool.false_or, decide_eq_true_eq] at h3
      by_cases h4 : listed.getD e.on true = false
      · exact (ih e.on h3 (by omega) h4 hnone).elim
      · have h5 : e.on < listed.size := by omega
        simp [h5] at h4 ⊢; exact h4
    rw [hnone] at this; cases this

theorem wpX_any {Q : Exit → Act → World → Prop} {N : Nat} (hns : Region.noSelect ops = true) (hap : apartB md ops N = true) (hbar : barred md ops N = true) :
    ∀ (fuel : Nat) (listed : Array Bool) (a : Act) (w1 : World), listed.size = ops.size → Closed md ops listed → (∀ j, N ≤ j → listed.getD j true = true → ops.size ≤ j) → Ext w w1 →
      (restOf ops listed N).length = fuel →
      (∀ wf, Ext w1 wf → wpX P ops F w wf (fun a' => wpAny P md ops Q (ops.size - N) (marked ops.size N) a' wf) (restOf ops listed N) a) → wpAny P md ops Q (fuel + (ops.size - N)) listed a w1 := by
  simp only [barred, Bool.and_eq_true, decide_eq_true_eq] at hbar
  obtain ⟨hN, hbar⟩ := hbar
  simp only [apartB, Bool.and_eq_true] at hap
  obtain ⟨hord, hap⟩ := hap
  intro fuel
  induction fuel with
  | zero =>
    intro listed a w1 hsz hcl hlate h1 hlen h
    have hnil : restOf ops listed N = [] := List.eq_nil_of_length_eq_zero hlen
    have hq := h w1 (Ext.refl _)
    rw [hnil] at hq
    have hall : listed = marked ops.size N := by
      apply Array.ext
      · simp [marked, hsz]
      · intro i hi hi'
        by_cases hiN : i < N
        · have hio : ∃ o, ops[i]? = some o := ⟨ops[i], by simp [show i < ops.size by omega]⟩
          obtain ⟨o, ho⟩ := hio
          by_cases hl : listed.getD i true = false
          · obtain ⟨l, hs, _⟩ := restOf_split ho hl N hiN
            rw [hnil] at hs; simp at hs
          · simp [hi] at hl
            simp [marked, hiN, hl]
        · by_cases hl : listed.getD i true = true
          · have := hlate i (by omega) hl; omega
          · simp [hi] at hl
            simp [marked, hiN, hl]
    rw [Nat.zero_add, hall]
    exact hq
  | succ fuel ih =>
    intro listed a w1 hsz hcl hlate h1 hlen h
    have hunl : ∃ j, j < N ∧ listed.getD j true = false := by
      cases hr : restOf ops listed N with
      | nil => rw [hr] at hlen; simp at hlen
      | cons o l =>
        obtain ⟨j, hj, _, hl⟩ := mem_restOf (show o ∈ restOf ops listed N by rw [hr]; simp)
        exact ⟨j, hj, hl⟩
    obtain ⟨j0, hj0, hl0⟩ := hunl
    have hready : ∀ i ∈ Region.ready md ops listed, i < N := by
      intro i hi
      rcases Nat.lt_or_ge i N with h' | h'
      · exact h'
      · obtain ⟨_, o, ho, hall⟩ := mem_ready.1 hi
        have hio : i < ops.size := (Array.getElem?_eq_some_iff.1 ho).1
        have hb := List.all_eq_true.1 hbar i (by simpa using hio)
        simp only [Bool.or_eq_true, decide_eq_true_eq] at hb
        have hb' := hb.resolve_left (by omega)
        have hc := List.all_eq_true.1 hb' j0 (by simpa using hj0)
        have := ancs_listed hcl ops.size i (fun o' ho' => by rw [ho] at ho'; cases ho'; exact hall) j0 (by simpa using hc)
        rcases Nat.lt_or_ge j0 listed.size with h2 | h2
        · simp [h2] at this hl0; rw [hl0] at this; cases this
        · simp [Array.getElem?_eq_none h2] at this
    -- something is ready: the first that has not come up
    have hdo : ∀ i ∈ Region.ready md ops listed, wpOp P ops Q i (wpAny P md ops Q (fuel + (ops.size - N)) (listed.setIfInBounds i true)) a w1 := by
      intro i hi
      have hiN := hready i hi
      obtain ⟨hun, y, hy, hall⟩ := mem_ready.1 hi
      obtain ⟨l, hs, hs'⟩ := restOf_split hy hun N hiN
      have hsel := fun (j : Nat) (o : Oper) cs b (ho : ops[j]? = some o) => Region.noSelect_spec hns j o cs b ho
      have hfirst := wpX_first (F := F) (w := w) (P := P) (ops := ops) (Q := fun wf a' => wpAny P md ops Q (ops.size - N) (marked ops.size N) a' wf) (rest := l) (y := y) (fun cs b => hsel i y cs b hy)
        (restOf ops listed i) a w1 (fun x hx => by
          obtain ⟨j, hj, hxo, hxl⟩ := mem_restOf hx
          refine ⟨?_, fun cs b => hsel j x cs b hxo⟩
          have h2 := List.all_eq_true.1 (List.all_eq_true.1 hap i (by simpa using hiN)) j (by simpa using hj)
          simp only [hxo, hy, Bool.or_eq_true, Array.any_eq_true', Bool.and_eq_true, beq_iff_eq] at h2
          rcases h2 with ⟨e, he, hb, hon⟩ | h2
          · have := hall e he hb
            rw [hon] at this
            rcases Nat.lt_or_ge j listed.size with h2 | h2
            · simp [h2] at this hxl; rw [hxl] at this; cases this
            · simp [Array.getElem?_eq_none h2] at this
          · exact h2) h1 (fun wf hf => by rw [← hs]; exact h wf hf)
      have hisz : i < listed.size := by have := (Array.getElem?_eq_some_iff.1 hy).1; omega
      have hcl' : Closed md ops (listed.setIfInBounds i true) := by
        intro j o ho hj e he hb
        by_cases hji : j = i
        · subst hji
          rw [hy] at ho; cases ho
          exact getD_set_true (hall e he hb)
        · have : (listed.setIfInBounds i true).getD j false = listed.getD j false := getD_set_ne false (fun h' => hji h'.symm)
          rw [this] at hj
          exact getD_set_true (hcl j o ho hj e he hb)
      have hlate' : ∀ j, N ≤ j → (listed.setIfInBounds i true).getD j true = true → ops.size ≤ j := by
        intro j hj hjl
        rw [getD_set_ne true (by omega)] at hjl
        exact hlate j hj hjl
      have hlen' : (restOf ops (listed.setIfInBounds i true) N).length = fuel := by
        rw [hs']; rw [hs] at hlen; simp at hlen ⊢; omega
      unfold wpOp
      simp only [hy]
      have hsafe := (hfirst w1 (Ext.refl _)).1
      split
      · rename_i hw
        have h2 := hsafe hw w1 h1
        refine .inl ?_
        unfold Oper.wp
        generalize hr : (execOp a.eval y).run P w1 = r at h2
        have next : ∀ (u : Value) (w2 : World), Ext w1 w2 → xOut P ops (F y.dst) w w2 y a u → wpAny P md ops Q (fuel + (ops.size - N)) (listed.setIfInBounds i true) (a.put y.dst u) w2 := by
          intro u w2 e2 hu
          refine ih _ _ w2 (by simpa using hsz) hcl' hlate' (h1.trans e2) hlen' fun wf hf => ?_
          rw [hs']
          exact (hfirst wf (e2.trans hf)).2 u (xOut_mono hu hf)
        cases r with
        | ok n w2 =>
          cases n <;> simp only [XSafe] at h2 <;> simp only [Oper.upon]
          case value u => exact next u w2 h2 (.inl ⟨hw, w1, h1, by rw [hr]; exact ⟨rfl, Ext.refl _⟩⟩)
          case skip => exact next undef w2 h2 (.inl ⟨hw, w1, h1, by rw [hr]; exact ⟨rfl, Ext.refl _⟩⟩)
          case enter f args =>
            obtain ⟨h3, hc⟩ := h2
            refine hc.mono fun e w3 ⟨u, he, h4, h5⟩ => ?_
            subst he
            exact next u w3 (h3.trans h4) (.inl ⟨hw, w1, h1, by rw [hr]; exact ⟨w3, h4, Ext.refl _, h5⟩⟩)
        | halt x w2 => simp only [XSafe] at h2
      · rename_i hw
        have hw' : Region.wanted y (yielded ops a.tmps) = false := by simpa using hw
        refine ih _ _ w1 (by simpa using hsz) hcl' hlate' h1 hlen' fun wf hf => ?_
        rw [hs']
        exact (hfirst wf hf).2 undef (.inr ⟨hw', rfl⟩)
    rw [Nat.succ_add]
    refine ⟨fun hnone => ?_, hdo⟩
    -- not possible: the least place that has not come up is ready
    exact (ready_some hord hsz (by omega) hl0 hnone).elim

theorem restOf_all : ∀ n, n ≤ ops.size → restOf ops (Array.replicate ops.size false) n = ops.toList.take n
  | 0, _ => by simp [restOf]
  | n + 1, h => by
    have hn : n < ops.size := by omega
    unfold restOf
    rw [restOf_all n (by omega), List.take_succ_eq_append_getElem (by simpa using hn)]
    simp [hn]

/-- A region whose order is drawn: its first N operations by the walk in the text's order, then the rest in whatever order. -/
theorem wp_region_x {id : Nat} {Q : Exit → Act → World → Prop} {a : Act} (N : Nat) (F : Option Tmp → World → Value → Prop) (hm : P.follows .mixedOrders = true)
    (hns : Region.noSelect ops = true) (hap : apartB .any ops N = true) (hbar : barred .any ops N = true)
    (h : ∀ wf, Ext w.drew wf → wpX P ops F w.drew wf (fun a' => wpAny P .any ops Q (ops.size - N) (marked ops.size N) a' wf) (ops.toList.take N) a) : (Code.region id ops true).wp P Q a w := by
  have hN : N ≤ ops.size := by
    have := hbar
    simp only [barred, Bool.and_eq_true, decide_eq_true_eq] at this
    exact this.1
  have hl := restOf_all (ops := ops) N hN
  refine wp_region_any hm ?_
  have key := wpX_any (P := P) (F := F) (w := w.drew) (Q := Q) hns hap hbar N (Array.replicate ops.size false) a w.drew (by simp)
    (fun j o _ hj => by
      rcases Nat.lt_or_ge j ops.size with h' | h'
      · simp [h'] at hj
      · simp [h'] at hj)
    (fun j _ hj => by
      rcases Nat.lt_or_ge j ops.size with h' | h'
      · simp [h'] at hj
      · exact h') (Ext.refl _) (by rw [hl]; simp; omega) (fun wf hf => by rw [hl]; exact h wf hf)
  rw [show N + (ops.size - N) = ops.size from by omega] at key
  exact key
/-- The same where no operation is left behind. -/
theorem wp_region_xall {id : Nat} {Q : Exit → Act → World → Prop} {a : Act} {l : List Oper} (F : Option Tmp → World → Value → Prop) (hm : P.follows .mixedOrders = true)
    (hns : Region.noSelect l.toArray = true) (hap : apartB .any l.toArray l.length = true)
    (h : ∀ wf, Ext w.drew wf → wpX P l.toArray F w.drew wf (fun a' => Q .normal a' wf) l a) : (Code.region id l.toArray true).wp P Q a w := by
  refine wp_region_x (w := w) l.length F hm hns hap ?_ fun wf hf => ?_
  · simp only [barred, Bool.and_eq_true, decide_eq_true_eq]
    refine ⟨by simp, ?_⟩
    refine List.all_eq_true.2 fun j hj => ?_
    simp at hj
    simp [hj]
  · have := h wf hf
    simp only [List.take_length, List.size_toArray, Nat.sub_self]
    have hready : Region.ready .any l.toArray (marked l.length l.length) = [] := by
      refine List.eq_nil_iff_forall_not_mem.2 fun j hj => ?_
      obtain ⟨h1, o, ho, _⟩ := mem_ready.1 hj
      have h2 := (Array.getElem?_eq_some_iff.1 ho).1
      simp at h2
      simp [marked, h2] at h1
    exact wpX_mono (fun a' ha => ⟨hready, ha⟩) this
where
  wpX_mono {ops : Array Oper} {F : Option Tmp → World → Value → Prop} {w wf : World} {Q Q' : Act → Prop} (hq : ∀ a, Q a → Q' a) : ∀ {l : List Oper} {a : Act}, wpX P ops F w wf Q l a → wpX P ops F w wf Q' l a
    | [], _, h => hq _ h
    | _ :: _, _, h => ⟨h.1, fun u hu => wpX_mono hq (h.2 u hu)⟩
/-- What is left comes in one order alone. -/
def forcedB (md : Region.Mode) (ops : Array Oper) : Nat → Nat → Array Bool → Bool
  | 0, _, listed => (Region.ready md ops listed).isEmpty
  | n + 1, k, listed => (Region.ready md ops listed == [k]) && forcedB md ops n (k + 1) (listed.setIfInBounds k true)
theorem wpAny_forced {Q : Exit → Act → World → Prop} : ∀ (l : List Oper) (k : Nat) (listed : Array Bool) (a : Act) (w : World), (∀ j, l[j]? = ops[k + j]?) →
    forcedB md ops l.length k listed = true → wpList P ops Q l a w → wpAny P md ops Q l.length listed a w
  | [], _, _, _, _, _, hB, h => ⟨by simpa [forcedB] using hB, h⟩
  | o :: l, k, listed, a, w, hl, hB, h => by
    have h0 : ops[k]? = some o := by simpa using (hl 0).symm
    simp only [List.length_cons, forcedB, Bool.and_eq_true, beq_iff_eq] at hB
    obtain ⟨hr, hB'⟩ := hB
    refine ⟨fun hn => (by rw [hr] at hn; cases hn), fun i hi => ?_⟩
    rw [hr] at hi
    obtain rfl : i = k := by simpa using hi
    have ih := fun a w => wpAny_forced (Q := Q) l (i + 1) (listed.setIfInBounds i true) a w (fun j => by have := hl (j + 1); simpa [Nat.add_assoc, Nat.add_comm 1 j] using this) hB'
    unfold wpOp
    simp only [h0]
    unfold wpList at h
    split at h
    · rename_i hw
      rw [if_pos hw]
      rcases h with h | h
      · exact .inl (Oper.wp_mono (fun a w => ih a w) h)
      · exact .inr h
    · rename_i hw
      rw [if_neg hw]
      exact ih _ _ h
/-- The first N operations by the walk in the text's order, the rest in the one order that is left. -/
theorem wp_region_xt {id : Nat} {Q : Exit → Act → World → Prop} {a : Act} {l : List Oper} (N : Nat) (F : Option Tmp → World → Value → Prop) (hm : P.follows .mixedOrders = true)
    (hns : Region.noSelect l.toArray = true) (hap : apartB .any l.toArray N = true) (hbar : barred .any l.toArray N = true) (hf : forcedB .any l.toArray (l.drop N).length N (marked l.length N) = true)
    (h : ∀ wf, Ext w.drew wf → wpX P l.toArray F w.drew wf (fun a' => wpList P l.toArray Q (l.drop N) a' wf) (l.take N) a) : (Code.region id l.toArray true).wp P Q a w := by
  refine wp_region_x (w := w) N F hm hns hap hbar fun wf hwf => ?_
  refine wp_region_xall.wpX_mono (fun a' ha => ?_) (h wf hwf)
  have := wpAny_forced (P := P) (md := .any) (ops := l.toArray) (Q := Q) (l.drop N) N (marked l.length N) a' wf (fun j => by simp) hf ha
  rw [List.length_drop] at this
  simpa using this
end
end Go.Proofs.Ytnlhahlegedlaaa
