/- Memory: cells behind a slice, rows of the call's own; the walk's laws on them. -/
import Derived.Test.YtnlhahlegedlaaaFl
namespace Go.Proofs.Ytnlhahlegedlaaa
set_option linter.unusedSimpArgs false
set_option linter.unusedVariables false
open Go.RowKit

/-- The address i cells on. -/
def adr (p : Option Addr) (i : Nat) : Addr := (p.getD ⟨0, 0, none⟩).add i
theorem adr_some (a : Addr) (i : Nat) : adr (some a) i = a.add i := rfl
theorem adr_row (g i : Nat) : adr (some ⟨g, 0, none⟩) i = ⟨g, i, none⟩ := by rw [adr_some, Addr.add_lit, Nat.zero_add]
theorem add_add (a : Addr) (i j : Nat) : (a.add i).add j = a.add (i + j) := by
  unfold Addr.add
  by_cases hi : i = 0
  · subst hi; simp
  · by_cases hj : j = 0
    · subst hj; simp [hi]
    · simp [hi, hj, Nat.add_assoc]
theorem adr_shift (a : Addr) (l i : Nat) : adr (some (a.add l)) i = adr (some a) (l + i) := by rw [adr_some, adr_some, add_add]
theorem adr_block (p : Option Addr) (i j : Nat) : (adr p i).block = (adr p j).block := by
  unfold adr Addr.add; split <;> split <;> rfl

/-- The cells from p on hold vs. -/
structure Cs (w : World) (p : Option Addr) (vs : List Value) : Prop where
  cell : ∀ i u, vs[i]? = some u → w.cell? (adr p i) = some u
  isS : vs ≠ [] → p.isSome = true
theorem Cs.nil (w : World) (p : Option Addr) : Cs w p [] := ⟨fun i u h => by simp at h, fun h => (h rfl).elim⟩
theorem Cs.ext {w w' : World} {p : Option Addr} {vs : List Value} (h : Cs w p vs) (e : Ext w w') : Cs w' p vs :=
  ⟨fun i u hu => e.cell (h.cell i u hu), h.isS⟩
theorem Cs.take {w : World} {p : Option Addr} {vs : List Value} (h : Cs w p vs) (n : Nat) : Cs w p (vs.take n) :=
  ⟨fun i u hu => h.cell i u (by rw [List.getElem?_take] at hu; split at hu <;> first | exact hu | cases hu), fun hn => h.isS fun h0 => hn (by simp [h0])⟩
theorem Cs.drop {w : World} {a : Addr} {vs : List Value} (h : Cs w (some a) vs) (l : Nat) : Cs w (some (a.add l)) (vs.drop l) :=
  ⟨fun i u hu => by rw [adr_shift]; exact h.cell _ _ (by rw [← hu, List.getElem?_drop]), fun _ => rfl⟩
theorem Cs.blk {w : World} {p : Option Addr} {vs : List Value} (h : Cs w p vs) (hn : vs ≠ []) : (adr p 0).block < w.heap.size := by
  cases vs with
  | nil => exact (hn rfl).elim
  | cons v vs => exact lt_of_cell (h.cell 0 v rfl)
/-- The cells stay where their block stays. -/
theorem Cs.keep {w w' : World} {p : Option Addr} {vs : List Value} (h : Cs w p vs) (e : vs ≠ [] → w'.heap[(adr p 0).block]? = w.heap[(adr p 0).block]?) : Cs w' p vs :=
  ⟨fun i u hu => by
    have hn : vs ≠ [] := by intro h0; subst h0; simp at hu
    rw [World.cell?_of_block (w := w) (by rw [adr_block p i 0]; exact e hn)]
    exact h.cell i u hu, h.isS⟩

/-- A slice type: its element type, the cells of one, its zero, its bytes. -/
class SlTy (P : Program) (t : TypeId) (e : outParam TypeId) (s : outParam Nat) (z : outParam Value) (b : outParam Nat) : Prop where
  und : P.underlying t = some (.slice e)
  inf : (P.info? e).map (fun i => (i.zero, i.size, i.bytes)) = some (some z, s, b)
  zs : z.cells.size = s
  pos : 0 < s
  few : s ≤ 16777216
def notAgg : TypeDesc → Bool
  | .struct _ => false
  | .array _ _ => false
  | _ => true
/-- A type of one cell. -/
class Cell1 (P : Program) (t : TypeId) : Prop where
  und : (P.underlying t).map notAgg = some true
  inf : (P.info? t).map (fun i => i.size) = some 1

def F32s (vs : List Value) (xs : List Nat) : Prop := vs.length = xs.length ∧ ∀ i, i < xs.length → ∃ b, vs[i]? = some (.float .f32 b) ∧ cn .f32 b = xs.getD i 0
def I64s (vs : List Value) (xs : List Int) : Prop := vs = xs.map (Value.int .i64)

theorem own_cs {w : World} {B e s n c g : Nat} {vs : List Value} (h : w.ownsRow B e s (.slice (some ⟨g, 0, none⟩) n c) n vs) : Cs w (some ⟨g, 0, none⟩) vs := by
  refine ⟨fun i u hu => ?_, fun _ => rfl⟩
  have hi : i < n * s := by rw [← h.1]; exact (List.getElem?_eq_some_iff.1 hu).1
  rw [adr_row, h.cellAt i hi]; exact hu
theorem own_B {w : World} {B e s n c g : Nat} {vs : List Value} (h : w.ownsRow B e s (.slice (some ⟨g, 0, none⟩) n c) n vs) : B ≤ g ∧ g < w.heap.size := h.lt g rfl
theorem own_ext {w w' : World} {B e s n : Nat} {v : Value} {vs : List Value} (h : w.ownsRow B e s v n vs) (x : Ext w w') : w'.ownsRow B e s v n vs := by
  obtain ⟨h1, h2⟩ := h
  refine ⟨h1, ?_⟩
  rcases h2 with h2 | ⟨g, cap, cur, hv, hg, hh, r⟩
  · exact .inl h2
  · have hlt : g < w.heap.size := by
      rcases Nat.lt_or_ge g w.heap.size with h' | h'
      · exact h'
      · simp [Array.getElem?_eq_none h'] at hh
    exact .inr ⟨g, cap, cur, hv, hg, by rw [x.block g hlt]; exact hh, r⟩
theorem own_base {w : World} {B B' e s n : Nat} {v : Value} {vs : List Value} (h : w.ownsRow B e s v n vs) (hB : B' ≤ B) : w.ownsRow B' e s v n vs := by
  obtain ⟨h1, h2⟩ := h
  refine ⟨h1, ?_⟩
  rcases h2 with h2 | ⟨g, cap, cur, hv, hg, hh, r⟩
  · exact .inl h2
  · exact .inr ⟨g, cap, cur, hv, by omega, hh, r⟩

/-- A row stays where another row is written, whose block is a later one. -/
theorem own_apart {w w' : World} {B e s n B1 : Nat} {v u : Value} {vs : List Value} (h : w.ownsRow B e s v n vs) (h0 : ∀ k, v.ownBlock = some k → k < B1) (h1 : ∀ k, u.ownBlock = some k → B1 ≤ k) (g : w.grownBy w' u.ownBlock) : w'.ownsRow B e s v n vs := by
  refine h.kept g ?_
  cases hv : v.ownBlock with
  | none => exact .inl rfl
  | some k =>
    right
    intro hu
    have := h0 k hv
    have := h1 k hu.symm
    omega
theorem own_le {w : World} {B e s n : Nat} {v : Value} {vs : List Value} (h : w.ownsRow B e s v n vs) : ∀ k, v.ownBlock = some k → B ≤ k := fun k hk => (h.lt k hk).1
theorem own_lt {w : World} {B e s n : Nat} {v : Value} {vs : List Value} (h : w.ownsRow B e s v n vs) : ∀ k, v.ownBlock = some k → k < w.heap.size := fun k hk => (h.lt k hk).2
/-- Only blocks from B on may have turned. -/
theorem Ext.grown {w0 w w' : World} (h : Ext w0 w) {row : Option Nat} (hg : w.grownBy w' row) (hr : ∀ k, row = some k → w0.heap.size ≤ k) : Ext w0 w' :=
  Ext.of_below ((h.below).grown hg h.size hr)
theorem Ext.setCell {w0 w : World} (h : Ext w0 w) {p : Addr} (hp : w0.heap.size ≤ p.block) (u : Value) : Ext w0 (w.setCell p u) :=
  Ext.of_below ((h.below).setCell hp u)

section
variable {P : Program} {w : World} {ops : Array Oper} {rest : List Oper} {o o1 o2 : Oper} {a : Act} {Q : Exit → Act → World → Prop}

theorem run_indexAt {t e s b : Nat} {z : Value} [T : SlTy P t e s z b] {p : Option Addr} {n c : Nat} {k : IntKind} {i : Int} (hp : p.isSome = true) (h0 : 0 ≤ i) (hn : i < n) :
    (Instr.indexAt t (.slice p n c) (.int k i)).run P w = .ok (.pointer (some (adr p (i.toNat * s)))) w := by
  obtain ⟨q, rfl⟩ := Option.isSome_iff_exists.1 hp
  obtain ⟨ti, hi, hzz⟩ := Option.map_eq_some_iff.1 T.inf
  simp only [Prod.mk.injEq] at hzz
  have hu := T.und
  simp [Instr.indexAt, asIntOf, run_underlying hu, h0, hn, sizeOf, typeInfo, hi, hzz.2.1, adr]

theorem run_load1 {t : TypeId} [T : Cell1 P t] {q : Addr} {u : Value} (h : w.cell? q = some u) : (Instr.loadAt t (.pointer (some q))).run P w = .ok u w := by
  obtain ⟨d, hd, hk⟩ := Option.map_eq_some_iff.1 T.und
  cases d <;> first | (cases hk; done) | simp [Instr.loadAt, Instr.sureAddr, loadVar, isAgg, run_underlying hd, load, Sem.run, h]
theorem run_store1 {t : TypeId} [T : Cell1 P t] {q : Addr} {u v : Value} (h : w.cell? q = some v) (hf : w.frozen? q = false) (h1 : u.oneCell' = true) :
    (Instr.storeAt t (.pointer (some q)) u).run P w = .ok () (w.setCell q u) := by
  obtain ⟨i, hi, hs⟩ := Option.map_eq_some_iff.1 T.inf
  cases u <;> first | (cases h1; done) | simp [Instr.storeAt, Instr.sureAddr, storeVar, sizeOf, typeInfo, hi, hs, Value.cells, storeCells, store, Sem.run, Addr.add, h, hf]

theorem wl_value {v : Value} {w' : World} (hg : o.guard = none) (hr : (execOp a.eval o).run P w = .ok (.value v) w') (h : wpList P ops Q rest (a.put o.dst v) w') : wpList P ops Q (o :: rest) a w :=
  wpList_plain hg fun K hK => by unfold Oper.wp; rw [hr]; exact hK _ _ h
theorem wl_skip {w' : World} (hg : o.guard = none) (hr : (execOp a.eval o).run P w = .ok .skip w') (h : wpList P ops Q rest (a.put o.dst undef) w') : wpList P ops Q (o :: rest) a w :=
  wpList_plain hg fun K hK => by unfold Oper.wp; rw [hr]; exact hK _ _ h

theorem wl_mv {x : Operand} {v : Value} (hg : o.guard = none) (ho : o.op = .move x) (hx : a.eval x = v) (h : wpList P ops Q rest (a.put o.dst v) w) : wpList P ops Q (o :: rest) a w :=
  wl_value hg (by simp [execOp, ho, hx]) h
theorem wl_as {x : Operand} {v : Value} (hg : o.guard = none) (ho : o.op = .assign x) (hx : a.eval x = v) (h : wpList P ops Q rest (a.put o.dst v) w) : wpList P ops Q (o :: rest) a w :=
  wl_value hg (by simp [execOp, ho, hx]) h
theorem wl_idx {t e s b : Nat} {z : Value} [SlTy P t e s z b] {x ix : Operand} (hg : o.guard = none) (ho : o.op = .indexAddr t x ix) {p : Option Addr} {n c : Nat} {k : IntKind} {i : Int}
    (hx : a.eval x = .slice p n c) (hi : a.eval ix = .int k i) (hp : p.isSome = true) (h0 : 0 ≤ i) (hn : i < n)
    (h : wpList P ops Q rest (a.put o.dst (.pointer (some (adr p (i.toNat * s))))) w) : wpList P ops Q (o :: rest) a w :=
  wl_value hg (by simp [execOp, ho, hx, hi, run_indexAt hp h0 hn]) h
theorem wl_load1 {t : TypeId} [Cell1 P t] {x : Operand} (hg : o.guard = none) (ho : o.op = .load t x) {q : Addr} {u : Value} (hx : a.eval x = .pointer (some q)) (hc : w.cell? q = some u)
    (h : wpList P ops Q rest (a.put o.dst u) w) : wpList P ops Q (o :: rest) a w :=
  wl_value hg (by simp [execOp, ho, hx, run_load1 hc]) h

/-- 'xs[i]' of one-cell elements, read. -/
theorem wl_idxload {t e b : Nat} {z : Value} [SlTy P t e 1 z b] [Cell1 P e] {x ix : Operand} {d : Tmp} (hg1 : o1.guard = none) (ho1 : o1.op = .indexAddr t x ix) (hg2 : o2.guard = none) (ho2 : o2.op = .load e (.tmp d))
    {p : Option Addr} {n c : Nat} {k : IntKind} {i : Int} (hd : ∀ y, (a.put o1.dst y).eval (.tmp d) = y)
    (hx : a.eval x = .slice p n c) (hi : a.eval ix = .int k i) {vs : List Value} (hc : Cs w p vs) (hvn : vs.length = n) (h0 : 0 ≤ i) (hn : i < n)
    (h : ∀ u, vs[i.toNat]? = some u → wpList P ops Q rest ((a.put o1.dst (.pointer (some (adr p i.toNat)))).put o2.dst u) w) : wpList P ops Q (o1 :: o2 :: rest) a w := by
  have hlt : i.toNat < vs.length := by omega
  have hu : vs[i.toNat]? = some vs[i.toNat] := by simp [hlt]
  refine wl_idx hg1 ho1 hx hi (hc.isS (by intro h; simp [h] at hlt)) h0 hn ?_
  rw [Nat.mul_one]
  exact wl_load1 hg2 ho2 (hd _) (hc.cell _ _ hu) (h _ hu)

/-- What a row that holds something looks like. -/
theorem own_some {w : World} {B e s n c : Nat} {p : Option Addr} {vs : List Value} (h : w.ownsRow B e s (.slice p n c) n vs) (hn : 0 < n) : ∃ g, p = some ⟨g, 0, none⟩ := by
  rcases h.2 with ⟨_, h0⟩ | ⟨g, cap, cur, hv, _⟩
  · omega
  · cases hv; exact ⟨g, rfl⟩
theorem own_Cs {w : World} {B e s n c : Nat} {p : Option Addr} {vs : List Value} (h : w.ownsRow B e s (.slice p n c) n vs) : Cs w p vs := by
  rcases Nat.eq_zero_or_pos n with h0 | h0
  · subst h0
    have : vs = [] := List.eq_nil_of_length_eq_zero (by have := h.1; omega)
    subst this; exact Cs.nil w p
  · obtain ⟨g, rfl⟩ := own_some h h0
    exact own_cs h
/-- 'xs[i] = u' into a row of the call's own. -/
theorem wl_idxstore {t e b : Nat} {z : Value} [SlTy P t e 1 z b] [Cell1 P e] {x ix y : Operand} {d : Tmp} (hg1 : o1.guard = none) (ho1 : o1.op = .indexAddr t x ix) (hg2 : o2.guard = none) (ho2 : o2.op = .store e (.tmp d) y)
    {p : Option Addr} {n c B : Nat} {k : IntKind} {i : Int} {u : Value} (hd : ∀ y, (a.put o1.dst y).eval (.tmp d) = y)
    (hx : a.eval x = .slice p n c) (hi : a.eval ix = .int k i) (hy : ∀ q, (a.put o1.dst q).eval y = u) (hu1 : u.oneCell' = true) {vs : List Value} (hc : w.ownsRow B e 1 (.slice p n c) n vs) (h0 : 0 ≤ i) (hn : i < n)
    (h : ∀ w', w'.ownsRow B e 1 (.slice p n c) n (vs.set i.toNat u) → w.grownBy w' (Value.slice p n c).ownBlock → wpList P ops Q rest ((a.put o1.dst (.pointer (some (adr p i.toNat)))).put o2.dst undef) w') : wpList P ops Q (o1 :: o2 :: rest) a w := by
  obtain ⟨g, rfl⟩ := own_some hc (by omega)
  have hlen : vs.length = n := by have := hc.1; omega
  have hlt : i.toNat < n := by omega
  refine wl_idx hg1 ho1 hx hi rfl h0 hn ?_
  rw [Nat.mul_one]
  have hcell : w.cell? (adr (some ⟨g, 0, none⟩) i.toNat) = some (vs[i.toNat]'(by omega)) := by
    rw [adr_row, hc.cellAt _ (by omega)]; simp [hlen, hlt]
  have hfr : w.frozen? (adr (some ⟨g, 0, none⟩) i.toNat) = false := by rw [adr_row]; exact hc.frozenAt _
  have hst := hc.stored i.toNat u
  rw [← adr_row] at hst
  refine wl_skip hg2 (w' := w.setCell (adr (some ⟨g, 0, none⟩) i.toNat) u) ?_ (h _ hst.1 hst.2)
  simp [execOp, ho2, hd, hy, run_store1 hcell hfr hu1]
/-- 'xs[i]' of integers. -/
theorem wl_ldI {q : IntKind} {t e b : Nat} {z : Value} [SlTy P t e 1 z b] [Cell1 P e] {x ix : Operand} {d : Tmp} (hg1 : o1.guard = none) (ho1 : o1.op = .indexAddr t x ix) (hg2 : o2.guard = none) (ho2 : o2.op = .load e (.tmp d))
    {p : Option Addr} {n c : Nat} {k : IntKind} {i : Int} (hd : ∀ y, (a.put o1.dst y).eval (.tmp d) = y)
    (hx : a.eval x = .slice p n c) (hi : a.eval ix = .int k i) {xs : List Int} (hc : Cs w p (xs.map (Value.int q))) (hvn : xs.length = n) (h0 : 0 ≤ i) (hn : i < n)
    (h : wpList P ops Q rest ((a.put o1.dst (.pointer (some (adr p i.toNat)))).put o2.dst (.int q (xs.getD i.toNat 0))) w) : wpList P ops Q (o1 :: o2 :: rest) a w := by
  refine wl_idxload hg1 ho1 hg2 ho2 hd hx hi hc (by simp [hvn]) h0 hn fun u hu => ?_
  rw [List.getElem?_map, Option.map_eq_some_iff] at hu
  obtain ⟨y, hy, rfl⟩ := hu
  have : xs.getD i.toNat 0 = y := by simp [hy]
  rw [this] at h; exact h
/-- 'xs[i] = y' of integers. -/
theorem wl_stI {q : IntKind} {t e b : Nat} {z : Value} [SlTy P t e 1 z b] [Cell1 P e] {x ix y : Operand} {d : Tmp} (hg1 : o1.guard = none) (ho1 : o1.op = .indexAddr t x ix) (hg2 : o2.guard = none) (ho2 : o2.op = .store e (.tmp d) y)
    {p : Option Addr} {n c B : Nat} {k : IntKind} {i : Int} {u : Int} (hd : ∀ y, (a.put o1.dst y).eval (.tmp d) = y)
    (hx : a.eval x = .slice p n c) (hi : a.eval ix = .int k i) (hy : ∀ q', (a.put o1.dst q').eval y = .int q u) {xs : List Int} (hc : w.ownsRow B e 1 (.slice p n c) n (xs.map (Value.int q))) (h0 : 0 ≤ i) (hn : i < n)
    (h : ∀ w', w'.ownsRow B e 1 (.slice p n c) n ((xs.set i.toNat u).map (Value.int q)) → w.grownBy w' (Value.slice p n c).ownBlock →
      wpList P ops Q rest ((a.put o1.dst (.pointer (some (adr p i.toNat)))).put o2.dst undef) w') : wpList P ops Q (o1 :: o2 :: rest) a w :=
  wl_idxstore hg1 ho1 hg2 ho2 hd hx hi hy rfl hc h0 hn fun w' h1 h2 => h w' (by rw [List.map_set]; exact h1) h2

/-- 'make([]T, n)'. -/
theorem wl_make {t e s b : Nat} {z : Value} [T : SlTy P t e s z b] {l c : Operand} (B n : Nat) (hg : o.guard = none) (ho : o.op = .makeSlice t l c) {k1 k2 : IntKind}
    (hl : a.eval l = .int k1 (n : Int)) (hc : a.eval c = .int k2 (n : Int)) (hn : n ≤ maxLen) (hb : b * n ≤ 281474976710656) (hB : B ≤ w.heap.size)
    (h : ∀ g w', w'.ownsRow B e s (.slice (some ⟨g, 0, none⟩) n n) n (madeCells z.cells (n * s)).toList → Ext w w' → wpList P ops Q rest (a.put o.dst (.slice (some ⟨g, 0, none⟩) n n)) w') : wpList P ops Q (o :: rest) a w := by
  obtain ⟨ti, hi, hzz⟩ := Option.map_eq_some_iff.1 T.inf
  simp only [Prod.mk.injEq] at hzz
  obtain ⟨w', hrun, h1, h2⟩ := run_make_full (P := P) w B t e ti z s T.und hi hzz.1 hzz.2.1 k1 k2 n (by rw [hzz.2.2]; exact hb) hn hB
  refine wl_value hg (v := .slice (some ⟨w.heap.size, 0, none⟩) n n) (w' := w') (by simp [execOp, ho, hl, hc, hrun]) (h _ w' h1 ⟨h2.os, h2.tape, h2.output, h2.size, fun k hk => h2.block k hk (fun h => by cases h)⟩)

/-- 'append(xs, u)' onto a row of the call's own. -/
theorem wl_app1 {t e s b : Nat} {z : Value} [T : SlTy P t e s z b] {x1 s2 : Operand} {d1 : Tmp} {u : Value} {v : Value} {B n : Nat} {vs : List Value}
    (hg1 : o1.guard = none) (ho1 : o1.op = .buildSlice t 1 #[(0, x1)]) (hg2 : o2.guard = none) (ho2 : o2.op = .call { callee := .builtin .append, args := #[s2, .tmp d1], argTypes := #[t, t] })
    (hx : a.eval x1 = u) (hu : u.cells.size = s) (hu1 : u.cells.toList.all (fun y => y.oneCell') = true) (hd : ∀ y, (a.put o1.dst y).eval (.tmp d1) = y) (hs : ∀ y, (a.put o1.dst y).eval s2 = v)
    (how : w.ownsRow B e s v n vs) (hn : n + 1 ≤ maxLen) (hb : (n + 1) * b ≤ 140737488355328) (hB : B ≤ w.heap.size)
    (h : ∀ g c w', w'.ownsRow B e s (.slice (some ⟨g, 0, none⟩) (n + 1) c) (n + 1) (vs ++ u.cells.toList) → w.grownBy w' v.ownBlock →
      wpList P ops Q rest ((a.put o1.dst (.slice (some ⟨w.heap.size, 0, none⟩) 1 1)).put o2.dst (.slice (some ⟨g, 0, none⟩) (n + 1) c)) w') : wpList P ops Q (o1 :: o2 :: rest) a w := by
  obtain ⟨ti, hi, hzz⟩ := Option.map_eq_some_iff.1 T.inf
  simp only [Prod.mk.injEq] at hzz
  have hund := T.und
  have hpos := T.pos
  have hs24 := T.few
  have hrun : (execOp a.eval o1).run P w = .ok (.value (.slice (some ⟨w.heap.size, 0, none⟩) 1 1)) (w.alloc (.cells u.cells e)) := by
    have hfill : Instr.fill (fun i => some (i * s, s)) ((Array.range (1 * s)).map (z.cells[· % z.cells.size]!)) [(0, u)] = some u.cells := by
      simp only [Instr.fill, hu, Array.size_map, Array.size_range, Nat.zero_mul, Nat.zero_add, Nat.one_mul, Nat.lt_irrefl, ne_eq, not_true_eq_false, decide_false, Bool.or_self, gt_iff_lt, Bool.false_eq_true, if_false]
      congr 1
      exact fill_all _ _ (by simp [hu])
    simp [execOp, ho1, hx, Instr.buildSlice, run_underlying hund, sizeOf, typeInfo, hi, hzz.2.1, zeroValue, hzz.1, show ¬ 16777216 < s by omega, show ¬ s = 0 by omega, newRow]
    rw [show (Array.map (fun x => z.cells[x % z.cells.size]!) (Array.range s)) = (Array.range (1 * s)).map (z.cells[· % z.cells.size]!) by rw [Nat.one_mul], hfill]
    simp
  refine wl_value hg1 hrun ?_
  have how' := how.alloc (Obj.cells u.cells e)
  refine wpList_append_own _ hg2 s2 (.tmp d1) t ho2 B e ti z s b hund hi hzz.1 hzz.2.1 hzz.2.2 T.zs hpos v n vs (hs _) how' ⟨w.heap.size, 0, none⟩ 1 1 u.cells.toList (hd _) (by simp [hu]) ?_ (List.all_eq_true.1 hu1) hn hb (by simp; omega) ?_
  · intro j y hj
    rw [Addr.add_lit, Nat.zero_add]
    have hnew : (w.alloc (.cells u.cells e)).heap[w.heap.size]? = some (.cells u.cells e) := heap_alloc_new w _
    unfold World.cell?
    rw [hnew]
    simpa using hj
  · intro v' w' h1 h2 h3
    rcases h1.2 with ⟨_, h4⟩ | ⟨g, cap, cur, rfl, _⟩
    · omega
    · exact h g cap w' h1 (grown_alloc h2)
where
  grown_alloc {w w' : World} {row : Option Nat} {x : Obj} (h : (w.alloc x).grownBy w' row) : w.grownBy w' row :=
    ⟨h.os, h.tape, h.output, Nat.le_trans (by simp) h.size, fun k hk hr => (h.block k (by simp; omega) hr).trans (Below.heap_alloc w x k hk)⟩
  fill_list : ∀ (l : List Value) (k : Nat) (zs : Array Value), zs.size = k + l.length → ∀ j (hj : j < zs.size),
      ∃ h : j < ((l.zipIdx k).foldl (fun (acc : Array Value) (x : Value × Nat) => acc.setIfInBounds x.2 x.1) zs).size,
        ((l.zipIdx k).foldl (fun (acc : Array Value) (x : Value × Nat) => acc.setIfInBounds x.2 x.1) zs)[j] = if h2 : k ≤ j ∧ j - k < l.length then l[j - k] else zs[j]
    | [], k, zs, hz, j, hj => ⟨hj, by simp⟩
    | y :: l, k, zs, hz, j, hj => by
      simp only [List.length_cons] at hz
      obtain ⟨h1, h2⟩ := fill_list l (k + 1) (zs.setIfInBounds k y) (by simp; omega) j (by simpa using hj)
      refine ⟨by simpa [List.zipIdx_cons] using h1, ?_⟩
      simp only [List.zipIdx_cons, List.foldl_cons]
      rw [h2]
      by_cases hk : j = k
      · subst hk
        rw [dif_neg (by omega), dif_pos (by simp)]
        simp
      · by_cases hlt : k ≤ j ∧ j - k < l.length + 1
        · rw [dif_pos (by omega), dif_pos (by simpa using hlt)]
          have : j - k = (j - (k + 1)) + 1 := by omega
          simp only [this, List.getElem_cons_succ]
        · rw [dif_neg (by omega), dif_neg (by simpa using hlt)]
          exact Array.getElem_setIfInBounds_ne (by omega) (by omega)
  fill_all (cs zs : Array Value) (h : zs.size = cs.size) : Array.foldl (fun (acc : Array Value) (x : Value × Nat) => acc.setIfInBounds x.2 x.1) zs cs.zipIdx = cs := by
    have e : Array.foldl (fun (acc : Array Value) (x : Value × Nat) => acc.setIfInBounds x.2 x.1) zs cs.zipIdx = (cs.toList.zipIdx 0).foldl (fun (acc : Array Value) (x : Value × Nat) => acc.setIfInBounds x.2 x.1) zs := by
      rw [← Array.foldl_toList]; simp
    rw [e]
    have hsz : ∀ (l : List (Value × Nat)) (zs : Array Value), (l.foldl (fun (acc : Array Value) (x : Value × Nat) => acc.setIfInBounds x.2 x.1) zs).size = zs.size := by
      intro l
      induction l with
      | nil => intro zs; rfl
      | cons x l ih => intro zs; simp only [List.foldl_cons]; rw [ih]; simp
    apply Array.ext
    · rw [hsz, h]
    · intro j h1 h2
      obtain ⟨_, h4⟩ := fill_list cs.toList 0 zs (by simp [h]) j (by omega)
      rw [h4, dif_pos (by simp; exact h2)]
      simp
end
end Go.Proofs.Ytnlhahlegedlaaa
