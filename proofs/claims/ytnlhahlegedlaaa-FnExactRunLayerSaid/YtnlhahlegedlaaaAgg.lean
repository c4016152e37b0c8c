/- Structs as values: put into memory, read and written whole. -/
import Derived.Test.YtnlhahlegedlaaaElem
namespace Go.Proofs.Ytnlhahlegedlaaa
set_option linter.unusedSimpArgs false
set_option linter.unusedVariables false
open Go.RowKit

section
variable {P : Program} {w : World} {ops : Array Oper} {rest : List Oper} {o o1 o2 : Oper} {a : Act} {Q : Exit → Act → World → Prop}
theorem ofCs_agg {s : Sh} (h : s.agg = true) (cs : List Value) : ofCs s cs = .agg cs.toArray := by unfold ofCs; rw [if_pos h]
/-- A struct is read whole. -/
theorem wl_ldA {t : TypeId} {s : Sh} [ElTy P t s] {x : Operand} (hg : o.guard = none) (ho : o.op = .load t x) {q : Addr} {cs : List Value} (hx : a.eval x = .pointer (some q)) (hc : Cs w (some q) cs) (hl : cs.length = s.sz)
    (h : wpList P ops Q rest (a.put o.dst (ofCs s cs)) w) : wpList P ops Q (o :: rest) a w :=
  wl_value hg (by simp [execOp, ho, hx, run_loadE (P := P) (t := t) (s := s) hc hl]) h
/-- A struct is put into new memory. -/
theorem wl_box {t : TypeId} {s : Sh} {x : Operand} (hg : o.guard = none) (ho : o.op = .box t x) {cs : List Value} (hx : a.eval x = ofCs s cs) (hl : cs.length = s.sz) (h1 : ∀ u ∈ cs, u.oneCell' = true)
    (h : ∀ b w', Ext w w' → w.heap.size ≤ b → Cs w' (some ⟨b, 0, none⟩) cs → wpList P ops Q rest (a.put o.dst (.pointer (some ⟨b, 0, none⟩))) w') : wpList P ops Q (o :: rest) a w := by
  refine wl_value hg (v := .pointer (some ⟨w.heap.size, 0, none⟩)) (w' := w.alloc (.cells cs.toArray t)) ?_ (h _ _ (Ext.alloc _ _) (Nat.le_refl _) ⟨fun i u hu => ?_, fun _ => rfl⟩)
  · simp [execOp, ho, hx, Instr.box, newVar, newRow, ofCs_cells hl h1]
  · rw [adr_row]
    have hnew : (w.alloc (.cells cs.toArray t)).heap[w.heap.size]? = some (.cells cs.toArray t) := heap_alloc_new w _
    unfold World.cell?
    rw [hnew]
    simpa using hu
/-- A struct is written whole into a block of its own. -/
theorem run_stA {t : TypeId} {s : Sh} [T : ElTy P t s] {g : Nat} {Z : Array Value} {e : TypeId} {cs : List Value} (hg : w.heap[g]? = some (.cells Z e (0, 0))) (hZ : Z.size = s.sz) (hl : cs.length = s.sz) (h1 : ∀ u ∈ cs, u.oneCell' = true) (hs : 0 < s.sz) :
    ∃ w', (Instr.storeAt t (.pointer (some ⟨g, 0, none⟩)) (ofCs s cs)).run P w = .ok () w' ∧ Cs w' (some ⟨g, 0, none⟩) cs ∧ Chg (fun b => b = g) w w' := by
  have how : OwnRow w (some ⟨g, 0, none⟩) 1 1 ([Z.toList]).flatten := .inr ⟨g, Z, e, rfl, hg, by simp only [List.flatten_cons, List.flatten_nil, List.append_nil]; exact List.take_length⟩
  obtain ⟨w', h2, h3, h4⟩ := run_storeE (P := P) (t := t) (s := s) (j := 0) how (by simp [hZ]) (by simp) hl hs h1
  refine ⟨w', ?_, ?_, h4.mono (by intro k hk; simpa [blocksOf] using hk)⟩
  · rw [Nat.zero_mul, adr_row] at h2; exact h2
  · have := h3.cs; simpa using this
theorem wl_stA {t : TypeId} {s : Sh} [T : ElTy P t s] {x y : Operand} (hgd : o.guard = none) (ho : o.op = .store t x y) {g : Nat} {Z : Array Value} {e : TypeId} {cs : List Value} (hx : a.eval x = .pointer (some ⟨g, 0, none⟩)) (hy : a.eval y = ofCs s cs)
    (hg : w.heap[g]? = some (.cells Z e (0, 0))) (hZ : Z.size = s.sz) (hl : cs.length = s.sz) (h1 : ∀ u ∈ cs, u.oneCell' = true) (hs : 0 < s.sz)
    (h : ∀ w', Cs w' (some ⟨g, 0, none⟩) cs → Chg (fun b => b = g) w w' → wpList P ops Q rest (a.put o.dst undef) w') : wpList P ops Q (o :: rest) a w := by
  obtain ⟨w', h2, h3, h4⟩ := run_stA (P := P) (t := t) hg hZ hl h1 hs
  exact wl_skip hgd (by simp [execOp, ho, hx, hy, h2]) (h w' h3 h4)
end
section
variable {P : Program} {w wf : World} {ops : Array Oper} {rest : List Oper} {o o1 o2 : Oper} {a : Act} {Q : Act → Prop} {F : Option Tmp → World → Value → Prop}
theorem x_ldA {t : TypeId} {s : Sh} [ElTy P t s] {x : Operand} (hw : Region.wanted o (yielded ops a.tmps) = true) (ho : o.op = .load t x) {q : Addr} {cs : List Value} (hx : a.eval x = .pointer (some q)) (hc : Cs w (some q) cs) (hl : cs.length = s.sz)
    (h : wpX P ops F w wf Q rest (a.put o.dst (ofCs s cs))) : wpX P ops F w wf Q (o :: rest) a :=
  x_pure hw (fun w1 h1 => by simp [execOp, ho, hx, run_loadE (P := P) (t := t) (s := s) (hc.ext h1) hl]) h
end
end Go.Proofs.Ytnlhahlegedlaaa
