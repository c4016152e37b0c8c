/- A struct's cells written into a block of the call's own, whole at a place. -/
import Derived.Test.YtlimabbeaimdgaaCpyM
import Derived.Test.YtlimabbeaimdgaaKb
import Derived.Laws.CopyRow
namespace Go.Proofs.Ytlimabbeaimdgaa
set_option linter.unusedSimpArgs false
set_option linter.unusedVariables false
open Go.RowKit

theorem chg_row (w : World) (g : Nat) (cs : Array Value) : Chg (fun k => k = g) w (w.setRow g cs) := ⟨rfl, rfl, rfl, by simp, fun k _ hn => setRow_other w g k cs hn⟩
section
variable {P : Program} {w : World} {ops : Array Oper} {rest : List Oper} {o : Oper} {a : Act} {Q : Exit → Act → World → Prop}
theorem wl_stHBs {t : TypeId} {s : Sh} [T : ElTy P t s] {x y : Operand} (hgd : o.guard = none) (ho : o.op = .store t x y) {g j : Nat} {Z : Array Value} {e : TypeId} {cs : List Value} (hx : a.eval x = .pointer (some ⟨g, j, none⟩)) (hy : a.eval y = ofCs s cs) (hg : HB w g Z e) (hl : cs.length = s.sz) (h1 : ∀ u ∈ cs, u.oneCell' = true) (hj : j + s.sz ≤ Z.size)
    {Z' : Array Value} (hZ : (Z.toList.take j ++ cs ++ Z.toList.drop (j + cs.length)).toArray = Z')
    (h : ∀ w', HB w' g Z' e → Chg (fun b => b = g) w w' → wpList P ops Q rest (a.put o.dst undef) w') : wpList P ops Q (o :: rest) a w := by
  have h2 := run_storeCells_at P g j e cs 0 Z w hg (by rw [Nat.add_zero, hl]; exact hj) h1
  rw [Nat.add_zero, hZ] at h2
  obtain ⟨i, hi, hz⟩ := Option.map_eq_some_iff.1 T.inf
  have hcells := ofCs_cells hl h1
  refine wl_skip hgd (w' := w.setRow g Z') ?_ (h _ (setRow_heap w g Z Z' e (0, 0) hg) (chg_row w g Z'))
  simp [execOp, ho, hx, hy, Instr.storeAt, Instr.sureAddr, storeVar, sizeOf, typeInfo, hi, hz, hcells, hl, h2]
end
end Go.Proofs.Ytlimabbeaimdgaa
