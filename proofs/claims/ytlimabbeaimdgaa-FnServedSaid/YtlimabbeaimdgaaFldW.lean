/- A field of an element is read, where the reading has a condition that holds. -/
import Derived.Test.YtlimabbeaimdgaaKf
import Derived.Test.YtlimabbeaimdgaaKa
namespace Go.Proofs.Ytlimabbeaimdgaa
set_option linter.unusedSimpArgs false
set_option linter.unusedVariables false
open Go.RowKit

section
variable {P : Program} {w : World} {ops : Array Oper} {rest : List Oper} {o1 o2 o3 : Oper} {a : Act} {Q : Exit → Act → World → Prop}
/-- 'xs[i].f' is read, under a condition that holds. -/
theorem wl_ldFieldW {t e b : Nat} {z : Value} {s : Nat} {tf : TypeId} [SlTy P t e s z b] [Cell1 P tf] {x ix : Operand} {d d' : Tmp} {f off : Nat} (hw1 : Region.wanted o1 (yielded ops a.tmps) = true) (ho1 : o1.op = .indexAddr t x ix) (hw2 : ∀ y, Region.wanted o2 (yielded ops (a.put o1.dst y).tmps) = true) (ho2 : o2.op = .fieldAddr e (.tmp d) f)
    (hw3 : ∀ y u, Region.wanted o3 (yielded ops ((a.put o1.dst y).put o2.dst u).tmps) = true) (ho3 : o3.op = .load tf (.tmp d'))
    {p : Option Addr} {n c : Nat} {k : IntKind} {i : Int} {j : Nat} (hd : ∀ y, (a.put o1.dst y).eval (.tmp d) = y) (hd' : ∀ y u, ((a.put o1.dst y).put o2.dst u).eval (.tmp d') = u)
    (hfo : ∀ (q : Addr) (w : World), (Instr.fieldAt e (.pointer (some q)) f).run P w = .ok (.pointer (some (q.add off))) w)
    (hx : a.eval x = .slice p n c) (hi : a.eval ix = .int k i) (hij : i = j) {css : List (List Value)} (hc : Cs w p css.flatten) (hall : ∀ c ∈ css, c.length = s) (hvn : css.length = n) (hn : j < n) (hp : p.isSome = true) {cs : List Value} (hcs : css[j]? = some cs) {u : Value} (hu : cs[off]? = some u)
    (h : wpList P ops Q rest (((a.put o1.dst (.pointer (some (adr p (j * s))))).put o2.dst (.pointer (some (adr p (j * s + off))))).put o3.dst u) w) : wpList P ops Q (o1 :: o2 :: o3 :: rest) a w := by
  subst hij
  refine wl_valueW hw1 (w' := w) (v := .pointer (some (adr p (j * s)))) (by simp [execOp, ho1, hx, hi, run_indexAt hp (show (0 : Int) ≤ (j : Int) by omega) (show (j : Int) < n by omega)]) ?_
  have hj : j < css.length := by omega
  obtain ⟨_, rfl⟩ := List.getElem?_eq_some_iff.1 hcs
  have hadd : (adr p (j * s)).add off = adr p (j * s + off) := by unfold adr; rw [add_add]
  refine wl_valueW (hw2 _) (w' := w) (v := .pointer (some (adr p (j * s + off)))) (by simp [execOp, ho2, hd, hfo, hadd]) ?_
  have hoff : off < s := by have := (List.getElem?_eq_some_iff.1 hu).1; rwa [hall _ (List.getElem_mem hj)] at this
  have hcell : w.cell? (adr p (j * s + off)) = some u := hc.cell _ _ (by rw [flat_get hall hj hoff]; exact hu)
  exact wl_valueW (hw3 _ _) (by simp [execOp, ho3, hd', run_load1 hcell]) h
end
theorem fit_int {n : Int} (h : (Lit.int .i64 n).wf = true) : Fit .int n := by
  simp [Lit.wf, IntKind.min, IntKind.max, IntKind.bits, IntKind.signed] at h
  unfold Fit
  omega
end Go.Proofs.Ytlimabbeaimdgaa
