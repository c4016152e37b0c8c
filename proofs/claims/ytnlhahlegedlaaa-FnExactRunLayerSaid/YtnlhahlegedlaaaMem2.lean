/- More laws of the walk on memory: a part of a slice, a slice appended to a row of the call's own, text appended. -/
import Derived.Test.YtnlhahlegedlaaaStep
import Derived.Lib.AppendStr
namespace Go.Proofs.Ytnlhahlegedlaaa
set_option linter.unusedSimpArgs false
set_option linter.unusedVariables false
open Go.RowKit

section
variable {P : Program} {w : World} {ops : Array Oper} {rest : List Oper} {o o1 o2 : Oper} {a : Act} {Q : Exit → Act → World → Prop}

/-- The address of a part of a slice. -/
def subp (p : Option Addr) (s l c : Nat) : Option Addr := if c = l then p else p.map (·.add (l * s))
theorem Cs.sub {w : World} {p : Option Addr} {vs : List Value} (h : Cs w p vs) {s l hi c : Nat} (h1 : l ≤ hi) (h2 : hi ≤ c) : Cs w (subp p s l c) ((vs.take (hi * s)).drop (l * s)) := by
  unfold subp
  by_cases hc : c = l
  · subst hc
    have : hi = c := by omega
    subst this
    rw [if_pos rfl, List.drop_eq_nil_of_le (by simp; omega)]
    exact Cs.nil w p
  · rw [if_neg hc]
    cases p with
    | none =>
      have : vs = [] := Classical.byContradiction fun hn => by have := h.isS hn; simp at this
      subst this
      simpa using Cs.nil w none
    | some a => exact (h.take _).drop _

theorem run_slice {t e s b : Nat} {z : Value} [T : SlTy P t e s z b] {p : Option Addr} {n c l hi : Nat} {k1 k2 : IntKind} (h1 : l ≤ hi) (h2 : hi ≤ c) :
    (Instr.sliceAt t (.slice p n c) (some (.int k1 (l : Int))) (some (.int k2 (hi : Int))) none).run P w = .ok (.slice (subp p s l c) (hi - l) (c - l)) w := by
  obtain ⟨ti, hi', hzz⟩ := Option.map_eq_some_iff.1 T.inf
  simp only [Prod.mk.injEq] at hzz
  have hu := T.und
  simp [Instr.sliceAt, Instr.slice, Instr.sliceBounds, Instr.sliceBound, asIntOf, run_underlying hu, sizeOf, typeInfo, hi', hzz.2.1, subp, h1, h2]
theorem run_sliceTo {t e s b : Nat} {z : Value} [T : SlTy P t e s z b] {p : Option Addr} {n c hi : Nat} {k2 : IntKind} (h2 : hi ≤ c) :
    (Instr.sliceAt t (.slice p n c) none (some (.int k2 (hi : Int))) none).run P w = .ok (.slice (subp p s 0 c) (hi - 0) (c - 0)) w := by
  obtain ⟨ti, hi', hzz⟩ := Option.map_eq_some_iff.1 T.inf
  simp only [Prod.mk.injEq] at hzz
  have hu := T.und
  simp [Instr.sliceAt, Instr.slice, Instr.sliceBounds, Instr.sliceBound, asIntOf, run_underlying hu, sizeOf, typeInfo, hi', hzz.2.1, subp, h2]
theorem run_sliceFrom {t e s b : Nat} {z : Value} [T : SlTy P t e s z b] {p : Option Addr} {n c l : Nat} {k2 : IntKind} (h1 : l ≤ n) (h2 : n ≤ c) :
    (Instr.sliceAt t (.slice p n c) (some (.int k2 (l : Int))) none none).run P w = .ok (.slice (subp p s l c) (n - l) (c - l)) w := by
  obtain ⟨ti, hi', hzz⟩ := Option.map_eq_some_iff.1 T.inf
  simp only [Prod.mk.injEq] at hzz
  have hu := T.und
  simp [Instr.sliceAt, Instr.slice, Instr.sliceBounds, Instr.sliceBound, asIntOf, run_underlying hu, sizeOf, typeInfo, hi', hzz.2.1, subp, h1, h2]

/-- 'xs[l:hi]'. -/
theorem wl_slice {t e s b : Nat} {z : Value} [T : SlTy P t e s z b] {x lo hi : Operand} (hg : o.guard = none) (ho : o.op = .slice t x (some lo) (some hi) none) {p : Option Addr} {n c : Nat} {k1 k2 : IntKind} {li ui : Int} {l u : Nat}
    (hx : a.eval x = .slice p n c) (hlo : a.eval lo = .int k1 li) (hhi : a.eval hi = .int k2 ui) (h1 : li = l) (h2 : ui = u) (h3 : l ≤ u) (h4 : u ≤ c)
    (h : wpList P ops Q rest (a.put o.dst (.slice (subp p s l c) (u - l) (c - l))) w) : wpList P ops Q (o :: rest) a w := by
  subst h1; subst h2
  exact wl_value hg (by simp [execOp, ho, hx, hlo, hhi, run_slice h3 h4]) h
/-- 'xs[:hi]'. -/
theorem wl_sliceTo {t e s b : Nat} {z : Value} [T : SlTy P t e s z b] {x hi : Operand} (hg : o.guard = none) (ho : o.op = .slice t x none (some hi) none) {p : Option Addr} {n c : Nat} {k2 : IntKind} {ui : Int} {u : Nat}
    (hx : a.eval x = .slice p n c) (hhi : a.eval hi = .int k2 ui) (h2 : ui = u) (h4 : u ≤ c)
    (h : wpList P ops Q rest (a.put o.dst (.slice (subp p s 0 c) (u - 0) (c - 0))) w) : wpList P ops Q (o :: rest) a w := by
  subst h2
  exact wl_value hg (by simp [execOp, ho, hx, hhi, run_sliceTo h4]) h
/-- 'xs[l:]'. -/
theorem wl_sliceFrom {t e s b : Nat} {z : Value} [T : SlTy P t e s z b] {x lo : Operand} (hg : o.guard = none) (ho : o.op = .slice t x (some lo) none none) {p : Option Addr} {n c : Nat} {k1 : IntKind} {li : Int} {l : Nat}
    (hx : a.eval x = .slice p n c) (hlo : a.eval lo = .int k1 li) (h1 : li = l) (h3 : l ≤ n) (h4 : n ≤ c)
    (h : wpList P ops Q rest (a.put o.dst (.slice (subp p s l c) (n - l) (c - l))) w) : wpList P ops Q (o :: rest) a w := by
  subst h1
  exact wl_value hg (by simp [execOp, ho, hx, hlo, run_sliceFrom h3 h4]) h

/-- 'append(xs, ys...)' onto a row of the call's own. -/
theorem wl_appn {t e s b : Nat} {z : Value} [T : SlTy P t e s z b] {x1 x2 : Operand} {v : Value} {B n m c : Nat} {vs us : List Value} {p : Option Addr}
    (hg : o.guard = none) (ho : o.op = .call { callee := .builtin .append, args := #[x1, x2], argTypes := #[t, t] })
    (hx1 : a.eval x1 = v) (hx2 : a.eval x2 = .slice p m c) (how : w.ownsRow B e s v n vs) (hc : Cs w p us) (hm : us.length = m * s) (hmc : m ≤ c) (h1 : ∀ u ∈ us, u.oneCell' = true) (hp : p = none → c = 0)
    (hn : n + m ≤ maxLen) (hb : (n + m) * b ≤ 140737488355328) (hB : B ≤ w.heap.size)
    (h : ∀ v' w', w'.ownsRow B e s v' (n + m) (vs ++ us) → w.grownBy w' v.ownBlock → wpList P ops Q rest (a.put o.dst v') w') : wpList P ops Q (o :: rest) a w := by
  obtain ⟨ti, hi, hzz⟩ := Option.map_eq_some_iff.1 T.inf
  simp only [Prod.mk.injEq] at hzz
  cases p with
  | some ad =>
    exact wpList_append_own _ hg x1 x2 t ho B e ti z s b T.und hi hzz.1 hzz.2.1 hzz.2.2 T.zs T.pos v n vs hx1 how ad m c us hx2 hm (fun j u hj => hc.cell j u hj) h1 hn hb hB (fun v' w' h1 h2 _ => h v' w' h1 h2)
  | none =>
    have hus : us = [] := Classical.byContradiction fun hn => by have := hc.isS hn; simp at this
    obtain rfl := hp rfl
    obtain rfl : m = 0 := by omega
    subst hus
    refine wpList_plain hg fun K hK' => ?_
    have hrun := run_append_owned_none (P := P) w B t o.type e ti s T.und hi v n vs how
    unfold Oper.wp
    simp [execOp, ho, resolve, invoke, builtin, hx1, hx2, hrun, Result.andThen]
    exact hK' _ _ (h v w (by simpa using how) (World.grownBy.refl _ _))
@[go_sem] theorem run_eql_nil {t e s b : Nat} {z : Value} [T : SlTy P t e s z b] (p : Option Addr) (n c : Nat) : (binOp .eql t (.slice p n c) (.slice none 0 0)).run P w = .ok (.bool p.isNone) w :=
  Lib.run_eql_slice_nil w t e p n c 0 0 T.und
end
end Go.Proofs.Ytnlhahlegedlaaa
