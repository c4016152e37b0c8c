/- 'append(xs, ys...)' onto a row of the call's own, whatever is appended. -/
import Derived.Test.YtnlhahlegedlaaaMem2
namespace Go.Proofs.Ytnlhahlegedlaaa
set_option linter.unusedSimpArgs false
set_option linter.unusedVariables false
open Go.RowKit

section
variable {P : Program} {w : World} {ops : Array Oper} {rest : List Oper} {o : Oper} {a : Act} {Q : Exit → Act → World → Prop}
theorem run_append_none (base : Nat) (t ty e : TypeId) (i : TypeInfo) (size : Nat) (ht : P.underlying t = some (.slice e)) (hi : P.info? e = some i)
    (v : Value) (n c : Nat) (xs : List Value) (hown : w.ownsRow base e size v n xs) :
    (Builtin.append_ #[t, t] ty #[v, .slice none 0 c]).run P w = .ok v w := by
  rcases hown.2 with ⟨rfl, rfl⟩ | ⟨g, cap, cur, rfl, _, _, hnc, _⟩
  · simp [Builtin.append_, run_underlying ht, sizeOf, typeInfo, hi, Builtin.lenOf, Builtin.firstCells]
  · simp [Builtin.append_, run_underlying ht, sizeOf, typeInfo, hi, Builtin.lenOf, Builtin.firstCells, hnc, storeCells]
theorem wl_appz {t e s b : Nat} {z : Value} [T : SlTy P t e s z b] {x1 x2 : Operand} {v : Value} {B n m c : Nat} {vs us : List Value} {p : Option Addr}
    (hg : o.guard = none) (ho : o.op = .call { callee := .builtin .append, args := #[x1, x2], argTypes := #[t, t] })
    (hx1 : a.eval x1 = v) (hx2 : a.eval x2 = .slice p m c) (how : w.ownsRow B e s v n vs) (hc : Cs w p us) (hm : us.length = m * s) (hmc : m ≤ c) (h1 : ∀ u ∈ us, u.oneCell' = true)
    (hn : n + m ≤ maxLen) (hb : (n + m) * b ≤ 140737488355328) (hB : B ≤ w.heap.size)
    (h : ∀ v' w', w'.ownsRow B e s v' (n + m) (vs ++ us) → w.grownBy w' v.ownBlock → wpList P ops Q rest (a.put o.dst v') w') : wpList P ops Q (o :: rest) a w := by
  obtain ⟨ti, hi, hzz⟩ := Option.map_eq_some_iff.1 T.inf
  simp only [Prod.mk.injEq] at hzz
  cases p with
  | some ad =>
    exact wpList_append_own _ hg x1 x2 t ho B e ti z s b T.und hi hzz.1 hzz.2.1 hzz.2.2 T.zs T.pos v n vs hx1 how ad m c us hx2 hm (fun j u hj => hc.cell j u hj) h1 hn hb hB (fun v' w' h1 h2 _ => h v' w' h1 h2)
  | none =>
    have hus : us = [] := Classical.byContradiction fun hn => by have := hc.isS hn; simp at this
    subst hus
    have hm0 : m = 0 := by
      rcases Nat.eq_zero_or_pos m with h | h
      · exact h
      · have := Nat.mul_pos h T.pos; simp at hm; omega
    subst hm0
    refine wpList_plain hg fun K hK' => ?_
    have hrun := run_append_none (P := P) B t o.type e ti s T.und hi v n c vs how
    unfold Oper.wp
    simp [execOp, ho, resolve, invoke, builtin, hx1, hx2, hrun, Result.andThen]
    exact hK' _ _ (h v w (by simpa using how) (World.grownBy.refl _ _))
end
end Go.Proofs.Ytnlhahlegedlaaa
