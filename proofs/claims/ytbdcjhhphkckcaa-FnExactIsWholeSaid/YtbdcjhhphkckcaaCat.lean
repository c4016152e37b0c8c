/- slices.Grow and slices.Concat of layers. -/
import Derived.Test.YtbdcjhhphkckcaaCpyS
import Derived.Lib.AppendZeros
namespace Go.Proofs.Ytbdcjhhphkckcaa
set_option linter.unusedSimpArgs false
set_option linter.unusedVariables false
open Go.RowKit

section
variable {P : Program} {w : World} {ops : Array Oper} {rest : List Oper} {o : Oper} {a : Act} {Q : Exit → Act → World → Prop}
/-- 'append(nil, make([]T, n)...)'. -/
theorem wl_growNil {t tn e s b : Nat} {z : Value} [T : SlTy P t e s z b] {x1 x2 : Operand} {k kn : IntKind} {n : Nat} (hg : o.guard = none) (ho : o.op = .call { callee := .builtin .append, args := #[x1, x2], argTypes := #[t, tn] }) (htn : P.underlying tn = some (.int kn))
    (hx1 : a.eval x1 = .slice none 0 0) (hx2 : a.eval x2 = .int k (n : Int)) (h0 : 0 < n) (hm : n ≤ maxLen) (h48 : n * b ≤ 281474976710656)
    (h : ∀ c w', n ≤ c → w'.ownsRow w.heap.size e s (.slice (some ⟨w.heap.size, 0, none⟩) 0 c) 0 [] → Ext w w' → wpList P ops Q rest (a.put o.dst (.slice (some ⟨w.heap.size, 0, none⟩) n c)) w') : wpList P ops Q (o :: rest) a w := by
  obtain ⟨ti, hi, hzz⟩ := Option.map_eq_some_iff.1 T.inf
  simp only [Prod.mk.injEq] at hzz
  have hz := T.zs
  have hm' := hm
  unfold maxLen at hm'
  have hr := Lib.run_append_nil_zeros (P := P) w t tn o.type e ti z k kn T.und htn hi hzz.1 n h0 (by rw [hzz.2.1]; exact T.pos) (by omega) (by rw [hzz.2.2]; exact h48)
  have hge := grownCap_ge w n 0 e
  have hle := grownCap_le_maxLen w n 0 e hm
  refine Lib.wpList_append_run w hg x1 x2 t tn ho _ _ hx1 hx2 _ _ hr (h _ _ hge ?_ ((Ext.drew w).trans (Ext.alloc _ _)))
  refine ⟨by simp, .inr ⟨w.heap.size, _, _, rfl, Nat.le_refl _, heap_alloc_new w.drew _, Nat.zero_le _, hle, ?_, by simp⟩⟩
  rw [Array.size_append, size_zeroCells, size_zeroCells, hz, ← Nat.add_mul]
  congr 1; omega
end
theorem subp0 {b s c : Nat} : subp (some ⟨b, 0, none⟩) s 0 c = some ⟨b, 0, none⟩ := by
  unfold subp
  split <;> simp [Addr.add_lit]
theorem own_val {w : World} {B te s n : Nat} {v : Value} {xs : List Value} (h : w.ownsRow B te s v n xs) : ∃ q k, v = .slice q n k := by
  rcases h.2 with ⟨rfl, rfl⟩ | ⟨g, cap, cur, rfl, _⟩
  · exact ⟨none, 0, rfl⟩
  · exact ⟨_, _, rfl⟩
end Go.Proofs.Ytbdcjhhphkckcaa
