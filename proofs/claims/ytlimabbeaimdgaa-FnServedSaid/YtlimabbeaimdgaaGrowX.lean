/- One-element lists built in a region whose order is drawn, and appended behind it. -/
import Derived.Test.YtlimabbeaimdgaaKb
import Derived.Test.YtlimabbeaimdgaaCpyM
namespace Go.Proofs.Ytlimabbeaimdgaa
set_option linter.unusedSimpArgs false
set_option linter.unusedVariables false
open Go.RowKit

section
variable {P : Program} {w : World} {o : Oper} {a : Act}
theorem run_build1 {t e s b : Nat} {z : Value} [T : SlTy P t e s z b] {x1 : Operand} {u : Value} (ho1 : o.op = .buildSlice t 1 #[(0, x1)]) (hx : a.eval x1 = u) (hu : u.cells.size = s) (w : World) :
    (execOp a.eval o).run P w = .ok (.value (.slice (some ⟨w.heap.size, 0, none⟩) 1 1)) (w.alloc (.cells u.cells e)) := by
  obtain ⟨ti, hi, hzz⟩ := Option.map_eq_some_iff.1 T.inf
  simp only [Prod.mk.injEq] at hzz
  have hund := T.und
  have hpos := T.pos
  have hs24 := T.few
  have hfill : Instr.fill (fun i => some (i * s, s)) ((Array.range (1 * s)).map (z.cells[· % z.cells.size]!)) [(0, u)] = some u.cells := by
    simp only [Instr.fill, hu, Array.size_map, Array.size_range, Nat.zero_mul, Nat.zero_add, Nat.one_mul, Nat.lt_irrefl, ne_eq, not_true_eq_false, decide_false, Bool.or_self, gt_iff_lt, Bool.false_eq_true, if_false]
    congr 1
    exact wl_app1.fill_all (w := w) (s := s) (b := b) (u := u) (B := 0) (n := 0) _ _ (by simp [hu])
  simp [execOp, ho1, hx, Instr.buildSlice, run_underlying hund, sizeOf, typeInfo, hi, hzz.2.1, zeroValue, hzz.1, show ¬ 16777216 < s by omega, show ¬ s = 0 by omega, newRow]
  rw [show (Array.map (fun x => z.cells[x % z.cells.size]!) (Array.range s)) = (Array.range (1 * s)).map (z.cells[· % z.cells.size]!) by rw [Nat.one_mul], hfill]
  simp
end
theorem cs_heap {w : World} {b : Nat} {Z : Array Value} {t : TypeId} (h : w.heap[b]? = some (.cells Z t)) : Cs w (some ⟨b, 0, none⟩) Z.toList := by
  refine ⟨fun i u hu => ?_, fun _ => rfl⟩
  rw [adr_row]
  unfold World.cell?
  rw [h]
  simpa using hu
section
variable {P : Program} {w wf : World} {ops : Array Oper} {rest : List Oper} {o : Oper} {a : Act} {Q : Act → Prop} {F : Option Tmp → World → World → Value → Prop}
/-- A list of one element, in a region whose order is drawn. -/
theorem x_build1 {t e s b : Nat} {z : Value} [T : SlTy P t e s z b] {x1 : Operand} {u : Value} (hw : Region.wanted o (yielded ops a.tmps) = true) (ho1 : o.op = .buildSlice t 1 #[(0, x1)]) (hx : a.eval x1 = u) (hu : u.cells.size = s)
    (h : ∀ g, w.heap.size ≤ g → g < wf.heap.size → Cs wf (some ⟨g, 0, none⟩) u.cells.toList → wpX P ops F w wf Q rest (a.put o.dst (.slice (some ⟨g, 0, none⟩) 1 1))) : wpX P ops F w wf Q (o :: rest) a :=
  x_made (V := fun wf v => ∃ g, v = .slice (some ⟨g, 0, none⟩) 1 1 ∧ w.heap.size ≤ g ∧ g < wf.heap.size ∧ Cs wf (some ⟨g, 0, none⟩) u.cells.toList) hw
    (fun w1 e1 => ⟨_, _, run_build1 ho1 hx hu w1, Ext.alloc _ _, fun wf hf => ⟨w1.heap.size, rfl, e1.size, Nat.lt_of_lt_of_le (by simp) hf.size, cs_heap (by rw [hf.block _ (by simp)]; exact heap_alloc_new w1 _)⟩⟩)
    (fun v ⟨g, h1, h2, h3, h4⟩ => by subst h1; exact h g h2 h3 h4)
end
section
variable {P : Program} {w : World} {ops : Array Oper} {rest : List Oper} {o : Oper} {a : Act} {Q : Exit → Act → World → Prop}
/-- 'append(xs, us...)' of one element, and where the row lies behind it. -/
theorem wl_app1s {t e s b : Nat} {z : Value} [T : SlTy P t e s z b] {x1 x2 : Operand} {v : Value} {B n c : Nat} {vs us : List Value} {q : Addr}
    (hg : o.guard = none) (ho : o.op = .call { callee := .builtin .append, args := #[x1, x2], argTypes := #[t, t] }) (hx1 : a.eval x1 = v) (hx2 : a.eval x2 = .slice (some q) 1 c) (how : w.ownsRow B e s v n vs) (hc : Cs w (some q) us) (hm : us.length = s) (h1 : ∀ u ∈ us, u.oneCell' = true)
    (hn : n + 1 ≤ maxLen) (hb : (n + 1) * b ≤ 140737488355328) (hB : B ≤ w.heap.size)
    (h : ∀ g c w', w'.ownsRow B e s (.slice (some ⟨g, 0, none⟩) (n + 1) c) (n + 1) (vs ++ us) → w.grownBy w' v.ownBlock → (v.ownBlock = some g ∨ w.heap.size ≤ g) →
      wpList P ops Q rest (a.put o.dst (.slice (some ⟨g, 0, none⟩) (n + 1) c)) w') : wpList P ops Q (o :: rest) a w := by
  obtain ⟨ti, hi, hzz⟩ := Option.map_eq_some_iff.1 T.inf
  simp only [Prod.mk.injEq] at hzz
  have hund := T.und
  have hpos := T.pos
  refine wpList_append_own_at _ hg x1 x2 t ho B e ti z s b hund hi hzz.1 hzz.2.1 hzz.2.2 T.zs hpos v n vs hx1 how q 1 c us hx2 (by omega) (fun j u hj => hc.cell j u hj) h1 hn hb hB ?_
  intro v' w' h1 h2 h3 h4
  rcases h1.2 with ⟨_, h5⟩ | ⟨g, cap, cur, rfl, _⟩
  · omega
  · refine h g cap w' h1 h2 ?_
    rcases h4 with h4 | h4
    · left; rw [← h4]; rfl
    · right; simp [Value.ownBlock] at h4; omega
end
/-- One element more, the row anywhere new. -/
theorem GrowOwn.snoc2 {w0 w w' : World} {B : Nat} {te : TypeId} {E : Sh} {v : Value} {l : List E.T} {css : List (List Value)} {bss : List (List Nat)} (h : GrowOwn w0 B te E v l css bss) (hx : Ext w0 w) {cs : List Value} {d : E.T} {bs : List Nat}
    (ho : Own w E cs d bs) (hn : bs.Nodup) (hf : ∀ b ∈ bs, w0.heap.size ≤ b) (hB : B ≤ w0.heap.size) {g c n : Nat} (hln : l.length = n) (hr : w'.ownsRow B te E.sz (.slice (some ⟨g, 0, none⟩) (n + 1) c) (n + 1) (css.flatten ++ cs)) (hg : w.grownBy w' v.ownBlock) (hw : v.ownBlock = some g ∨ w.heap.size ≤ g) :
    GrowOwn w' B te E (.slice (some ⟨g, 0, none⟩) (n + 1) c) (l ++ [d]) (css ++ [cs]) (bss ++ [bs]) := by
  subst hln
  have lt0 := h.els.lt
  have hv : ∀ k, v.ownBlock = some k → k < w0.heap.size := own_lt h.row
  have hsz := hx.size
  have ch : Chg (fun k => some k = v.ownBlock) w w' := Chg.of_grown hg
  refine ⟨by simpa [List.flatten_append] using hr, ?_, ?_, ?_⟩
  · refine OwnEs.snoc ((h.els.chg (.of_ext hx) (S := fun _ => False) (fun _ _ h => h)).chg ch (fun b hb hk => (h.lo b hb).2 hk.symm)) (ho.chg ch fun b hb hk => ?_)
    have := hv b hk.symm; have := hf b hb; omega
  · rw [List.flatten_append, List.flatten_cons, List.flatten_nil, List.append_nil]
    exact nodup_app h.nodup hn lt0 hf
  · intro b hb
    rw [List.flatten_append, List.flatten_cons, List.flatten_nil, List.append_nil, List.mem_append] at hb
    have hlb : b < w.heap.size := by
      rcases hb with hb | hb
      · have := lt0 b hb; omega
      · exact ho.lt b hb
    refine ⟨?_, fun hk => ?_⟩
    · rcases hb with hb | hb
      · exact (h.lo b hb).1
      · have := hf b hb; omega
    · simp [Value.ownBlock] at hk; subst hk
      rcases hw with hw | hw
      · rcases hb with hb | hb
        · exact (h.lo _ hb).2 hw
        · have := hv _ hw; have := hf _ hb; omega
      · omega
end Go.Proofs.Ytlimabbeaimdgaa
