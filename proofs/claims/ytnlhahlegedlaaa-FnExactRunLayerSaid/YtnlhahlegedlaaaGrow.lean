/- A list of one's own that grows by append: its cells, its elements, their blocks. -/
import Derived.Test.YtnlhahlegedlaaaMk
import Derived.Maps.AppendAt
namespace Go.Proofs.Ytnlhahlegedlaaa
set_option linter.unusedSimpArgs false
set_option linter.unusedVariables false
open Go.RowKit

section
variable {P : Program} {w : World} {ops : Array Oper} {rest : List Oper} {o o1 o2 : Oper} {a : Act} {Q : Exit → Act → World → Prop}
/-- 'append(xs, u)' onto a row of the call's own, and where the row lies behind it. -/
theorem wl_app1b {t e s b : Nat} {z : Value} [T : SlTy P t e s z b] {x1 s2 : Operand} {d1 : Tmp} {u : Value} {v : Value} {B n : Nat} {vs : List Value}
    (hg1 : o1.guard = none) (ho1 : o1.op = .buildSlice t 1 #[(0, x1)]) (hg2 : o2.guard = none) (ho2 : o2.op = .call { callee := .builtin .append, args := #[s2, .tmp d1], argTypes := #[t, t] })
    (hx : a.eval x1 = u) (hu : u.cells.size = s) (hu1 : u.cells.toList.all (fun y => y.oneCell') = true) (hd : ∀ y, (a.put o1.dst y).eval (.tmp d1) = y) (hs : ∀ y, (a.put o1.dst y).eval s2 = v)
    (how : w.ownsRow B e s v n vs) (hn : n + 1 ≤ maxLen) (hb : (n + 1) * b ≤ 140737488355328) (hB : B ≤ w.heap.size)
    (h : ∀ g c w', w'.ownsRow B e s (.slice (some ⟨g, 0, none⟩) (n + 1) c) (n + 1) (vs ++ u.cells.toList) → w.grownBy w' v.ownBlock → (v.ownBlock = some g ∨ g = w.heap.size + 1) →
      wpList P ops Q rest ((a.put o1.dst (.slice (some ⟨w.heap.size, 0, none⟩) 1 1)).put o2.dst (.slice (some ⟨g, 0, none⟩) (n + 1) c)) w') : wpList P ops Q (o1 :: o2 :: rest) a w := by
  obtain ⟨ti, hi, hzz⟩ := Option.map_eq_some_iff.1 T.inf
  simp only [Prod.mk.injEq] at hzz
  have hund := T.und
  have hpos := T.pos
  have hs24 := T.few
  have hrun : (execOp a.eval o1).run P w = .ok (.value (.slice (some ⟨w.heap.size, 0, none⟩) 1 1)) (w.alloc (.cells u.cells e)) := by
    have hfill : Instr.fill (fun i => some (i * s, s)) ((Array.range (1 * s)).map (z.cells[· % z.cells.size]!)) [(0, u)] = some u.cells := by
      simp only [Instr.fill, hu, Array.size_map, Array.size_range, Nat.zero_mul, Nat.zero_add, Nat.one_mul, Nat.lt_irrefl, ne_eq, not_true_eq_false, decide_false, Bool.or_self, gt_iff_lt, Bool.false_eq_true, if_false]
      congr 1
      exact wl_app1.fill_all (w := w) (s := s) (b := b) (u := u) (B := B) (n := n) _ _ (by simp [hu])
    simp [execOp, ho1, hx, Instr.buildSlice, run_underlying hund, sizeOf, typeInfo, hi, hzz.2.1, zeroValue, hzz.1, show ¬ 16777216 < s by omega, show ¬ s = 0 by omega, newRow]
    rw [show (Array.map (fun x => z.cells[x % z.cells.size]!) (Array.range s)) = (Array.range (1 * s)).map (z.cells[· % z.cells.size]!) by rw [Nat.one_mul], hfill]
    simp
  refine wl_value hg1 hrun ?_
  have how' := how.alloc (Obj.cells u.cells e)
  refine wpList_append_own_at _ hg2 s2 (.tmp d1) t ho2 B e ti z s b hund hi hzz.1 hzz.2.1 hzz.2.2 T.zs hpos v n vs (hs _) how' ⟨w.heap.size, 0, none⟩ 1 1 u.cells.toList (hd _) (by simp [hu]) ?_ (List.all_eq_true.1 hu1) hn hb (by simp; omega) ?_
  · intro j y hj
    rw [Addr.add_lit, Nat.zero_add]
    have hnew : (w.alloc (.cells u.cells e)).heap[w.heap.size]? = some (.cells u.cells e) := heap_alloc_new w _
    unfold World.cell?
    rw [hnew]
    simpa using hj
  · intro v' w' h1 h2 h3 h4
    rcases h1.2 with ⟨_, h5⟩ | ⟨g, cap, cur, rfl, _⟩
    · omega
    · refine h g cap w' h1 (@wl_app1.grown_alloc w s b u B n _ _ _ _ h2) ?_
      rcases h4 with h4 | h4
      · left; rw [← h4]; rfl
      · right; simp [Value.ownBlock] at h4; exact h4
end

/-- A list that grows. -/
structure GrowOwn (w : World) (B : Nat) (te : TypeId) (E : Sh) (v : Value) (l : List E.T) (css : List (List Value)) (bss : List (List Nat)) : Prop where
  row : w.ownsRow B te E.sz v l.length css.flatten
  els : OwnEs w E css bss l
  nodup : bss.flatten.Nodup
  lo : ∀ b ∈ bss.flatten, B ≤ b ∧ v.ownBlock ≠ some b
theorem OwnEs.lt {w : World} {E : Sh} {css : List (List Value)} {bss : List (List Nat)} {l : List E.T} (h : OwnEs w E css bss l) : ∀ b ∈ bss.flatten, b < w.heap.size := by
  intro b hb
  obtain ⟨bj, hm, hbj⟩ := List.mem_flatten.1 hb
  obtain ⟨j, hj, rfl⟩ := List.mem_iff_getElem.1 hm
  have k1 := h.1; have k2 := h.2.1
  exact (h.2.2 j (css[j]'(by omega)) bss[j] (l[j]'(by omega)) (by simp) (by simp) (by simp)).lt b hbj
theorem GrowOwn.ext {w w' : World} {B : Nat} {te : TypeId} {E : Sh} {v : Value} {l : List E.T} {css : List (List Value)} {bss : List (List Nat)} (h : GrowOwn w B te E v l css bss) (e : Ext w w') : GrowOwn w' B te E v l css bss :=
  ⟨own_ext h.row e, h.els.chg (.of_ext e) (S := fun _ => False) (fun _ _ h => h), h.nodup, h.lo⟩
theorem GrowOwn.empty {w : World} {B : Nat} {te : TypeId} {E : Sh} {v : Value} (h : w.ownsRow B te E.sz v 0 []) : GrowOwn w B te E v [] [] [] :=
  ⟨h, ⟨rfl, rfl, fun i cs bs d h => by simp at h⟩, by simp, by simp⟩
/-- One element more. -/
theorem GrowOwn.snoc {w0 w w' : World} {B : Nat} {te : TypeId} {E : Sh} {v : Value} {l : List E.T} {css : List (List Value)} {bss : List (List Nat)} (h : GrowOwn w0 B te E v l css bss) (hx : Ext w0 w) {cs : List Value} {d : E.T} {bs : List Nat}
    (ho : Own w E cs d bs) (hn : bs.Nodup) (hf : ∀ b ∈ bs, w0.heap.size ≤ b) (hB : B ≤ w0.heap.size) {g c n : Nat} (hln : l.length = n) (hr : w'.ownsRow B te E.sz (.slice (some ⟨g, 0, none⟩) (n + 1) c) (n + 1) (css.flatten ++ cs)) (hg : w.grownBy w' v.ownBlock) (hw : v.ownBlock = some g ∨ g = w.heap.size + 1) :
    GrowOwn w' B te E (.slice (some ⟨g, 0, none⟩) (n + 1) c) (l ++ [d]) (css ++ [cs]) (bss ++ [bs]) := by
  subst hln
  have lt0 := h.els.lt
  have hv : ∀ k, v.ownBlock = some k → k < w0.heap.size := own_lt h.row
  have hsz := hx.size
  have ch : Chg (fun k => some k = v.ownBlock) w w' := Chg.of_grown hg
  refine ⟨by simpa [List.flatten_append] using hr, ?_, ?_, ?_⟩
  · refine OwnEs.snoc ((h.els.chg (.of_ext hx) (S := fun _ => False) (fun _ _ h => h)).chg ch (fun b hb hk => (h.lo b hb).2 hk.symm)) (ho.chg ch fun b hb hk => ?_)
    have := hv b hk.symm; have := hf b hb; omega
  · rw [List.flatten_append, List.flatten_cons, List.flatten_nil, List.append_nil]
    exact nodup_app h.nodup hn lt0 hf
  · intro b hb
    rw [List.flatten_append, List.flatten_cons, List.flatten_nil, List.append_nil, List.mem_append] at hb
    have hlb : b < w.heap.size := by
      rcases hb with hb | hb
      · have := lt0 b hb; omega
      · exact ho.lt b hb
    refine ⟨?_, fun hk => ?_⟩
    · rcases hb with hb | hb
      · exact (h.lo b hb).1
      · have := hf b hb; omega
    · simp [Value.ownBlock] at hk; subst hk
      rcases hw with hw | hw
      · rcases hb with hb | hb
        · exact (h.lo _ hb).2 hw
        · have := hv _ hw; have := hf _ hb; omega
      · omega
theorem GrowOwn.own {w : World} {B : Nat} {te : TypeId} {E : Sh} {v : Value} {l : List E.T} {css : List (List Value)} {bss : List (List Nat)} (h : GrowOwn w B te E v l css bss) : ∃ bs, Own w (.sl E) [v] l bs ∧ bs.Nodup ∧ ∀ b ∈ bs, B ≤ b := by
  obtain ⟨h1, h2, h3, h4⟩ := h
  have hrow := h1
  obtain ⟨hl, hr⟩ := h1
  rcases hr with ⟨rfl, h0⟩ | ⟨g, cap, cur, rfl, hg, hh, hnc, hm, hsz, ht⟩
  · have hl0 : l = [] := List.eq_nil_of_length_eq_zero h0
    subst hl0
    have hb0 : bss = [] := List.eq_nil_of_length_eq_zero h2.2.1
    have hc0 : css = [] := List.eq_nil_of_length_eq_zero h2.1
    subst hb0; subst hc0
    exact ⟨[], own_sl.2 ⟨none, 0, [], [], rfl, .inl ⟨rfl, rfl, rfl, rfl⟩, Nat.le_refl _, Nat.zero_le _, h2, rfl⟩, by simp, by simp⟩
  · refine ⟨g :: bss.flatten, own_sl.2 ⟨some ⟨g, 0, none⟩, cap, css, bss, rfl, ownRow_of hrow, hnc, hm, h2, rfl⟩, ?_, ?_⟩
    · rw [List.nodup_cons]; exact ⟨fun hb => (h4 g hb).2 rfl, h3⟩
    · intro b hb
      rcases List.mem_cons.1 hb with rfl | hb
      · exact hg
      · exact (h4 b hb).1
end Go.Proofs.Ytnlhahlegedlaaa
