/- CompileModel's reference: steps of one's own whose blocks may be shared among themselves. -/
import Derived.Test.YtlimabbeaimdgaaCompC
import Derived.Test.YtlimabbeaimdgaaKf
import Derived.Test.YtlimabbeaimdgaaHPlan
namespace Go.Proofs.Ytlimabbeaimdgaa
set_option linter.unusedSimpArgs false
set_option linter.unusedVariables false
open Go.RowKit

section
variable {P : Program} {w : World} {o : Oper} {a : Act}
theorem run_build0 {t e s b : Nat} {z : Value} [T : SlTy P t e s z b] (ho1 : o.op = .buildSlice t 0 #[]) (w : World) :
    (execOp a.eval o).run P w = .ok (.value (.slice (some ⟨w.heap.size, 0, none⟩) 0 0)) (w.alloc (.cells #[] e)) := by
  obtain ⟨ti, hi, hzz⟩ := Option.map_eq_some_iff.1 T.inf
  simp only [Prod.mk.injEq] at hzz
  have hund := T.und
  have hpos := T.pos
  have hs24 := T.few
  simp [execOp, ho1, Instr.buildSlice, run_underlying hund, sizeOf, typeInfo, hi, hzz.2.1, zeroValue, hzz.1, show ¬ 16777216 < s by omega, show ¬ s = 0 by omega, newRow, Instr.fill]
  have h0 : ∀ f : Nat → Value, Array.map f (Array.range 0) = #[] := fun f => Array.eq_empty_of_size_eq_zero (by simp)
  rw [h0]
end
section
variable {P : Program} {w wf : World} {ops : Array Oper} {rest : List Oper} {o : Oper} {a : Act} {Q : Act → Prop} {F : Option Tmp → World → World → Value → Prop}
/-- An empty list, in a region whose order is drawn. -/
theorem x_build0 {t e s b : Nat} {z : Value} [T : SlTy P t e s z b] (hw : Region.wanted o (yielded ops a.tmps) = true) (ho1 : o.op = .buildSlice t 0 #[])
    (h : ∀ g, w.heap.size ≤ g → g < wf.heap.size → wf.heap[g]? = some (.cells #[] e) → wpX P ops F w wf Q rest (a.put o.dst (.slice (some ⟨g, 0, none⟩) 0 0))) : wpX P ops F w wf Q (o :: rest) a :=
  x_made (V := fun wf v => ∃ g, v = .slice (some ⟨g, 0, none⟩) 0 0 ∧ w.heap.size ≤ g ∧ g < wf.heap.size ∧ wf.heap[g]? = some (.cells #[] e)) hw
    (fun w1 e1 => ⟨_, _, run_build0 ho1 w1, Ext.alloc _ _, fun wf hf => ⟨w1.heap.size, rfl, e1.size, Nat.lt_of_lt_of_le (by simp) hf.size, by rw [hf.block _ (by simp)]; exact heap_alloc_new w1 _⟩⟩)
    (fun v ⟨g, h1, h2, h3, h4⟩ => by subst h1; exact h g h2 h3 h4)
end
section
variable {P : Program} {w wf : World} {ops : Array Oper} {rest : List Oper} {o : Oper} {a : Act} {Q : Act → Prop} {F : Option Tmp → World → World → Value → Prop}
theorem x_idxE {t e s b : Nat} {z : Value} [SlTy P t e s z b] {x ix : Operand} (hw : Region.wanted o (yielded ops a.tmps) = true) (ho : o.op = .indexAddr t x ix) {p : Option Addr} {n c : Nat} {k : IntKind} {i : Int} {j : Nat}
    (hx : a.eval x = .slice p n c) (hi : a.eval ix = .int k i) (hij : i = j) (hp : p.isSome = true) (hn : j < n)
    (h : wpX P ops F w wf Q rest (a.put o.dst (.pointer (some (adr p (j * s)))))) : wpX P ops F w wf Q (o :: rest) a := by
  subst hij
  exact x_idx hw ho hx hi hp (by omega) (by omega) (by rw [Int.toNat_natCast]; exact h)
end
section
variable {P : Program} {w : World} {ops : Array Oper} {rest : List Oper} {o : Oper} {a : Act} {Q : Exit → Act → World → Prop}
theorem wl_idxEW {t e b : Nat} {z : Value} {s : Nat} [SlTy P t e s z b] {x ix : Operand} (hw : Region.wanted o (yielded ops a.tmps) = true) (ho : o.op = .indexAddr t x ix) {p : Option Addr} {n c : Nat} {k : IntKind} {i : Int} {j : Nat}
    (hx : a.eval x = .slice p n c) (hi : a.eval ix = .int k i) (hij : i = j) (hp : p.isSome = true) (hn : j < n)
    (h : wpList P ops Q rest (a.put o.dst (.pointer (some (adr p (j * s))))) w) : wpList P ops Q (o :: rest) a w := by
  subst hij
  exact wl_valueW hw (w' := w) (v := .pointer (some (adr p (j * s)))) (by simp [execOp, ho, hx, hi, run_indexAt (P := P) (t := t) (s := s) hp (show (0 : Int) ≤ (j : Int) by omega) (show (j : Int) < n by omega)]) h
end
theorem Tys.one {w : World} {g : Nat} {t : TypeId} {Z : Array Value} (h : w.heap[g]? = some (.cells Z t)) : Tys w [t] [g] := fun b hb => by
  have : b = g := by simpa using hb
  subst this
  exact ⟨Z, t, _, by simp, h⟩
theorem own_new0 {w : World} {g : Nat} {t : TypeId} {e : Sh} (h : w.heap[g]? = some (.cells #[] t)) : Own w (.sl e) [.slice (some ⟨g, 0, none⟩) 0 0] [] [g] :=
  own_sl.2 ⟨some ⟨g, 0, none⟩, 0, [], [], rfl, .inr ⟨g, #[], t, rfl, h, by simp⟩, Nat.le_refl _, Nat.zero_le _, ⟨rfl, rfl, fun i cs bs d h => by simp at h⟩, rfl⟩
/-- A list that grows, whose elements are new. -/
structure GrowO0 (w : World) (B : Nat) (te : TypeId) (E : Sh) (v : Value) (l : List E.T) (css : List (List Value)) (bss : List (List Nat)) : Prop where
  row : w.ownsRow B te E.sz v l.length css.flatten
  els : OwnEs w E css bss l
  lo : ∀ b ∈ bss.flatten, B ≤ b ∧ v.ownBlock ≠ some b
theorem GrowO0.ext {w w' : World} {B : Nat} {te : TypeId} {E : Sh} {v : Value} {l : List E.T} {css : List (List Value)} {bss : List (List Nat)} (h : GrowO0 w B te E v l css bss) (e : Ext w w') : GrowO0 w' B te E v l css bss :=
  ⟨own_ext h.row e, h.els.chg (.of_ext e) (S := fun _ => False) (fun _ _ h => h), h.lo⟩
theorem GrowO0.empty {w : World} {B : Nat} {te : TypeId} {E : Sh} {v : Value} (h : w.ownsRow B te E.sz v 0 []) : GrowO0 w B te E v [] [] [] :=
  ⟨by simpa using h, ⟨rfl, rfl, fun i cs bs d h => by simp at h⟩, fun b hb => by simp at hb⟩
theorem GrowO0.snoc2 {w0 w w' : World} {B : Nat} {te : TypeId} {E : Sh} {v : Value} {l : List E.T} {css : List (List Value)} {bss : List (List Nat)} (h : GrowO0 w0 B te E v l css bss) (hx : Ext w0 w) {cs : List Value} {d : E.T} {bs : List Nat}
    (ho : Own w E cs d bs) (hf : ∀ b ∈ bs, w0.heap.size ≤ b) (hB : B ≤ w0.heap.size) {g c n : Nat} (hln : l.length = n) (hr : w'.ownsRow B te E.sz (.slice (some ⟨g, 0, none⟩) (n + 1) c) (n + 1) (css.flatten ++ cs)) (hg : w.grownBy w' v.ownBlock) (hw : v.ownBlock = some g ∨ w.heap.size ≤ g) :
    GrowO0 w' B te E (.slice (some ⟨g, 0, none⟩) (n + 1) c) (l ++ [d]) (css ++ [cs]) (bss ++ [bs]) := by
  subst hln
  have lt0 := h.els.lt
  have hv : ∀ k, v.ownBlock = some k → k < w0.heap.size := own_lt h.row
  have hsz := hx.size
  have ch : Chg (fun k => some k = v.ownBlock) w w' := Chg.of_grown hg
  refine ⟨by simpa [List.flatten_append] using hr, ?_, ?_⟩
  · refine OwnEs.snoc ((h.els.chg (.of_ext hx) (S := fun _ => False) (fun _ _ h => h)).chg ch (fun b hb hk => (h.lo b hb).2 hk.symm)) (ho.chg ch fun b hb hk => ?_)
    have := hv b hk.symm; have := hf b hb; omega
  · rw [List.flatten_append, List.flatten_cons, List.flatten_nil, List.append_nil]
    intro b hb
    rw [List.mem_append] at hb
    have hlb : b < w.heap.size := by
      rcases hb with hb | hb
      · have := lt0 b hb; omega
      · exact ho.lt b hb
    refine ⟨?_, fun hk => ?_⟩
    · rcases hb with hb | hb
      · exact (h.lo b hb).1
      · have := hf b hb; omega
    · simp [Value.ownBlock] at hk; subst hk
      rcases hw with hw | hw
      · rcases hb with hb | hb
        · exact (h.lo _ hb).2 hw
        · have := hv _ hw; have := hf _ hb; omega
      · omega
theorem GrowO0.turn {w0 w w' : World} {B : Nat} {te : TypeId} {E : Sh} {v : Value} {l : List E.T} {css : List (List Value)} {bss : List (List Nat)} (h : GrowO0 w0 B te E v l css bss) (hx : Ext w0 w) {i : Nat} {cs : List Value} {d : E.T} {bs bi : List Nat} (hbi : bss[i]? = some bi)
    (ho : Own w E cs d bs) (hf : ∀ b ∈ bs, b ∈ bi ∨ w0.heap.size ≤ b) (hB : B ≤ w0.heap.size) (hr : w'.ownsRow B te E.sz v l.length (css.set i cs).flatten) (hg : w.grownBy w' v.ownBlock) :
    GrowO0 w' B te E v (l.set i d) (css.set i cs) (bss.set i bs) := by
  have lt0 := h.els.lt
  have hv : ∀ k, v.ownBlock = some k → k < w0.heap.size := own_lt h.row
  have h1 := h.els.1; have h2 := h.els.2.1
  have hm : ∀ b ∈ bi, b ∈ bss.flatten := fun b hb => List.mem_flatten.2 ⟨bi, List.mem_of_getElem? hbi, hb⟩
  have hne : ∀ b ∈ bs, v.ownBlock ≠ some b := fun b hb hk => by
    rcases hf b hb with h' | h'
    · exact (h.lo b (hm b h')).2 hk
    · have := hv b hk; omega
  have ch : Chg (fun k => some k = v.ownBlock) w w' := Chg.of_grown hg
  have hels := (h.els.chg (.of_ext hx) (S := fun _ => False) (fun _ _ h => h)).chg ch (fun b hb hk => (h.lo b hb).2 hk.symm)
  refine ⟨by rw [List.length_set]; exact hr, ⟨by simp [h1], by simp [h2], fun j cs' bs' d' g1 g2 g3 => ?_⟩, ?_⟩
  · by_cases hj : i = j
    · subst hj
      have k1 := (List.getElem?_eq_some_iff.1 g1).1
      have k2 := (List.getElem?_eq_some_iff.1 g2).1
      have k3 := (List.getElem?_eq_some_iff.1 g3).1
      rw [List.length_set] at k1 k2 k3
      rw [List.getElem?_set_self k1] at g1
      rw [List.getElem?_set_self k2] at g2
      rw [List.getElem?_set_self k3] at g3
      cases g1; cases g2; cases g3
      exact ho.chg ch fun b hb hk => hne b hb hk.symm
    · rw [List.getElem?_set_ne hj] at g1 g2 g3
      exact hels.2.2 j cs' bs' d' g1 g2 g3
  · intro b hb
    rcases set_flat_sub b hb with h' | h'
    · exact h.lo b h'
    · refine ⟨?_, hne b h'⟩
      rcases hf b h' with h'' | h''
      · exact (h.lo b (hm b h'')).1
      · omega
theorem GrowO0.own {w : World} {B : Nat} {te : TypeId} {E : Sh} {v : Value} {l : List E.T} {css : List (List Value)} {bss : List (List Nat)} (h : GrowO0 w B te E v l css bss) : ∃ bs, Own w (.sl E) [v] l bs ∧ ∀ b ∈ bs, B ≤ b := by
  obtain ⟨h1, h2, h4⟩ := h
  have hrow := h1
  obtain ⟨hl, hr⟩ := h1
  rcases hr with ⟨rfl, h0⟩ | ⟨g, cap, cur, rfl, hg, hh, hnc, hm, hsz, ht⟩
  · have hl0 : l = [] := List.eq_nil_of_length_eq_zero h0
    subst hl0
    have hb0 : bss = [] := List.eq_nil_of_length_eq_zero h2.2.1
    have hc0 : css = [] := List.eq_nil_of_length_eq_zero h2.1
    subst hb0; subst hc0
    exact ⟨[], own_sl.2 ⟨none, 0, [], [], rfl, .inl ⟨rfl, rfl, rfl, rfl⟩, Nat.le_refl _, Nat.zero_le _, h2, rfl⟩, by simp⟩
  · refine ⟨g :: bss.flatten, own_sl.2 ⟨some ⟨g, 0, none⟩, cap, css, bss, rfl, ownRow_of hrow, hnc, hm, h2, rfl⟩, ?_⟩
    intro b hb
    rcases List.mem_cons.1 hb with rfl | hb
    · exact hg
    · exact (h4 b hb).1
/-- The last of the steps, in memory. -/
theorem last_cells0 {w : World} {B m c : Nat} {te : TypeId} {q : Option Addr} {P : List shPlanStep.T} {css : List (List Value)} {bss : List (List Nat)} (h : GrowO0 w B te shPlanStep (.slice q m c) P css bss) (hP : P.length = m) (hm : 1 ≤ m) :
    ∃ (g : Nat) (qw : Option Addr) (kw : Nat) (qb : Option Addr) (kb : Nat) (qz : Option Addr) (kz : Nat) (bw bb bz : List Nat), q = some ⟨g, 0, none⟩ ∧
      css[m - 1]? = some [.int .i64 (lastP P).1, .int .i64 (lastP P).2.1, .int .i64 (lastP P).2.2.1, .slice qw ((lastP P).2.2.2.1 : List Nat).length kw, .slice qb ((lastP P).2.2.2.2.1 : List Nat).length kb, .slice qz ((lastP P).2.2.2.2.2.1 : List Nat).length kz, .bool (lastP P).2.2.2.2.2.2.1] ∧
      Own w (.sl .flt) [.slice qw ((lastP P).2.2.2.1 : List Nat).length kw] (lastP P).2.2.2.1 bw ∧ Own w (.sl .flt) [.slice qb ((lastP P).2.2.2.2.1 : List Nat).length kb] (lastP P).2.2.2.2.1 bb ∧ Own w (.sl .flt) [.slice qz ((lastP P).2.2.2.2.2.1 : List Nat).length kz] (lastP P).2.2.2.2.2.1 bz ∧ bss[m - 1]? = some (bw ++ (bb ++ bz)) ∧
      w.cell? ⟨g, (m - 1) * 7, none⟩ = some (.int .i64 (lastP P).1) ∧ w.cell? ⟨g, (m - 1) * 7 + 5, none⟩ = some (.slice qz ((lastP P).2.2.2.2.2.1 : List Nat).length kz) ∧ w.cell? ⟨g, (m - 1) * 7 + 6, none⟩ = some (.bool (lastP P).2.2.2.2.2.2.1) := by
  subst hP
  have hrow := h.row
  obtain ⟨g, rfl⟩ := own_some hrow (by omega)
  have h1 := h.els.1
  have h2 := h.els.2.1
  have hall := h.els.all
  have hj : P.length - 1 < css.length := by omega
  have hl : P[P.length - 1]? = some (lastP P) := by unfold lastP; rw [List.getD_eq_getElem?_getD, List.getElem?_eq_getElem (by omega)]; simp
  have ho := h.els.2.2 (P.length - 1) _ _ _ (List.getElem?_eq_getElem hj) (List.getElem?_eq_getElem (show P.length - 1 < bss.length by omega)) hl
  obtain ⟨qw, kw, qb, kb, qz, kz, bw, bb, bz, e1, o1, o2, o3, e2⟩ := stp_own ho
  have hcell : ∀ j v, j < 7 → (css[P.length - 1])[j]? = some v → w.cell? ⟨g, (P.length - 1) * 7 + j, none⟩ = some v := by
    intro j v hj7 hv
    have hb : (P.length - 1) * 7 + j < P.length * 7 := by omega
    rw [hrow.cellAt _ hb, flat_get (s := 7) hall hj hj7]
    exact hv
  rw [e1] at hcell
  refine ⟨g, qw, kw, qb, kb, qz, kz, bw, bb, bz, rfl, by rw [List.getElem?_eq_getElem hj, e1], o1, o2, o3, by rw [List.getElem?_eq_getElem (show P.length - 1 < bss.length by omega), e2], ?_, ?_, ?_⟩
  · have := hcell 0 _ (by omega) rfl; rwa [Nat.add_zero] at this
  · exact hcell 5 _ (by omega) rfl
  · exact hcell 6 _ (by omega) rfl
/-- The last step gets a relu. -/
theorem turn_relu0 {w0 w w' : World} {B m c g : Nat} {te : TypeId} {P : List shPlanStep.T} {css : List (List Value)} {bss : List (List Nat)} (h : GrowO0 w0 B te shPlanStep (.slice (some ⟨g, 0, none⟩) m c) P css bss) (hx : Ext w0 w) (hB : B ≤ w0.heap.size) (hP : P.length = m) (hm : 1 ≤ m)
    (hr : w'.ownsRow B te 7 (.slice (some ⟨g, 0, none⟩) m c) m (css.flatten.set ((m - 1) * 7 + 6) (.bool true))) (hg : w.grownBy w' (some g)) :
    ∃ css', GrowO0 w' B te shPlanStep (.slice (some ⟨g, 0, none⟩) m c) (P.set (m - 1) (withR (lastP P))) css' bss := by
  obtain ⟨g', qw, kw, qb, kb, qz, kz, bw, bb, bz, hq, e1, o1, o2, o3, e2, _⟩ := last_cells0 h hP hm
  have h1 := h.els.1
  have hall := h.els.all
  have hj : m - 1 < css.length := by omega
  have e1' := e1
  rw [List.getElem?_eq_getElem hj] at e1'
  have e3 := Option.some.inj e1'
  rw [flat_set (s := 7) hall hj (by omega), e3] at hr
  have ho := own_stp (k := (lastP P).1) (i := (lastP P).2.1) (o := (lastP P).2.2.1) (o1.ext hx) (o2.ext hx) (o3.ext hx) true
  have ht := h.turn hx e2 (d := withR (lastP P)) ho (fun b hb => .inl hb) hB (by rw [hP]; exact hr) hg
  have hs : bss.set (m - 1) (bw ++ (bb ++ bz)) = bss := by
    obtain ⟨hi, h'⟩ := List.getElem?_eq_some_iff.1 e2
    rw [← h']; simp
  rw [hs] at ht
  exact ⟨_, ht⟩
/-- The last step gets scales. -/
theorem turn_scale0 {w0 w w' : World} {B m c g lx kx : Nat} {te : TypeId} {P : List shPlanStep.T} {css : List (List Value)} {bss : List (List Nat)} {qx : Option Addr} {xs bx : List Nat} (h : GrowO0 w0 B te shPlanStep (.slice (some ⟨g, 0, none⟩) m c) P css bss) (hx : Ext w0 w) (hB : B ≤ w0.heap.size) (hP : P.length = m) (hm : 1 ≤ m)
    (ox : Own w (.sl .flt) [.slice qx lx kx] xs bx) (lo : ∀ b ∈ bx, w0.heap.size ≤ b)
    (hr : w'.ownsRow B te 7 (.slice (some ⟨g, 0, none⟩) m c) m (css.flatten.set ((m - 1) * 7 + 5) (.slice qx lx kx))) (hg : w.grownBy w' (some g)) :
    ∃ css' bss', GrowO0 w' B te shPlanStep (.slice (some ⟨g, 0, none⟩) m c) (P.set (m - 1) (withS (lastP P) xs)) css' bss' ∧ ∀ b ∈ bss'.flatten, b ∈ bss.flatten ∨ b ∈ bx := by
  obtain ⟨g', qw, kw, qb, kb, qz, kz, bw, bb, bz, hq, e1, o1, o2, o3, e2, _⟩ := last_cells0 h hP hm
  have h1 := h.els.1
  have hall := h.els.all
  have hj : m - 1 < css.length := by omega
  have e1' := e1
  rw [List.getElem?_eq_getElem hj] at e1'
  have e3 := Option.some.inj e1'
  rw [flat_set (s := 7) hall hj (by omega), e3] at hr
  have ho := own_stp (k := (lastP P).1) (i := (lastP P).2.1) (o := (lastP P).2.2.1) (o1.ext hx) (o2.ext hx) ox (lastP P).2.2.2.2.2.2.1
  have hin : ∀ b ∈ bw ++ (bb ++ bz), b ∈ bss.flatten := fun b hb => List.mem_flatten.2 ⟨_, List.mem_of_getElem? e2, hb⟩
  have hlt := h.els.lt
  have ht := h.turn hx e2 (d := withS (lastP P) xs) ho (fun b hb => by
    rcases List.mem_append.1 hb with hb | hb
    · exact .inl (by simp [hb])
    · rcases List.mem_append.1 hb with hb | hb
      · exact .inl (by simp [hb])
      · exact .inr (lo b hb)) hB (by rw [hP]; exact hr) hg
  refine ⟨_, _, ht, fun b hb => ?_⟩
  rcases set_flat_sub b hb with h' | h'
  · exact .inl h'
  · rcases List.mem_append.1 h' with h' | h'
    · exact .inl (hin b (by simp [h']))
    · rcases List.mem_append.1 h' with h' | h'
      · exact .inl (hin b (by simp [h']))
      · exact .inr h'
/-- The steps so far, and the struct that holds them. -/
structure Cst0 (w1 wr : World) (bo m c : Nat) (q : Option Addr) (P : List shPlanStep.T) (cs : List (List Value)) (bss : List (List Nat)) : Prop where
  out : HB wr bo #[.slice q m c] 28
  len : P.length = m
  grow : GrowO0 wr w1.heap.size 117 shPlanStep (.slice q m c) P cs bss
  tys : Tys wr [49] bss.flatten
  ext : Ext w1 wr
  lo : w1.heap.size ≤ bo
theorem Cst0.on {w1 wr w2 : World} {bo m c : Nat} {q : Option Addr} {P : List shPlanStep.T} {cs : List (List Value)} {bss : List (List Nat)} (h : Cst0 w1 wr bo m c q P cs bss) (e : Ext wr w2) : Cst0 w1 w2 bo m c q P cs bss :=
  ⟨h.out.ext e, h.len, h.grow.ext e, h.tys.ext e, h.ext.trans e, h.lo⟩
theorem Cst0.row {w1 wr : World} {bo m c : Nat} {q : Option Addr} {P : List shPlanStep.T} {cs : List (List Value)} {bss : List (List Nat)} (h : Cst0 w1 wr bo m c q P cs bss) : wr.ownsRow w1.heap.size 117 7 (.slice q m c) m cs.flatten := by
  have := h.grow.row
  rw [h.len] at this
  exact this
theorem Cst0.ne {w1 wr : World} {bo m c : Nat} {q : Option Addr} {P : List shPlanStep.T} {cs : List (List Value)} {bss : List (List Nat)} (h : Cst0 w1 wr bo m c q P cs bss) : (∀ k, (Value.slice q m c).ownBlock = some k → k ≠ bo) ∧ ∀ b ∈ bss.flatten, b ≠ bo := by
  refine ⟨own_tag h.row h.out (by decide), fun b hb he => ?_⟩
  subst he
  exact h.tys.no (t := 28) (by decide) b hb _ h.out
theorem Cst0.push {w1 wr wf w6 : World} {bo m c : Nat} {q : Option Addr} {P : List shPlanStep.T} {cs : List (List Value)} {bss : List (List Nat)} (h : Cst0 w1 wr bo m c q P cs bss) (eW : Ext wr wf) {d : shLayer.T} {qw qb qz : Option Addr} {lw kw lb kb kz : Nat} {bw bb bz : List Nat}
    (o1 : Own wf (.sl .flt) [.slice qw lw kw] d.2.2.2.1 bw) (o2 : Own wf (.sl .flt) [.slice qb lb kb] d.2.2.2.2.1 bb) (o3 : Own wf (.sl .flt) [.slice qz 0 kz] [] bz) (lo : ∀ b ∈ bw ++ (bb ++ bz), wr.heap.size ≤ b) (ty : Tys wf [49] (bw ++ (bb ++ bz)))
    {g6 c6 : Nat} (own6 : w6.ownsRow w1.heap.size 117 7 (.slice (some ⟨g6, 0, none⟩) (m + 1) c6) (m + 1) (cs.flatten ++ [.int .i64 d.1, .int .i64 d.2.1, .int .i64 d.2.2.1, .slice qw lw kw, .slice qb lb kb, .slice qz 0 kz, .bool false])) (gr : wf.grownBy w6 (Value.slice q m c).ownBlock) (hg : (Value.slice q m c).ownBlock = some g6 ∨ wf.heap.size ≤ g6) :
    ∃ cs' bss', Cst0 w1 (w6.setCell ⟨bo, 0, none⟩ (.slice (some ⟨g6, 0, none⟩) (m + 1) c6)) bo (m + 1) c6 (some ⟨g6, 0, none⟩) (P ++ [stpOf d]) cs' bss' := by
  have hsz := h.ext.size
  have hsz2 := eW.size
  have hrow := h.row
  obtain ⟨ne1, ne2⟩ := h.ne
  have hW := h.out.ext eW
  have hW6 : HB w6 bo #[.slice q m c] 28 := hW.chg (.of_grown gr) (fun hh => ne1 _ hh.symm rfl)
  have hs := stpOf_own o1 o2 o3
  have G := h.grow.snoc2 eW hs lo (by omega) (n := m) h.len own6 gr hg
  have hfl : (bss ++ [bw ++ (bb ++ bz)]).flatten = bss.flatten ++ (bw ++ (bb ++ bz)) := by simp
  have T6 : Tys w6 [49] (bss ++ [bw ++ (bb ++ bz)]).flatten := by
    rw [hfl]
    refine ((h.tys.ext eW).app ty).chg (.of_grown gr) (fun b hb hh => ?_)
    rcases List.mem_append.1 hb with hb | hb
    · exact (h.grow.lo b hb).2 hh.symm
    · have := own_lt hrow b hh.symm; have := lo b hb; omega
  have nb : ∀ b ∈ (bss ++ [bw ++ (bb ++ bz)]).flatten, b ≠ bo := fun b hb he => by
    subst he
    exact T6.no (t := 28) (by decide) b hb _ hW6
  have rn := own_tag own6 hW6 (by decide)
  have ch := chg_cell w6 bo 0 (.slice (some ⟨g6, 0, none⟩) (m + 1) c6)
  have e6 : Ext w1 w6 := (h.ext.trans eW).grown gr (fun k hk => own_le hrow k hk)
  have G2 : GrowO0 (w6.setCell ⟨bo, 0, none⟩ (.slice (some ⟨g6, 0, none⟩) (m + 1) c6)) w1.heap.size 117 shPlanStep (.slice (some ⟨g6, 0, none⟩) (m + 1) c6) (P ++ [stpOf d]) _ _ := ⟨own_chgK G.row ch (fun b hb hk => rn b hb hk), G.els.chg ch (fun b hb hk => nb b hb hk), G.lo⟩
  exact ⟨_, _, hW6.set 0 _, by rw [List.length_append, h.len]; rfl, G2, T6.chg ch nb, e6.chg ch (fun b hb => by have := h.lo; omega), h.lo⟩
theorem Cst0.relu {w1 wr w2 w9 : World} {bo m c g : Nat} {P : List shPlanStep.T} {cs : List (List Value)} {bss : List (List Nat)} (h : Cst0 w1 wr bo m c (some ⟨g, 0, none⟩) P cs bss) (e : Ext wr w2) (hm : 1 ≤ m)
    (hr : w9.ownsRow w1.heap.size 117 7 (.slice (some ⟨g, 0, none⟩) m c) m (cs.flatten.set ((m - 1) * 7 + 6) (.bool true))) (hg : w2.grownBy w9 (some g)) :
    ∃ cs', Cst0 w1 w9 bo m c (some ⟨g, 0, none⟩) (P.set (m - 1) (withR (lastP P))) cs' bss := by
  have hsz := h.ext.size
  obtain ⟨ne1, ne2⟩ := h.ne
  obtain ⟨cs', G⟩ := turn_relu0 h.grow e (by omega) h.len hm hr hg
  have ch : Chg (fun k => some k = some g) w2 w9 := .of_grown hg
  exact ⟨cs', (h.out.ext e).chg ch (fun hh => ne1 _ hh.symm rfl), by rw [List.length_set]; exact h.len, G, (h.tys.ext e).chg ch (fun b hb hh => (h.grow.lo b hb).2 hh.symm), (h.ext.trans e).grown hg (fun k hk => own_le h.row k hk), h.lo⟩
theorem Cst0.scale {w1 wr w2 w9 : World} {bo m c g lx kx : Nat} {qx : Option Addr} {xs bx : List Nat} {P : List shPlanStep.T} {cs : List (List Value)} {bss : List (List Nat)} (h : Cst0 w1 wr bo m c (some ⟨g, 0, none⟩) P cs bss) (e : Ext wr w2) (hm : 1 ≤ m)
    (ox : Own w2 (.sl .flt) [.slice qx lx kx] xs bx) (lo : ∀ b ∈ bx, wr.heap.size ≤ b) (ty : Tys w2 [49] bx)
    (hr : w9.ownsRow w1.heap.size 117 7 (.slice (some ⟨g, 0, none⟩) m c) m (cs.flatten.set ((m - 1) * 7 + 5) (.slice qx lx kx))) (hg : w2.grownBy w9 (some g)) :
    ∃ cs' bss', Cst0 w1 w9 bo m c (some ⟨g, 0, none⟩) (P.set (m - 1) (withS (lastP P) xs)) cs' bss' := by
  have hsz := h.ext.size
  obtain ⟨ne1, ne2⟩ := h.ne
  have hrow := h.row
  obtain ⟨cs', bss', G, hsub⟩ := turn_scale0 h.grow e (by omega) h.len hm ox lo hr hg
  have ch : Chg (fun k => some k = some g) w2 w9 := .of_grown hg
  have T9 : Tys w9 [49] bss'.flatten := by
    have h1 := (h.tys.ext e).chg ch (fun b hb hh => (h.grow.lo b hb).2 hh.symm)
    have h2 := ty.chg ch (fun b hb hh => by have := own_lt hrow b hh.symm; have := lo b hb; omega)
    intro b hb
    rcases hsub b hb with hb | hb
    · exact h1 b hb
    · exact h2 b hb
  exact ⟨cs', bss', (h.out.ext e).chg ch (fun hh => ne1 _ hh.symm rfl), by rw [List.length_set]; exact h.len, G, T9, (h.ext.trans e).grown hg (fun k hk => own_le h.row k hk), h.lo⟩
theorem own_pla0 {w : World} {q : Option Addr} {n k : Nat} {P : List shPlanStep.T} {bs : List Nat} (h : Own w (.sl shPlanStep) [.slice q n k] P bs) : Own w shPlan [.slice q n k] (P, ()) bs := ⟨[.slice q n k], [], bs, [], rfl, h, ⟨rfl, rfl⟩, by simp⟩
/-- What the reference gives: no two results share, but a result's lists may. -/
def OutS (w : World) (s : Sh) (r : s.T × Bool) (e : Ending) (w' : World) : Prop :=
  ∃ cs bs, e = .returned (.tuple #[ofCs s cs, .bool r.2]) ∧ Own w' s cs r.1 bs ∧ True ∧ (∀ b ∈ bs, w.heap.size ≤ b) ∧ Ext w w'
end Go.Proofs.Ytlimabbeaimdgaa
