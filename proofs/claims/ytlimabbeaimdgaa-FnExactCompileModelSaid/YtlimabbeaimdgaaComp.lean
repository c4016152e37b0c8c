/- CompileModel, in plain terms: steps grown and turned. -/
import Derived.Test.YtlimabbeaimdgaaCpyS
import Derived.Test.YtlimabbeaimdgaaSpl
import Derived.Test.YtlimabbeaimdgaaHPlanStep
import Derived.Test.YtlimabbeaimdgaaTab
namespace Go.Proofs.Ytlimabbeaimdgaa
set_option linter.unusedSimpArgs false
set_option linter.unusedVariables false
open Go.RowKit

def oneB : Nat := 1065353216
def onesB (xs : List Nat) : Bool := xs.all fun x => feq .f32 x oneB
def noStp : shPlanStep.T := (-1, 0, 0, [], [], [], false, ())
def lastP (P : List shPlanStep.T) : shPlanStep.T := P.getD (P.length - 1) noStp
def bareB (s : shPlanStep.T) : Bool := decide (s.1 = 0) && decide ((s.2.2.2.2.2.1 : List Nat).length = 0) && !s.2.2.2.2.2.2.1
def reluB (s : shPlanStep.T) : Bool := decide (s.1 = 1) || decide (s.1 = 4) || (decide (s.1 = 0) && s.2.2.2.2.2.2.1)
def withR (s : shPlanStep.T) : shPlanStep.T := (s.1, s.2.1, s.2.2.1, s.2.2.2.1, s.2.2.2.2.1, s.2.2.2.2.2.1, true, ())
def withS (s : shPlanStep.T) (xs : List Nat) : shPlanStep.T := (s.1, s.2.1, s.2.2.1, s.2.2.2.1, s.2.2.2.2.1, xs, s.2.2.2.2.2.2.1, ())
def stpOf (d : shLayer.T) : shPlanStep.T := (d.1, d.2.1, d.2.2.1, d.2.2.2.1, d.2.2.2.2.1, [], false, ())
def cmpS (P : List shPlanStep.T) (d : shLayer.T) : List shPlanStep.T :=
  if d.1 = 2 ∧ onesB d.2.2.2.1 = true then P
  else if d.1 = 1 ∧ reluB (lastP P) = true then P
  else if d.1 = 1 ∧ bareB (lastP P) = true then P.set (P.length - 1) (withR (lastP P))
  else if d.1 = 2 ∧ bareB (lastP P) = true then P.set (P.length - 1) (withS (lastP P) d.2.2.2.1)
  else P ++ [stpOf d]
def cmpF (l : List shLayer.T) (i : Nat) : List shPlanStep.T := (l.take i).foldl cmpS []
theorem cmpF_zero (l : List shLayer.T) : cmpF l 0 = [] := rfl
theorem cmpF_succ {l : List shLayer.T} {i : Nat} (h : i < l.length) : cmpF l (i + 1) = cmpS (cmpF l i) l[i] := by
  unfold cmpF
  rw [List.take_add_one, List.getElem?_eq_getElem h, List.foldl_append]
  rfl
theorem cmpS_len (P : List shPlanStep.T) (d : shLayer.T) : (cmpS P d).length ≤ P.length + 1 := by
  unfold cmpS
  split
  · omega
  · split
    · omega
    · split
      · simp
      · split <;> simp
theorem cmpF_len (l : List shLayer.T) : ∀ i, i ≤ l.length → (cmpF l i).length ≤ i
  | 0, _ => by simp [cmpF_zero]
  | i + 1, h => by rw [cmpF_succ (by omega)]; have := cmpS_len (cmpF l i) (l[i]'(by omega)); have := cmpF_len l i (by omega); omega
/-- Only dense steps have a relu of their own. -/
def RelD (P : List shPlanStep.T) : Prop := ∀ s ∈ P, s.2.2.2.2.2.2.1 = true → s.1 = 0
theorem lastP_mem {P : List shPlanStep.T} (h : 0 < P.length) : lastP P ∈ P := by
  unfold lastP; rw [List.getD_eq_getElem?_getD, List.getElem?_eq_getElem (by omega)]; simp
theorem lastP_nil : lastP [] = noStp := rfl
theorem bareB_pos {P : List shPlanStep.T} (h : bareB (lastP P) = true) : 0 < P.length := by
  rcases Nat.eq_zero_or_pos P.length with h0 | h0
  · have := List.eq_nil_of_length_eq_zero h0
    subst this
    exact absurd h (by decide)
  · exact h0
theorem RelD.step {P : List shPlanStep.T} (h : RelD P) (d : shLayer.T) : RelD (cmpS P d) := by
  unfold cmpS
  split
  · exact h
  · split
    · exact h
    · split
      · rename_i h3
        intro s hs hr
        rcases List.mem_or_eq_of_mem_set hs with hs | rfl
        · exact h s hs hr
        · have := h3.2
          unfold bareB at this
          simp only [Bool.and_eq_true, decide_eq_true_eq] at this
          exact this.1.1
      · split
        · rename_i h3
          intro s hs hr
          rcases List.mem_or_eq_of_mem_set hs with hs | rfl
          · exact h s hs hr
          · have := h3.2
            unfold bareB at this
            simp only [Bool.and_eq_true, decide_eq_true_eq] at this
            exact this.1.1
        · intro s hs hr
          rcases List.mem_append.1 hs with hs | hs
          · exact h s hs hr
          · simp at hs; subst hs; simp [stpOf] at hr
theorem relD_cmp (l : List shLayer.T) : ∀ i, i ≤ l.length → RelD (cmpF l i)
  | 0, _ => by intro s hs; simp [cmpF_zero] at hs
  | i + 1, h => by rw [cmpF_succ (by omega)]; exact (relD_cmp l i (by omega)).step _
theorem set_flat_nodup2 : ∀ {bss : List (List Nat)} {i : Nat} {bs bi : List Nat}, bss.flatten.Nodup → bs.Nodup → bss[i]? = some bi → (∀ b ∈ bs, b ∈ bi ∨ b ∉ bss.flatten) → (bss.set i bs).flatten.Nodup
  | [], _, _, _, _, _, _, _ => by simp
  | x :: bss, 0, bs, bi, h, hb, hi, hd => by
    simp only [List.getElem?_cons_zero, Option.some.injEq] at hi
    subst hi
    rw [List.flatten_cons, List.nodup_append] at h
    rw [List.set_cons_zero, List.flatten_cons, List.nodup_append]
    refine ⟨hb, h.2.1, fun a ha b hb' he => ?_⟩
    subst he
    rcases hd a ha with h' | h'
    · exact h.2.2 a h' a hb' rfl
    · exact h' (by rw [List.flatten_cons]; exact List.mem_append_right _ hb')
  | x :: bss, i + 1, bs, bi, h, hb, hi, hd => by
    simp only [List.getElem?_cons_succ] at hi
    rw [List.flatten_cons, List.nodup_append] at h
    have hsub : ∀ b ∈ bi, b ∈ bss.flatten := fun b hb' => List.mem_flatten.2 ⟨bi, List.mem_of_getElem? hi, hb'⟩
    rw [List.set_cons_succ, List.flatten_cons, List.nodup_append]
    refine ⟨h.1, set_flat_nodup2 h.2.1 hb hi (fun b hb' => ?_), fun a ha b hb' he => ?_⟩
    · rcases hd b hb' with h' | h'
      · exact .inl h'
      · exact .inr fun hm => h' (by rw [List.flatten_cons]; exact List.mem_append_right _ hm)
    · subst he
      rcases set_flat_sub a hb' with h' | h'
      · exact h.2.2 a ha a h' rfl
      · rcases hd a h' with h'' | h''
        · exact h.2.2 a ha a (hsub a h'') rfl
        · exact h'' (by rw [List.flatten_cons]; exact List.mem_append_left _ ha)
/-- An element of a grown list is turned: it keeps its blocks, and may get new ones. -/
theorem GrowOwn.turn {w0 w w' : World} {B : Nat} {te : TypeId} {E : Sh} {v : Value} {l : List E.T} {css : List (List Value)} {bss : List (List Nat)} (h : GrowOwn w0 B te E v l css bss) (hx : Ext w0 w) {i : Nat} {cs : List Value} {d : E.T} {bs bi : List Nat} (hbi : bss[i]? = some bi)
    (ho : Own w E cs d bs) (hn : bs.Nodup) (hf : ∀ b ∈ bs, b ∈ bi ∨ w0.heap.size ≤ b) (hB : B ≤ w0.heap.size) (hr : w'.ownsRow B te E.sz v l.length (css.set i cs).flatten) (hg : w.grownBy w' v.ownBlock) :
    GrowOwn w' B te E v (l.set i d) (css.set i cs) (bss.set i bs) := by
  have lt0 := h.els.lt
  have hv : ∀ k, v.ownBlock = some k → k < w0.heap.size := own_lt h.row
  have h1 := h.els.1; have h2 := h.els.2.1
  have hm : ∀ b ∈ bi, b ∈ bss.flatten := fun b hb => List.mem_flatten.2 ⟨bi, List.mem_of_getElem? hbi, hb⟩
  have hne : ∀ b ∈ bs, v.ownBlock ≠ some b := fun b hb hk => by
    rcases hf b hb with h' | h'
    · exact (h.lo b (hm b h')).2 hk
    · have := hv b hk; omega
  have ch : Chg (fun k => some k = v.ownBlock) w w' := Chg.of_grown hg
  have hels := (h.els.chg (.of_ext hx) (S := fun _ => False) (fun _ _ h => h)).chg ch (fun b hb hk => (h.lo b hb).2 hk.symm)
  refine ⟨by rw [List.length_set]; exact hr, ⟨by simp [h1], by simp [h2], fun j cs' bs' d' g1 g2 g3 => ?_⟩, ?_, ?_⟩
  · by_cases hj : i = j
    · subst hj
      have k1 := (List.getElem?_eq_some_iff.1 g1).1
      have k2 := (List.getElem?_eq_some_iff.1 g2).1
      have k3 := (List.getElem?_eq_some_iff.1 g3).1
      rw [List.length_set] at k1 k2 k3
      rw [List.getElem?_set_self k1] at g1
      rw [List.getElem?_set_self k2] at g2
      rw [List.getElem?_set_self k3] at g3
      cases g1; cases g2; cases g3
      exact ho.chg ch fun b hb hk => hne b hb hk.symm
    · rw [List.getElem?_set_ne hj] at g1 g2 g3
      exact hels.2.2 j cs' bs' d' g1 g2 g3
  · refine set_flat_nodup2 h.nodup hn hbi fun b hb => ?_
    rcases hf b hb with h' | h'
    · exact .inl h'
    · exact .inr fun hm' => by have := lt0 b hm'; omega
  · intro b hb
    rcases set_flat_sub b hb with h' | h'
    · exact h.lo b h'
    · refine ⟨?_, hne b h'⟩
      rcases hf b h' with h'' | h''
      · exact (h.lo b (hm b h'')).1
      · omega
section
variable {P : Program} {w : World} {ops : Array Oper} {rest : List Oper} {o : Oper} {a : Act} {Q : Exit → Act → World → Prop}
/-- A store to a cell of a row of the call's own. -/
theorem wl_stRC {e tf : Nat} [Cell1 P tf] {x y : Operand} (hg : o.guard = none) (ho : o.op = .store tf x y) {g n c B s i : Nat} {u : Value} (hx : a.eval x = .pointer (some ⟨g, i, none⟩)) (hy : a.eval y = u) (hu1 : u.oneCell' = true) {vs : List Value} (hc : w.ownsRow B e s (.slice (some ⟨g, 0, none⟩) n c) n vs) (hi : i < n * s)
    (h : ∀ w', w'.ownsRow B e s (.slice (some ⟨g, 0, none⟩) n c) n (vs.set i u) → w.grownBy w' (some g) → wpList P ops Q rest (a.put o.dst undef) w') : wpList P ops Q (o :: rest) a w := by
  have hlen : vs.length = n * s := hc.1
  have hcell : w.cell? ⟨g, i, none⟩ = some (vs[i]'(by omega)) := by rw [hc.cellAt _ hi]; simp [hlen, hi]
  have hst := hc.stored i u
  exact wl_skip hg (w' := w.setCell ⟨g, i, none⟩ u) (by simp [execOp, ho, hx, hy, run_store1 hcell (hc.frozenAt i) hu1]) (h _ hst.1 hst.2)
end
end Go.Proofs.Ytlimabbeaimdgaa
