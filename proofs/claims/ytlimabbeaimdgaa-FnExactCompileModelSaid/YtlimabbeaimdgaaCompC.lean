/- CompileModel: what is held round by round. -/
import Derived.Test.YtlimabbeaimdgaaCompW
import Derived.Test.YtlimabbeaimdgaaKf
namespace Go.Proofs.Ytlimabbeaimdgaa
set_option linter.unusedSimpArgs false
set_option linter.unusedVariables false
open Go.RowKit

/-- The steps so far, and the struct that holds them. -/
structure Cst (w1 wr : World) (bo m c : Nat) (q : Option Addr) (P : List shPlanStep.T) (cs : List (List Value)) (bss : List (List Nat)) : Prop where
  out : HB wr bo #[.slice q m c] 28
  len : P.length = m
  grow : GrowOwn wr w1.heap.size 117 shPlanStep (.slice q m c) P cs bss
  tys : Tys wr [49] bss.flatten
  ext : Ext w1 wr
  lo : w1.heap.size ≤ bo
theorem Cst.on {w1 wr w2 : World} {bo m c : Nat} {q : Option Addr} {P : List shPlanStep.T} {cs : List (List Value)} {bss : List (List Nat)} (h : Cst w1 wr bo m c q P cs bss) (e : Ext wr w2) : Cst w1 w2 bo m c q P cs bss :=
  ⟨h.out.ext e, h.len, h.grow.ext e, h.tys.ext e, h.ext.trans e, h.lo⟩
theorem Cst.row {w1 wr : World} {bo m c : Nat} {q : Option Addr} {P : List shPlanStep.T} {cs : List (List Value)} {bss : List (List Nat)} (h : Cst w1 wr bo m c q P cs bss) : wr.ownsRow w1.heap.size 117 7 (.slice q m c) m cs.flatten := by
  have := h.grow.row
  rw [h.len] at this
  exact this
theorem Cst.ne {w1 wr : World} {bo m c : Nat} {q : Option Addr} {P : List shPlanStep.T} {cs : List (List Value)} {bss : List (List Nat)} (h : Cst w1 wr bo m c q P cs bss) : (∀ k, (Value.slice q m c).ownBlock = some k → k ≠ bo) ∧ ∀ b ∈ bss.flatten, b ≠ bo := by
  refine ⟨own_tag h.row h.out (by decide), fun b hb he => ?_⟩
  subst he
  exact h.tys.no (t := 28) (by decide) b hb _ h.out
theorem Cst.push {w1 wr wf w6 : World} {bo m c : Nat} {q : Option Addr} {P : List shPlanStep.T} {cs : List (List Value)} {bss : List (List Nat)} (h : Cst w1 wr bo m c q P cs bss) (eW : Ext wr wf) {d : shLayer.T} {qw qb qz : Option Addr} {lw kw lb kb kz : Nat} {bw bb bz : List Nat}
    (o1 : Own wf (.sl .flt) [.slice qw lw kw] d.2.2.2.1 bw) (o2 : Own wf (.sl .flt) [.slice qb lb kb] d.2.2.2.2.1 bb) (o3 : Own wf (.sl .flt) [.slice qz 0 kz] [] bz) (hn : (bw ++ (bb ++ bz)).Nodup) (lo : ∀ b ∈ bw ++ (bb ++ bz), wr.heap.size ≤ b) (ty : Tys wf [49] (bw ++ (bb ++ bz)))
    {g6 c6 : Nat} (own6 : w6.ownsRow w1.heap.size 117 7 (.slice (some ⟨g6, 0, none⟩) (m + 1) c6) (m + 1) (cs.flatten ++ [.int .i64 d.1, .int .i64 d.2.1, .int .i64 d.2.2.1, .slice qw lw kw, .slice qb lb kb, .slice qz 0 kz, .bool false])) (gr : wf.grownBy w6 (Value.slice q m c).ownBlock) (hg : (Value.slice q m c).ownBlock = some g6 ∨ wf.heap.size ≤ g6) :
    ∃ cs' bss', Cst w1 (w6.setCell ⟨bo, 0, none⟩ (.slice (some ⟨g6, 0, none⟩) (m + 1) c6)) bo (m + 1) c6 (some ⟨g6, 0, none⟩) (P ++ [stpOf d]) cs' bss' := by
  have hsz := h.ext.size
  have hsz2 := eW.size
  have hrow := h.row
  obtain ⟨ne1, ne2⟩ := h.ne
  have hW := h.out.ext eW
  have hW6 : HB w6 bo #[.slice q m c] 28 := hW.chg (.of_grown gr) (fun hh => ne1 _ hh.symm rfl)
  have hs := stpOf_own o1 o2 o3
  have G := h.grow.snoc2 eW hs hn lo (by omega) (n := m) h.len own6 gr hg
  have hfl : (bss ++ [bw ++ (bb ++ bz)]).flatten = bss.flatten ++ (bw ++ (bb ++ bz)) := by simp
  have T6 : Tys w6 [49] (bss ++ [bw ++ (bb ++ bz)]).flatten := by
    rw [hfl]
    refine ((h.tys.ext eW).app ty).chg (.of_grown gr) (fun b hb hh => ?_)
    rcases List.mem_append.1 hb with hb | hb
    · exact (h.grow.lo b hb).2 hh.symm
    · have := own_lt hrow b hh.symm; have := lo b hb; omega
  have nb : ∀ b ∈ (bss ++ [bw ++ (bb ++ bz)]).flatten, b ≠ bo := fun b hb he => by
    subst he
    exact T6.no (t := 28) (by decide) b hb _ hW6
  have rn := own_tag own6 hW6 (by decide)
  have ch := chg_cell w6 bo 0 (.slice (some ⟨g6, 0, none⟩) (m + 1) c6)
  have e6 : Ext w1 w6 := (h.ext.trans eW).grown gr (fun k hk => own_le hrow k hk)
  have G2 : GrowOwn (w6.setCell ⟨bo, 0, none⟩ (.slice (some ⟨g6, 0, none⟩) (m + 1) c6)) w1.heap.size 117 shPlanStep (.slice (some ⟨g6, 0, none⟩) (m + 1) c6) (P ++ [stpOf d]) _ _ := ⟨own_chgK G.row ch (fun b hb hk => rn b hb hk), G.els.chg ch (fun b hb hk => nb b hb hk), G.nodup, G.lo⟩
  exact ⟨_, _, hW6.set 0 _, by rw [List.length_append, h.len]; rfl, G2, T6.chg ch nb, e6.chg ch (fun b hb => by have := h.lo; omega), h.lo⟩
theorem Cst.relu {w1 wr w2 w9 : World} {bo m c g : Nat} {P : List shPlanStep.T} {cs : List (List Value)} {bss : List (List Nat)} (h : Cst w1 wr bo m c (some ⟨g, 0, none⟩) P cs bss) (e : Ext wr w2) (hm : 1 ≤ m)
    (hr : w9.ownsRow w1.heap.size 117 7 (.slice (some ⟨g, 0, none⟩) m c) m (cs.flatten.set ((m - 1) * 7 + 6) (.bool true))) (hg : w2.grownBy w9 (some g)) :
    ∃ cs', Cst w1 w9 bo m c (some ⟨g, 0, none⟩) (P.set (m - 1) (withR (lastP P))) cs' bss := by
  have hsz := h.ext.size
  obtain ⟨ne1, ne2⟩ := h.ne
  obtain ⟨cs', G⟩ := turn_relu h.grow e (by omega) h.len hm hr hg
  have ch : Chg (fun k => some k = some g) w2 w9 := .of_grown hg
  exact ⟨cs', (h.out.ext e).chg ch (fun hh => ne1 _ hh.symm rfl), by rw [List.length_set]; exact h.len, G, (h.tys.ext e).chg ch (fun b hb hh => (h.grow.lo b hb).2 hh.symm), (h.ext.trans e).grown hg (fun k hk => own_le h.row k hk), h.lo⟩
theorem Cst.scale {w1 wr w2 w9 : World} {bo m c g lx kx : Nat} {qx : Option Addr} {xs bx : List Nat} {P : List shPlanStep.T} {cs : List (List Value)} {bss : List (List Nat)} (h : Cst w1 wr bo m c (some ⟨g, 0, none⟩) P cs bss) (e : Ext wr w2) (hm : 1 ≤ m)
    (ox : Own w2 (.sl .flt) [.slice qx lx kx] xs bx) (nx : bx.Nodup) (lo : ∀ b ∈ bx, wr.heap.size ≤ b) (ty : Tys w2 [49] bx)
    (hr : w9.ownsRow w1.heap.size 117 7 (.slice (some ⟨g, 0, none⟩) m c) m (cs.flatten.set ((m - 1) * 7 + 5) (.slice qx lx kx))) (hg : w2.grownBy w9 (some g)) :
    ∃ cs' bss', Cst w1 w9 bo m c (some ⟨g, 0, none⟩) (P.set (m - 1) (withS (lastP P) xs)) cs' bss' := by
  have hsz := h.ext.size
  obtain ⟨ne1, ne2⟩ := h.ne
  have hrow := h.row
  obtain ⟨cs', bss', G, hsub⟩ := turn_scale h.grow e (by omega) h.len hm ox nx lo hr hg
  have ch : Chg (fun k => some k = some g) w2 w9 := .of_grown hg
  have T9 : Tys w9 [49] bss'.flatten := by
    have h1 := (h.tys.ext e).chg ch (fun b hb hh => (h.grow.lo b hb).2 hh.symm)
    have h2 := ty.chg ch (fun b hb hh => by have := own_lt hrow b hh.symm; have := lo b hb; omega)
    intro b hb
    rcases hsub b hb with hb | hb
    · exact h1 b hb
    · exact h2 b hb
  exact ⟨cs', bss', (h.out.ext e).chg ch (fun hh => ne1 _ hh.symm rfl), by rw [List.length_set]; exact h.len, G, T9, (h.ext.trans e).grown hg (fun k hk => own_le h.row k hk), h.lo⟩
/-- What becomes of the steps. -/
theorem cmp_skip2 {P : List shPlanStep.T} {d : shLayer.T} (h1 : d.1 = 2) (h2 : onesB d.2.2.2.1 = true) : cmpS P d = P := by unfold cmpS; rw [if_pos ⟨h1, h2⟩]
theorem cmp_skip1 {P : List shPlanStep.T} {d : shLayer.T} (h1 : d.1 = 1) (h2 : reluB (lastP P) = true) : cmpS P d = P := by
  unfold cmpS; rw [if_neg (fun h => absurd (h1.symm.trans h.1) (by decide : ¬ ((1 : Int) = 2))), if_pos ⟨h1, h2⟩]
theorem cmp_relu {P : List shPlanStep.T} {d : shLayer.T} (h1 : d.1 = 1) (h2 : reluB (lastP P) = false) (h3 : bareB (lastP P) = true) : cmpS P d = P.set (P.length - 1) (withR (lastP P)) := by
  unfold cmpS; rw [if_neg (fun h => absurd (h1.symm.trans h.1) (by decide : ¬ ((1 : Int) = 2))), if_neg (fun h => by have := h.2; rw [h2] at this; cases this), if_pos ⟨h1, h3⟩]
theorem cmp_scale {P : List shPlanStep.T} {d : shLayer.T} (h1 : d.1 = 2) (h2 : onesB d.2.2.2.1 = false) (h3 : bareB (lastP P) = true) : cmpS P d = P.set (P.length - 1) (withS (lastP P) d.2.2.2.1) := by
  unfold cmpS; rw [if_neg (fun h => by have := h.2; rw [h2] at this; cases this), if_neg (fun h => absurd (h1.symm.trans h.1) (by decide : ¬ ((2 : Int) = 1))), if_neg (fun h => absurd (h1.symm.trans h.1) (by decide : ¬ ((2 : Int) = 1))), if_pos ⟨h1, h3⟩]
theorem cmp_push0 {P : List shPlanStep.T} {d : shLayer.T} (h1 : d.1 ≠ 1) (h2 : d.1 ≠ 2) : cmpS P d = P ++ [stpOf d] := by
  unfold cmpS; rw [if_neg (fun h => h2 h.1), if_neg (fun h => h1 h.1), if_neg (fun h => h1 h.1), if_neg (fun h => h2 h.1)]
theorem cmp_push1 {P : List shPlanStep.T} {d : shLayer.T} (h1 : d.1 = 1) (h2 : reluB (lastP P) = false) (h3 : bareB (lastP P) = false) : cmpS P d = P ++ [stpOf d] := by
  unfold cmpS; rw [if_neg (fun h => absurd (h1.symm.trans h.1) (by decide : ¬ ((1 : Int) = 2))), if_neg (fun h => by have := h.2; rw [h2] at this; cases this), if_neg (fun h => by have := h.2; rw [h3] at this; cases this), if_neg (fun h => absurd (h1.symm.trans h.1) (by decide : ¬ ((1 : Int) = 2)))]
theorem cmp_push2 {P : List shPlanStep.T} {d : shLayer.T} (h1 : d.1 = 2) (h2 : onesB d.2.2.2.1 = false) (h3 : bareB (lastP P) = false) : cmpS P d = P ++ [stpOf d] := by
  unfold cmpS; rw [if_neg (fun h => by have := h.2; rw [h2] at this; cases this), if_neg (fun h => absurd (h1.symm.trans h.1) (by decide : ¬ ((2 : Int) = 1))), if_neg (fun h => absurd (h1.symm.trans h.1) (by decide : ¬ ((2 : Int) = 1))), if_neg (fun h => by have := h.2; rw [h3] at this; cases this)]
end Go.Proofs.Ytlimabbeaimdgaa
