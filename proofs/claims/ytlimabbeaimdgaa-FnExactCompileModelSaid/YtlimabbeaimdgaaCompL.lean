/- CompileModel: the two contracts, and the plan's size. -/
import Derived.Test.YtlimabbeaimdgaaCompI
import Derived.Test.YtlimabbeaimdgaaCompS
namespace Go.Proofs.Ytlimabbeaimdgaa.lCompileModel
set_option linter.unusedSimpArgs false
set_option linter.unusedVariables false
open Go.RowKit

/-- What the reference gives (its lists may share among themselves). -/
def OutR (w : World) (s : Sh) (r : s.T × Bool) (e : Ending) (w' : World) : Prop :=
  ∃ cs bs, e = .returned (.tuple #[ofCs s cs, .bool r.2]) ∧ Own w' s cs r.1 bs ∧ True ∧ (∀ b ∈ bs, w.heap.size ≤ b) ∧ True ∧ Ext w w'
theorem cmp_small {l : List shLayer.T} (h : ∀ d ∈ l, (d.2.2.2.1 : List Nat).length ≤ 64 ∧ (d.2.2.2.2.1 : List Nat).length ≤ 64) : ∀ i, i ≤ l.length → ∀ s ∈ cmpF l i, (s.2.2.2.1 : List Nat).length ≤ 64 ∧ (s.2.2.2.2.1 : List Nat).length ≤ 64 ∧ (s.2.2.2.2.2.1 : List Nat).length ≤ 64
  | 0, _ => by intro s hs; simp [cmpF_zero] at hs
  | i + 1, hi => by
    have ih := cmp_small h i (by omega)
    rw [cmpF_succ (by omega)]
    have hd := h l[i] (by simp)
    generalize l[i] = d at hd
    generalize cmpF l i = P at ih
    have hlast : ∀ {P : List shPlanStep.T}, bareB (lastP P) = true → lastP P ∈ P := fun h => lastP_mem (bareB_pos h)
    unfold cmpS
    split
    · exact ih
    · split
      · exact ih
      · split
        · rename_i h3
          intro s hs
          rcases List.mem_or_eq_of_mem_set hs with hs | rfl
          · exact ih s hs
          · have := ih _ (hlast h3.2)
            exact ⟨this.1, this.2.1, this.2.2⟩
        · split
          · rename_i h3
            intro s hs
            rcases List.mem_or_eq_of_mem_set hs with hs | rfl
            · exact ih s hs
            · have := ih _ (hlast h3.2)
              exact ⟨this.1, this.2.1, hd.1⟩
          · intro s hs
            rcases List.mem_append.1 hs with hs | hs
            · exact ih s hs
            · simp only [List.mem_singleton] at hs
              subst hs
              exact ⟨hd.1, hd.2, Nat.zero_le _⟩
theorem tot_flts : ∀ (l : List Nat), tot (.sl .flt) l = l.length := fun l => by
  have : ∀ (z : List Nat), (z.map (tot .flt)).sum = 0 := by intro z; induction z with | nil => rfl | cons a z ih => rw [List.map_cons, List.sum_cons, ih]; rfl
  rw [tot, this]; rfl
theorem tot_stp (d : shPlanStep.T) : tot shPlanStep d = (d.2.2.2.1 : List Nat).length + ((d.2.2.2.2.1 : List Nat).length + (d.2.2.2.2.2.1 : List Nat).length) := by
  have h1 : tot shPlanStep d = 0 + (0 + (0 + (tot (.sl .flt) d.2.2.2.1 + (tot (.sl .flt) d.2.2.2.2.1 + (tot (.sl .flt) d.2.2.2.2.2.1 + (0 + 0)))))) := rfl
  rw [h1, tot_flts, tot_flts, tot_flts]; omega
theorem res_bd (d : shModel.T) (_ : tot shModel d ≤ 1048576) (_ : Fit shModel d) : tot shPlan (res d).1 ≤ 1048576 := by
  cases hb : modB d.1
  · rw [res_no hb]; simp [tot]
  · have hS := small_of (modOk hb)
    have h1 := cmp_small hS.2 d.1.length (Nat.le_refl _)
    have h2 := cmpF_len d.1 d.1.length (Nat.le_refl _)
    have h3 := hS.1
    rw [show res d = ((cmpF d.1 d.1.length, ()), true) from by unfold res; rw [if_pos hb]]
    generalize cmpF d.1 d.1.length = P at *
    have h4 : ∀ (l : List shPlanStep.T), (∀ s ∈ l, (s.2.2.2.1 : List Nat).length ≤ 64 ∧ (s.2.2.2.2.1 : List Nat).length ≤ 64 ∧ (s.2.2.2.2.2.1 : List Nat).length ≤ 64) → (l.map (tot shPlanStep)).sum ≤ l.length * 192 := by
      intro l
      induction l with
      | nil => intro _; simp
      | cons s l ih =>
        intro hl
        have g2 := ih fun x hx => hl x (by simp [hx])
        have g3 := hl s (by simp)
        rw [List.map_cons, List.sum_cons, List.length_cons, tot_stp]
        omega
    have h5 := h4 P h1
    have h6 : tot shPlan (P, ()) = P.length + (P.map (tot shPlanStep)).sum + 0 := rfl
    show tot shPlan (P, ()) ≤ 1048576
    omega
set_option maxRecDepth 100000 in
set_option maxHeartbeats 4000000 in
theorem spec_ok (cs0 : List Value) (D0 : shModel.T) (w : World) (h0 : Rep w shModel cs0 D0) (f0 : Fit shModel D0) : Calls Try.prog 13 #[ofCs shModel cs0] w (OutR w shPlan (res D0)) := by
  obtain ⟨L0, u0⟩ := D0
  obtain ⟨c0, c1, rfl, k0, rfl⟩ := h0
  obtain ⟨p, c, rfl, _⟩ := rep_val k0
  obtain ⟨p', c', css, he0, L⟩ := lays_of k0 f0.1
  cases he0
  simp only [ofCs, Sh.agg, if_true, List.append_nil]
  obtain ⟨W0, hW0⟩ : ∃ W0, W0 = (w.alloc (.cells #[.slice p L0.length c] 33)).alloc (.cells #[.slice none 0 0] 28) := ⟨_, rfl⟩
  obtain ⟨E0, s0, b0, b1⟩ := box2 hW0
  have b0 : HB W0 w.heap.size #[.slice p L0.length c] 33 := b0
  have b1 : HB W0 (w.heap.size + 1) #[.slice none 0 0] 28 := b1
  have A := hid (fun W (h : Ext W0 W) => l03Is_any (sp := none) w.heap.size 0 p L0.length c L0 css W ((b0.ext h).cell 0 rfl) L.len L.le (L.cs.ext (E0.trans h)) (L.all.imp fun _ _ => Rep.ext (E0.trans h)) L.size L.cnt)
  clear k0
  cases hb0 : modB L0
  · rw [res_no hb0]
    rw [hb0] at A
    clear L f0 b0 hb0
    generalize L0.length = n at *
    go_enter Try.func13, Try.ntmps13
    go_wp2_with fail
    rw [← hW0]
    clear hW0
    refine (A.out _ (Ext.refl _)).mono ?_
    rintro e w1 ⟨rfl, e1⟩
    have f1 := b1.ext e1
    have n1 := f1.cell 0 rfl
    have m1 := f1.froz 0
    go_wp2
    refine bodyPost_ret (v := .tuple #[.agg #[.slice none 0 0], .bool false]) (by simp [results, Try.results13, go_sem, n1, m1]) rfl ?_
    exact ⟨[.slice none 0 0], [], rfl, own_pla own_nil, trivial, by simp, trivial, by have := E0.trans e1; (repeat (first | with_reducible exact Ext.refl _ | with_reducible assumption | ((with_reducible refine Ext.setCell ?_ ?_ _); rotate_left; focus (first | (simp; done) | (simp; omega))) | (with_reducible refine Ext.trans ?_ (Ext.alloc _ _)) | (with_reducible refine Ext.trans ?_ (Ext.drew _)) | (with_reducible refine Ext.trans ?_ (by with_reducible assumption))))⟩
  rw [hb0] at A
  have hS := small_of (modOk hb0)
  have B := hid (fun W (h : Ext W0 W) => l09Compile_any (sp := none) w.heap.size 0 p L0.length c css L0 W (L.ext (E0.trans h)) hS ((b0.ext h).cell 0 rfl))
  rw [show res (L0, u0) = ((cmpF L0 L0.length, ()), true) from by unfold res; rw [if_pos hb0]]
  clear L f0 hS hb0 b0
  generalize cmpF L0 L0.length = P at *
  generalize L0.length = n at *
  go_enter Try.func13, Try.ntmps13
  go_wp2_with fail
  rw [← hW0]
  clear hW0
  refine (A.out _ (Ext.refl _)).mono ?_
  rintro e w1 ⟨rfl, e1⟩
  go_wp2_with fail
  refine (B.out _ e1).mono ?_
  rintro e w2 ⟨cs, bs, rfl, o1, o2, e2⟩
  obtain ⟨_, _, _, _, rfl, o4, ⟨rfl, rfl⟩, rfl⟩ := o1
  obtain ⟨q, k, hcs, _⟩ := rep_val o4.rep
  subst hcs
  simp only [ofCs, Sh.agg, if_true, List.append_nil]
  have hz := e1.size
  have f1 := b1.ext (e1.trans e2)
  have n1 := f1.cell 0 rfl
  have m1 := f1.froz 0
  have eW := E0.trans (e1.trans e2)
  have Hlt := hid (fun b hb => o2 b (List.mem_append_left _ hb))
  dsimp only at o4 n1 m1 ⊢
  go_wp2
  refine bodyPost_ret (v := .tuple #[.agg #[.slice q P.length k], .bool true]) (by simp [results, Try.results13, go_sem, n1, m1]) rfl ?_
  have ch := chg_cell w2 (w.heap.size + 1) 0 (.slice q P.length k)
  exact ⟨[.slice q P.length k], _, rfl, own_pla0 (o4.chg ch (fun b hb h => by have := Hlt.out b hb; have h : b = _ := h; omega)), trivial, fun b hb => by have := Hlt.out b hb; omega, trivial, eW.chg ch (fun b hb => by omega)⟩
end Go.Proofs.Ytlimabbeaimdgaa.lCompileModel
