/- Steps of plans: the reference's part. -/
import Derived.Test.YtangnigplachdaaPla
namespace Go.Proofs.Ytangnigplachdaa
set_option linter.unusedSimpArgs false
set_option linter.unusedVariables false
open Go.RowKit

set_option maxRecDepth 100000 in
set_option maxHeartbeats 1000000 in
theorem l09Step_any {sp : Option Nat} (bl o' : Nat) (k i o : Int) (pw pb ps : Option Addr) (nw cw nb cb ns cs : Nat) (rl : Bool) (w : World)
    (f0 : w.cell? ⟨bl, o', sp⟩ = some (.int .i64 k)) (f1 : w.cell? ⟨bl, o' + 1, none⟩ = some (.int .i64 i)) (f2 : w.cell? ⟨bl, o' + 2, none⟩ = some (.int .i64 o))
    (f3 : w.cell? ⟨bl, o' + 3, none⟩ = some (.slice pw nw cw)) (f4 : w.cell? ⟨bl, o' + 4, none⟩ = some (.slice pb nb cb)) (f5 : w.cell? ⟨bl, o' + 5, none⟩ = some (.slice ps ns cs)) (f6 : w.cell? ⟨bl, o' + 6, none⟩ = some (.bool rl))
    (h1 : nw ≤ maxLen) (h2 : nb ≤ maxLen) (h3 : ns ≤ maxLen) :
    Calls Try.prog 152 #[.pointer (some ⟨bl, o', sp⟩)] w (RetB w (stpB k i o nw nb ns rl)) := by
  have C := hid (fun b w' f0 f1 f2 f3 f4 => l03Layer_any (sp := none) b 0 k i o pw pb nw cw nb cb w' f0 f1 f2 f3 f4 h1 h2)
  generalize hB : stpB k i o nw nb ns rl = B
  unfold stpB at hB
  unfold maxLen at h3
  generalize layB k i o nw nb = L at *
  cases L
  · rw [Bool.false_and] at hB
    subst hB
    go_enter Try.func152, Try.ntmps152
    go_wp2_with fail
    refine (l09Layer_any bl o' k i o pw pb nw cw nb cb w f0 f1 f2 f3 f4).mono ?_
    rintro e w1 ⟨rfl, e1⟩
    go_wp2_with fail
    refine (C.out _ _ (by simp) (by simp) (by simp) (by simp) (by simp)).mono ?_
    rintro e w2 ⟨rfl, e2⟩
    go_wp2
    go_ret
    exact ⟨rfl, (e1.trans (Ext.alloc _ _)).trans e2⟩
  rw [Bool.true_and] at hB
  by_cases hk : k = 0
  · subst hk
    rw [if_pos rfl] at hB
    rcases Nat.eq_zero_or_pos ns with hn | hn
    · subst hn
      have hB' : B = true := by rw [← hB]; rfl
      subst hB'
      clear hB h3
      go_enter Try.func152, Try.ntmps152
      go_wp2_with fail
      refine (l09Layer_any bl o' 0 i o pw pb nw cw nb cb w f0 f1 f2 f3 f4).mono ?_
      rintro e w1 ⟨rfl, e1⟩
      go_wp2_with fail
      refine (C.out _ _ (by simp) (by simp) (by simp) (by simp) (by simp)).mono ?_
      rintro e w2 ⟨rfl, e2⟩
      have x := (e1.trans (Ext.alloc _ _)).trans e2
      have y0 := x.cell f0
      have y5 := x.cell f5
      have y6 := x.cell f6
      have z := x.trans (Ext.drew _)
      have z2 := z.cell f2
      have z5 := z.cell f5
      have z6 := z.cell f6
      go_wp2
      refine wp_region_xall (F := fun _ _ _ => True) (by kernel_rfl) (by kernel_rfl) (by kernel_rfl) ?_
      intro wf hwf
      repeat (first
        | (refine x_skip rfl ?_; simp only [Act.put, ev_tmp, List.setIfInBounds_toArray, List.set_cons_succ, List.set_cons_zero, List.getD_cons_succ, List.getD_cons_zero])
        | (refine x_mv rfl rfl rfl ?_; simp only [Act.put, ev_tmp, List.setIfInBounds_toArray, List.set_cons_succ, List.set_cons_zero, List.getD_cons_succ, List.getD_cons_zero])
        | (refine x_as rfl rfl rfl ?_; simp only [Act.put, ev_tmp, List.setIfInBounds_toArray, List.set_cons_succ, List.set_cons_zero, List.getD_cons_succ, List.getD_cons_zero])
        | (refine x_run rfl fun K hK w1 hw1 => ?_; have k0 := hw1.cell (z2); have k1 := hw1.cell (z5); have k2 := hw1.cell (z6); go_simp; refine hK _ ?_; clear hK K k0 k1 k2 hw1 w1))
      refine x_nil ?_
      go_wp2
      go_ret
      exact ⟨rfl, z.trans hwf⟩
    · have D1 : ((ns : Int) == 0) = false := beq_f (by omega)
      have hn0 : ¬ ns = 0 := by omega
      by_cases ho : (ns : Int) = o
      · have E := beq_t ho
        simp only [hn0, ho, decide_true, decide_false, Bool.false_or, Bool.true_and] at hB
        clear ho
        cases rl
        all_goals
          simp only [Bool.not_true, Bool.not_false] at hB
          subst hB
          go_enter Try.func152, Try.ntmps152
          go_wp2_with fail
          refine (l09Layer_any bl o' 0 i o pw pb nw cw nb cb w f0 f1 f2 f3 f4).mono ?_
          rintro e w1 ⟨rfl, e1⟩
          go_wp2_with fail
          refine (C.out _ _ (by simp) (by simp) (by simp) (by simp) (by simp)).mono ?_
          rintro e w2 ⟨rfl, e2⟩
          have x := (e1.trans (Ext.alloc _ _)).trans e2
          have y0 := x.cell f0
          have y5 := x.cell f5
          have y6 := x.cell f6
          have z := x.trans (Ext.drew _)
          have z2 := z.cell f2
          have z5 := z.cell f5
          have z6 := z.cell f6
          go_wp2
          refine wp_region_xall (F := fun _ _ _ => True) (by kernel_rfl) (by kernel_rfl) (by kernel_rfl) ?_
          intro wf hwf
          repeat (first
            | (refine x_skip rfl ?_; simp only [Act.put, ev_tmp, List.setIfInBounds_toArray, List.set_cons_succ, List.set_cons_zero, List.getD_cons_succ, List.getD_cons_zero])
            | (refine x_mv rfl rfl rfl ?_; simp only [Act.put, ev_tmp, List.setIfInBounds_toArray, List.set_cons_succ, List.set_cons_zero, List.getD_cons_succ, List.getD_cons_zero])
            | (refine x_as rfl rfl rfl ?_; simp only [Act.put, ev_tmp, List.setIfInBounds_toArray, List.set_cons_succ, List.set_cons_zero, List.getD_cons_succ, List.getD_cons_zero])
            | (refine x_run rfl fun K hK w1 hw1 => ?_; have k0 := hw1.cell (z2); have k1 := hw1.cell (z5); have k2 := hw1.cell (z6); go_simp; refine hK _ ?_; clear hK K k0 k1 k2 hw1 w1))
          refine x_nil ?_
          go_wp2
          go_ret
          exact ⟨rfl, z.trans hwf⟩
      · have E := beq_f ho
        simp only [hn0, ho, decide_false, Bool.false_or, Bool.false_and] at hB
        clear ho
        subst hB
        go_enter Try.func152, Try.ntmps152
        go_wp2_with fail
        refine (l09Layer_any bl o' 0 i o pw pb nw cw nb cb w f0 f1 f2 f3 f4).mono ?_
        rintro e w1 ⟨rfl, e1⟩
        go_wp2_with fail
        refine (C.out _ _ (by simp) (by simp) (by simp) (by simp) (by simp)).mono ?_
        rintro e w2 ⟨rfl, e2⟩
        have x := (e1.trans (Ext.alloc _ _)).trans e2
        have y0 := x.cell f0
        have y5 := x.cell f5
        have y6 := x.cell f6
        have z := x.trans (Ext.drew _)
        have z2 := z.cell f2
        have z5 := z.cell f5
        have z6 := z.cell f6
        go_wp2
        refine wp_region_xall (F := fun _ _ _ => True) (by kernel_rfl) (by kernel_rfl) (by kernel_rfl) ?_
        intro wf hwf
        repeat (first
          | (refine x_skip rfl ?_; simp only [Act.put, ev_tmp, List.setIfInBounds_toArray, List.set_cons_succ, List.set_cons_zero, List.getD_cons_succ, List.getD_cons_zero])
          | (refine x_mv rfl rfl rfl ?_; simp only [Act.put, ev_tmp, List.setIfInBounds_toArray, List.set_cons_succ, List.set_cons_zero, List.getD_cons_succ, List.getD_cons_zero])
          | (refine x_as rfl rfl rfl ?_; simp only [Act.put, ev_tmp, List.setIfInBounds_toArray, List.set_cons_succ, List.set_cons_zero, List.getD_cons_succ, List.getD_cons_zero])
          | (refine x_run rfl fun K hK w1 hw1 => ?_; have k0 := hw1.cell (z2); have k1 := hw1.cell (z5); have k2 := hw1.cell (z6); go_simp; refine hK _ ?_; clear hK K k0 k1 k2 hw1 w1))
        refine x_nil ?_
        go_wp2
        go_ret
        exact ⟨rfl, z.trans hwf⟩
  · have F0 := bne_t hk
    rw [if_neg hk] at hB
    clear hk
    rcases Nat.eq_zero_or_pos ns with hn | hn
    · subst hn
      simp only [decide_true, Bool.true_and] at hB
      cases rl
      all_goals
        simp only [Bool.not_true, Bool.not_false] at hB
        subst hB
        go_enter Try.func152, Try.ntmps152
        go_wp2_with fail
        refine (l09Layer_any bl o' k i o pw pb nw cw nb cb w f0 f1 f2 f3 f4).mono ?_
        rintro e w1 ⟨rfl, e1⟩
        go_wp2_with fail
        refine (C.out _ _ (by simp) (by simp) (by simp) (by simp) (by simp)).mono ?_
        rintro e w2 ⟨rfl, e2⟩
        have x := (e1.trans (Ext.alloc _ _)).trans e2
        have y0 := x.cell f0
        have y5 := x.cell f5
        have y6 := x.cell f6
        go_wp2
        go_ret
        exact ⟨rfl, x⟩
    · have D1 : ((ns : Int) == 0) = false := beq_f (by omega)
      have hn0 : ¬ ns = 0 := by omega
      simp only [hn0, decide_false, Bool.false_and] at hB
      subst hB
      go_enter Try.func152, Try.ntmps152
      go_wp2_with fail
      refine (l09Layer_any bl o' k i o pw pb nw cw nb cb w f0 f1 f2 f3 f4).mono ?_
      rintro e w1 ⟨rfl, e1⟩
      go_wp2_with fail
      refine (C.out _ _ (by simp) (by simp) (by simp) (by simp) (by simp)).mono ?_
      rintro e w2 ⟨rfl, e2⟩
      have x := (e1.trans (Ext.alloc _ _)).trans e2
      have y0 := x.cell f0
      have y5 := x.cell f5
      have y6 := x.cell f6
      go_wp2
      go_ret
      exact ⟨rfl, x⟩
end Go.Proofs.Ytangnigplachdaa
