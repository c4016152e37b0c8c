/- Layers: which are valid. -/
import Derived.Test.YtnlhahlegedlaaaTen
import Derived.Test.YtnlhahlegedlaaaAgg
namespace Go.Proofs.Ytnlhahlegedlaaa
set_option linter.unusedSimpArgs false
set_option linter.unusedVariables false
open Go.RowKit

def wCnt (k i o : Int) : Int := if k = 0 then i * o else if k = 2 then i else if k = 5 then i else 0
def bCnt (k i o : Int) : Int := if k = 0 then o else if k = 2 then 0 else if k = 5 then i else 0
/-- Which layers are valid. -/
def layB (k i o : Int) (nw nb : Nat) : Bool := inB k 0 5 && (inB i 1 8 && (inB o 1 8 && ((decide (k = 0) || decide (i = o)) && (decide ((nw : Int) = wCnt k i o) && decide ((nb : Int) = bCnt k i o)))))
theorem beq_t {a b : Int} (h : a = b) : (a == b) = true := beq_iff_eq.2 h
theorem beq_f {a b : Int} (h : ¬ a = b) : (a == b) = false := beq_eq_false_iff_ne.2 h
theorem bne_t {a b : Int} (h : ¬ a = b) : (a != b) = true := by simp [h]
theorem bne_f {a b : Int} (h : a = b) : (a != b) = false := by simp [h]
theorem mul_bd {i o : Int} (hi : 1 ≤ i ∧ i ≤ 8) (ho : 1 ≤ o ∧ o ≤ 8) : 0 ≤ i * o ∧ i * o ≤ 64 :=
  ⟨Int.mul_nonneg (by omega) (by omega), by have := Int.mul_le_mul hi.2 ho.2 (by omega) (by decide); omega⟩

set_option maxRecDepth 100000 in
set_option maxHeartbeats 1000000 in
theorem isSize_any (n : Int) (w : World) : Calls Try.prog 173 #[.int .i64 n] w fun e w' => e = .returned (.bool (inB n 1 8)) ∧ w = w' := by
  go_enter Try.func173, Try.ntmps173
  go_wp2_with (refine (within_any _ _ _ _).mono ?_; rintro e w' ⟨rfl, rfl⟩)
  go_ret
  exact ⟨rfl, rfl⟩

set_option maxRecDepth 100000 in
set_option maxHeartbeats 1000000 in
theorem ValidLayer_any (k i o : Int) (pw pb : Option Addr) (nw cw nb cb : Nat) (w : World) (h1 : nw ≤ maxLen) (h2 : nb ≤ maxLen) :
    Calls Try.prog 108 #[.agg #[.int .i64 k, .int .i64 i, .int .i64 o, .slice pw nw cw, .slice pb nb cb]] w (RetB w (layB k i o nw nb)) := by
  unfold maxLen at h1 h2
  generalize hB : layB k i o nw nb = B
  have HB := hid hB
  clear hB
  unfold layB at HB
  cases k1 : inB k 0 5
  · have K1 := hid k1
    have : B = false := by rw [← HB.out, k1]; rfl
    subst this
    clear k1
    go_enter Try.func108, Try.ntmps108
    go_wp2_with (go_at_call 130; refine (within_any _ _ _ _).mono ?_; rintro e w1 ⟨rfl, rfl⟩; rw [K1.out])
    go_ret
    exact ⟨rfl, Ext.alloc _ _⟩
  cases k2 : inB i 1 8
  · have K1 := hid k1
    have K2 := hid k2
    have : B = false := by rw [← HB.out, k1, k2]; rfl
    subst this
    clear k1 k2
    go_enter Try.func108, Try.ntmps108
    go_wp2_with (first | (go_at_call 130; refine (within_any _ _ _ _).mono ?_; rintro e w1 ⟨rfl, rfl⟩; rw [K1.out]) | (go_at_call 173; refine (isSize_any _ _).mono ?_; rintro e w1 ⟨rfl, rfl⟩; rw [K2.out]))
    go_ret
    exact ⟨rfl, Ext.alloc _ _⟩
  cases k3 : inB o 1 8
  · have K1 := hid k1
    have K2 := hid k2
    have K3 := hid k3
    have : B = false := by rw [← HB.out, k1, k2, k3]; rfl
    subst this
    clear k1 k2 k3
    go_enter Try.func108, Try.ntmps108
    go_wp2_with (first | (go_at_call 130; refine (within_any _ _ _ _).mono ?_; rintro e w1 ⟨rfl, rfl⟩; rw [K1.out]) | (go_at_call 173; refine (isSize_any _ _).mono ?_; rintro e w1 ⟨rfl, rfl⟩; first | rw [K2.out] | rw [K3.out]))
    go_ret
    exact ⟨rfl, Ext.alloc _ _⟩
  have K1 := hid k1
  have K2 := hid k2
  have K3 := hid k3
  rw [inB_true] at k1 k2 k3
  obtain ⟨m0, m1⟩ := mul_bd k2 k3
  have hB2 : B = ((decide (k = 0) || decide (i = o)) && (decide ((nw : Int) = wCnt k i o) && decide ((nb : Int) = bCnt k i o))) := by rw [← HB.out, K1.out, K2.out, K3.out]; rfl
  clear HB
  by_cases hk0 : k = 0
  · subst hk0
    have hw : wCnt 0 i o = i * o := rfl
    have hb : bCnt 0 i o = o := rfl
    rw [hw, hb] at hB2
    have hwr : wrap64 (o * i) = o * i := by
      have m2 : o * i = i * o := Int.mul_comm o i
      unfold wrap64; rw [m2]; omega
    by_cases e1 : (nw : Int) = i * o
    · by_cases e2 : (nb : Int) = o
      all_goals
        have E1 := beq_t (e1.trans (Int.mul_comm i o))
        first | have E2 := beq_t e2 | have E2 := beq_f e2
        simp only [e1, e2, decide_true, decide_false, Bool.true_or, Bool.or_true, Bool.true_and, Bool.and_true, Bool.and_false] at hB2
        subst hB2
        clear e1 e2 hw hb
        go_enter Try.func108, Try.ntmps108
        go_wp2_with (first | (go_at_call 130; refine (within_any _ _ _ _).mono ?_; rintro e w1 ⟨rfl, rfl⟩; rw [K1.out]) | (go_at_call 173; refine (isSize_any _ _).mono ?_; rintro e w1 ⟨rfl, rfl⟩; first | rw [K2.out] | rw [K3.out]))
        refine wp_region_xall (F := fun _ _ _ => True) (by kernel_rfl) (by kernel_rfl) (by kernel_rfl) ?_
        intro wf hwf
        repeat (first
          | (refine x_skip rfl ?_; simp only [Act.put, ev_tmp, List.setIfInBounds_toArray, List.set_cons_succ, List.set_cons_zero, List.getD_cons_succ, List.getD_cons_zero])
          | (refine x_mv rfl rfl rfl ?_; simp only [Act.put, ev_tmp, List.setIfInBounds_toArray, List.set_cons_succ, List.set_cons_zero, List.getD_cons_succ, List.getD_cons_zero])
          | (refine x_as rfl rfl rfl ?_; simp only [Act.put, ev_tmp, List.setIfInBounds_toArray, List.set_cons_succ, List.set_cons_zero, List.getD_cons_succ, List.getD_cons_zero])
          | (refine x_run rfl fun K hK w1 hw1 => ?_; have k0 := hw1.cellOf (b := w.heap.size) (by simp); go_simp; refine hK _ ?_; clear hK K k0 hw1 w1))
        refine x_nil ?_
        have z := hwf.cellOf (b := w.heap.size) (by simp)
        go_wp2
        go_ret
        exact ⟨rfl, ((Ext.alloc _ _).trans (Ext.drew _)).trans hwf⟩
    · have E1 := beq_f (fun h => e1 (h.trans (Int.mul_comm o i)))
      simp only [e1, decide_true, decide_false, Bool.true_or, Bool.or_true, Bool.true_and, Bool.false_and, Bool.and_false] at hB2
      subst hB2
      clear e1 hw hb
      go_enter Try.func108, Try.ntmps108
      go_wp2_with (first | (go_at_call 130; refine (within_any _ _ _ _).mono ?_; rintro e w1 ⟨rfl, rfl⟩; rw [K1.out]) | (go_at_call 173; refine (isSize_any _ _).mono ?_; rintro e w1 ⟨rfl, rfl⟩; first | rw [K2.out] | rw [K3.out]))
      refine wp_region_xall (F := fun _ _ _ => True) (by kernel_rfl) (by kernel_rfl) (by kernel_rfl) ?_
      intro wf hwf
      repeat (first
        | (refine x_skip rfl ?_; simp only [Act.put, ev_tmp, List.setIfInBounds_toArray, List.set_cons_succ, List.set_cons_zero, List.getD_cons_succ, List.getD_cons_zero])
        | (refine x_mv rfl rfl rfl ?_; simp only [Act.put, ev_tmp, List.setIfInBounds_toArray, List.set_cons_succ, List.set_cons_zero, List.getD_cons_succ, List.getD_cons_zero])
        | (refine x_as rfl rfl rfl ?_; simp only [Act.put, ev_tmp, List.setIfInBounds_toArray, List.set_cons_succ, List.set_cons_zero, List.getD_cons_succ, List.getD_cons_zero])
        | (refine x_run rfl fun K hK w1 hw1 => ?_; have k0 := hw1.cellOf (b := w.heap.size) (by simp); go_simp; refine hK _ ?_; clear hK K k0 hw1 w1))
      refine x_nil ?_
      have z := hwf.cellOf (b := w.heap.size) (by simp)
      go_wp2
      go_ret
      exact ⟨rfl, ((Ext.alloc _ _).trans (Ext.drew _)).trans hwf⟩
  by_cases hio : ¬ i = o
  · have F0 := bne_t hk0
    have F1 := bne_t hio
    have : B = false := by rw [hB2]; simp [hk0, hio]
    subst this
    clear hk0 hio hB2
    go_enter Try.func108, Try.ntmps108
    go_wp2_with (first | (go_at_call 130; refine (within_any _ _ _ _).mono ?_; rintro e w1 ⟨rfl, rfl⟩; rw [K1.out]) | (go_at_call 173; refine (isSize_any _ _).mono ?_; rintro e w1 ⟨rfl, rfl⟩; first | rw [K2.out] | rw [K3.out]))
    go_ret
    exact ⟨rfl, Ext.alloc _ _⟩
  have hio := Classical.not_not.1 hio
  subst hio
  by_cases hk2 : k = 2
  · subst hk2
    have hw : wCnt 2 i i = i := rfl
    have hb : bCnt 2 i i = 0 := rfl
    rw [hw, hb] at hB2
    by_cases e1 : (nw : Int) = i
    · by_cases e2 : (nb : Int) = 0
      all_goals
        have E1 := beq_t e1
        first | have E2 := beq_t e2 | have E2 := beq_f e2
        simp only [e1, e2, decide_true, decide_false, Bool.true_or, Bool.or_true, Bool.true_and, Bool.and_true, Bool.and_false] at hB2
        subst hB2
        clear e1 e2 hw hb
        go_enter Try.func108, Try.ntmps108
        go_wp2_with (first | (go_at_call 130; refine (within_any _ _ _ _).mono ?_; rintro e w1 ⟨rfl, rfl⟩; rw [K1.out]) | (go_at_call 173; refine (isSize_any _ _).mono ?_; rintro e w1 ⟨rfl, rfl⟩; first | rw [K2.out] | rw [K3.out]))
        go_ret
        exact ⟨rfl, Ext.alloc _ _⟩
    · have E1 := beq_f e1
      simp only [e1, decide_true, decide_false, Bool.true_or, Bool.or_true, Bool.true_and, Bool.false_and, Bool.and_false] at hB2
      subst hB2
      clear e1 hw hb
      go_enter Try.func108, Try.ntmps108
      go_wp2_with (first | (go_at_call 130; refine (within_any _ _ _ _).mono ?_; rintro e w1 ⟨rfl, rfl⟩; rw [K1.out]) | (go_at_call 173; refine (isSize_any _ _).mono ?_; rintro e w1 ⟨rfl, rfl⟩; first | rw [K2.out] | rw [K3.out]))
      go_ret
      exact ⟨rfl, Ext.alloc _ _⟩
  by_cases hk5 : k = 5
  · subst hk5
    have hw : wCnt 5 i i = i := rfl
    have hb : bCnt 5 i i = i := rfl
    rw [hw, hb] at hB2
    by_cases e1 : (nw : Int) = i
    · by_cases e2 : (nb : Int) = i
      all_goals
        have E1 := beq_t e1
        first | have E2 := beq_t e2 | have E2 := beq_f e2
        simp only [e1, e2, decide_true, decide_false, Bool.true_or, Bool.or_true, Bool.true_and, Bool.and_true, Bool.and_false] at hB2
        subst hB2
        clear e1 e2 hw hb
        go_enter Try.func108, Try.ntmps108
        go_wp2_with (first | (go_at_call 130; refine (within_any _ _ _ _).mono ?_; rintro e w1 ⟨rfl, rfl⟩; rw [K1.out]) | (go_at_call 173; refine (isSize_any _ _).mono ?_; rintro e w1 ⟨rfl, rfl⟩; first | rw [K2.out] | rw [K3.out]))
        refine wp_region_xall (F := fun _ _ _ => True) (by kernel_rfl) (by kernel_rfl) (by kernel_rfl) ?_
        intro wf hwf
        repeat (first
          | (refine x_skip rfl ?_; simp only [Act.put, ev_tmp, List.setIfInBounds_toArray, List.set_cons_succ, List.set_cons_zero, List.getD_cons_succ, List.getD_cons_zero])
          | (refine x_mv rfl rfl rfl ?_; simp only [Act.put, ev_tmp, List.setIfInBounds_toArray, List.set_cons_succ, List.set_cons_zero, List.getD_cons_succ, List.getD_cons_zero])
          | (refine x_as rfl rfl rfl ?_; simp only [Act.put, ev_tmp, List.setIfInBounds_toArray, List.set_cons_succ, List.set_cons_zero, List.getD_cons_succ, List.getD_cons_zero])
          | (refine x_run rfl fun K hK w1 hw1 => ?_; have k0 := hw1.cellOf (b := w.heap.size) (by simp); go_simp; refine hK _ ?_; clear hK K k0 hw1 w1))
        refine x_nil ?_
        have z := hwf.cellOf (b := w.heap.size) (by simp)
        go_wp2
        go_ret
        exact ⟨rfl, ((Ext.alloc _ _).trans (Ext.drew _)).trans hwf⟩
    · have E1 := beq_f e1
      simp only [e1, decide_true, decide_false, Bool.true_or, Bool.or_true, Bool.true_and, Bool.false_and, Bool.and_false] at hB2
      subst hB2
      clear e1 hw hb
      go_enter Try.func108, Try.ntmps108
      go_wp2_with (first | (go_at_call 130; refine (within_any _ _ _ _).mono ?_; rintro e w1 ⟨rfl, rfl⟩; rw [K1.out]) | (go_at_call 173; refine (isSize_any _ _).mono ?_; rintro e w1 ⟨rfl, rfl⟩; first | rw [K2.out] | rw [K3.out]))
      refine wp_region_xall (F := fun _ _ _ => True) (by kernel_rfl) (by kernel_rfl) (by kernel_rfl) ?_
      intro wf hwf
      repeat (first
        | (refine x_skip rfl ?_; simp only [Act.put, ev_tmp, List.setIfInBounds_toArray, List.set_cons_succ, List.set_cons_zero, List.getD_cons_succ, List.getD_cons_zero])
        | (refine x_mv rfl rfl rfl ?_; simp only [Act.put, ev_tmp, List.setIfInBounds_toArray, List.set_cons_succ, List.set_cons_zero, List.getD_cons_succ, List.getD_cons_zero])
        | (refine x_as rfl rfl rfl ?_; simp only [Act.put, ev_tmp, List.setIfInBounds_toArray, List.set_cons_succ, List.set_cons_zero, List.getD_cons_succ, List.getD_cons_zero])
        | (refine x_run rfl fun K hK w1 hw1 => ?_; have k0 := hw1.cellOf (b := w.heap.size) (by simp); go_simp; refine hK _ ?_; clear hK K k0 hw1 w1))
      refine x_nil ?_
      have z := hwf.cellOf (b := w.heap.size) (by simp)
      go_wp2
      go_ret
      exact ⟨rfl, ((Ext.alloc _ _).trans (Ext.drew _)).trans hwf⟩
  have F0 := bne_t hk0
  have F0' := beq_f hk0
  have F2 := beq_f hk2
  have F5 := beq_f hk5
  have hw : wCnt k i i = 0 := by unfold wCnt; rw [if_neg hk0, if_neg hk2, if_neg hk5]
  have hb : bCnt k i i = 0 := by unfold bCnt; rw [if_neg hk0, if_neg hk2, if_neg hk5]
  rw [hw, hb] at hB2
  clear hk0 hk2 hk5 hw hb
  by_cases e1 : (nw : Int) = 0
  · by_cases e2 : (nb : Int) = 0
    all_goals
      have E1 := beq_t e1
      first | have E2 := beq_t e2 | have E2 := beq_f e2
      simp only [e1, e2, decide_true, decide_false, Bool.true_or, Bool.or_true, Bool.true_and, Bool.and_true, Bool.and_false] at hB2
      subst hB2
      clear e1 e2
      go_enter Try.func108, Try.ntmps108
      go_wp2_with (first | (go_at_call 130; refine (within_any _ _ _ _).mono ?_; rintro e w1 ⟨rfl, rfl⟩; rw [K1.out]) | (go_at_call 173; refine (isSize_any _ _).mono ?_; rintro e w1 ⟨rfl, rfl⟩; first | rw [K2.out] | rw [K3.out]))
      go_ret
      exact ⟨rfl, Ext.alloc _ _⟩
  · have E1 := beq_f e1
    simp only [e1, decide_true, decide_false, Bool.true_or, Bool.or_true, Bool.true_and, Bool.false_and, Bool.and_false] at hB2
    subst hB2
    clear e1
    go_enter Try.func108, Try.ntmps108
    go_wp2_with (first | (go_at_call 130; refine (within_any _ _ _ _).mono ?_; rintro e w1 ⟨rfl, rfl⟩; rw [K1.out]) | (go_at_call 173; refine (isSize_any _ _).mono ?_; rintro e w1 ⟨rfl, rfl⟩; first | rw [K2.out] | rw [K3.out]))
    go_ret
    exact ⟨rfl, Ext.alloc _ _⟩
end Go.Proofs.Ytnlhahlegedlaaa
