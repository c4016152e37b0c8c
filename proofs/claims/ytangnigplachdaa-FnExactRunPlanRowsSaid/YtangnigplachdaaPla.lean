/- Steps of plans: which are valid. -/
import Derived.Test.YtangnigplachdaaKc
import Derived.Test.YtangnigplachdaaHPlan
namespace Go.Proofs.Ytangnigplachdaa
set_option linter.unusedSimpArgs false
set_option linter.unusedVariables false
open Go.RowKit

/-- Which steps are valid. -/
def stpB (k i o : Int) (nw nb ns : Nat) (rl : Bool) : Bool := layB k i o nw nb && (if k = 0 then decide (ns = 0) || (decide ((ns : Int) = o) && !rl) else decide (ns = 0) && !rl)

set_option maxRecDepth 100000 in
set_option maxHeartbeats 1000000 in
theorem layer_any (k i o : Int) (pw pb ps : Option Addr) (nw cw nb cb ns cs : Nat) (rl : Bool) (w : World) :
    Calls Try.prog 158 #[.agg #[.int .i64 k, .int .i64 i, .int .i64 o, .slice pw nw cw, .slice pb nb cb, .slice ps ns cs, .bool rl]] w fun e w' => e = .returned (.agg #[.int .i64 k, .int .i64 i, .int .i64 o, .slice pw nw cw, .slice pb nb cb]) ∧ Ext w w' := by
  go_enter Try.func158, Try.ntmps158
  go_wp2
  refine bodyPost_ret (v := .agg #[.int .i64 k, .int .i64 i, .int .i64 o, .slice pw nw cw, .slice pb nb cb]) (by simp [results, Try.results158, go_sem, go_sem]) rfl ?_
  refine ⟨rfl, ?_⟩
  (repeat (first | with_reducible exact Ext.refl _ | with_reducible assumption | ((with_reducible refine Ext.setCell ?_ ?_ _); rotate_left; focus (first | (simp; done) | (simp; omega))) | (with_reducible refine Ext.trans ?_ (Ext.alloc _ _)) | (with_reducible refine Ext.trans ?_ (Ext.drew _)) | (with_reducible refine Ext.trans ?_ (by with_reducible assumption))))

set_option maxRecDepth 100000 in
set_option maxHeartbeats 1000000 in
theorem isStep_any (k i o : Int) (pw pb ps : Option Addr) (nw cw nb cb ns cs : Nat) (rl : Bool) (w : World) (h1 : nw ≤ maxLen) (h2 : nb ≤ maxLen) (h3 : ns ≤ maxLen) :
    Calls Try.prog 182 #[.agg #[.int .i64 k, .int .i64 i, .int .i64 o, .slice pw nw cw, .slice pb nb cb, .slice ps ns cs, .bool rl]] w (RetB w (stpB k i o nw nb ns rl)) := by
  have C := hid (fun w' => ValidLayer_any k i o pw pb nw cw nb cb w' h1 h2)
  generalize hB : stpB k i o nw nb ns rl = B
  unfold stpB at hB
  unfold maxLen at h3
  generalize layB k i o nw nb = L at *
  cases L
  · rw [Bool.false_and] at hB
    subst hB
    go_enter Try.func182, Try.ntmps182
    go_wp2_with fail
    refine (layer_any k i o pw pb ps nw cw nb cb ns cs rl _).mono ?_
    rintro e w1 ⟨rfl, e1⟩
    go_wp2_with fail
    refine (C.out _).mono ?_
    rintro e w2 ⟨rfl, e2⟩
    go_wp2
    go_ret
    exact ⟨rfl, ((Ext.alloc _ _).trans e1).trans e2⟩
  rw [Bool.true_and] at hB
  by_cases hk : k = 0
  · subst hk
    rw [if_pos rfl] at hB
    rcases Nat.eq_zero_or_pos ns with hn | hn
    · subst hn
      have hB' : B = true := by rw [← hB]; rfl
      subst hB'
      clear hB h3
      go_enter Try.func182, Try.ntmps182
      go_wp2_with fail
      refine (layer_any 0 i o pw pb ps nw cw nb cb 0 cs rl _).mono ?_
      rintro e w1 ⟨rfl, e1⟩
      go_wp2_with fail
      refine (C.out _).mono ?_
      rintro e w2 ⟨rfl, e2⟩
      have z := (e1.trans e2).cellOf (b := w.heap.size) (by simp)
      go_wp2
      go_ret
      exact ⟨rfl, ((Ext.alloc _ _).trans e1).trans e2⟩
    · have D1 : decide (0 < (ns : Int)) = true := by simpa using hn
      have hn0 : ¬ ns = 0 := by omega
      by_cases ho : (ns : Int) = o
      · have E := beq_t ho
        simp only [hn0, ho, decide_true, decide_false, Bool.false_or, Bool.true_and] at hB
        clear ho
        cases rl
        all_goals
          simp only [Bool.not_true, Bool.not_false] at hB
          subst hB
          go_enter Try.func182, Try.ntmps182
          go_wp2_with fail
          refine (layer_any 0 i o pw pb ps nw cw nb cb ns cs _ _).mono ?_
          rintro e w1 ⟨rfl, e1⟩
          go_wp2_with fail
          refine (C.out _).mono ?_
          rintro e w2 ⟨rfl, e2⟩
          have z := (e1.trans e2).cellOf (b := w.heap.size) (by simp)
          go_wp2
          go_ret
          exact ⟨rfl, ((Ext.alloc _ _).trans e1).trans e2⟩
      · have E := beq_f ho
        simp only [hn0, ho, decide_false, Bool.false_or, Bool.false_and] at hB
        clear ho
        subst hB
        go_enter Try.func182, Try.ntmps182
        go_wp2_with fail
        refine (layer_any 0 i o pw pb ps nw cw nb cb ns cs rl _).mono ?_
        rintro e w1 ⟨rfl, e1⟩
        go_wp2_with fail
        refine (C.out _).mono ?_
        rintro e w2 ⟨rfl, e2⟩
        have z := (e1.trans e2).cellOf (b := w.heap.size) (by simp)
        go_wp2
        go_ret
        exact ⟨rfl, ((Ext.alloc _ _).trans e1).trans e2⟩
  · have F0 := bne_t hk
    rw [if_neg hk] at hB
    clear hk
    rcases Nat.eq_zero_or_pos ns with hn | hn
    · subst hn
      simp only [decide_true, Bool.true_and] at hB
      cases rl
      all_goals
        simp only [Bool.not_true, Bool.not_false] at hB
        subst hB
        go_enter Try.func182, Try.ntmps182
        go_wp2_with fail
        refine (layer_any k i o pw pb ps nw cw nb cb 0 cs _ _).mono ?_
        rintro e w1 ⟨rfl, e1⟩
        go_wp2_with fail
        refine (C.out _).mono ?_
        rintro e w2 ⟨rfl, e2⟩
        have z := (e1.trans e2).cellOf (b := w.heap.size) (by simp)
        go_wp2
        go_ret
        exact ⟨rfl, ((Ext.alloc _ _).trans e1).trans e2⟩
    · have D1 : decide (0 < (ns : Int)) = true := by simpa using hn
      have hn0 : ¬ ns = 0 := by omega
      simp only [hn0, decide_false, Bool.false_and] at hB
      subst hB
      go_enter Try.func182, Try.ntmps182
      go_wp2_with fail
      refine (layer_any k i o pw pb ps nw cw nb cb ns cs rl _).mono ?_
      rintro e w1 ⟨rfl, e1⟩
      go_wp2_with fail
      refine (C.out _).mono ?_
      rintro e w2 ⟨rfl, e2⟩
      have z := (e1.trans e2).cellOf (b := w.heap.size) (by simp)
      go_wp2
      go_ret
      exact ⟨rfl, ((Ext.alloc _ _).trans e1).trans e2⟩

set_option maxRecDepth 100000 in
set_option maxHeartbeats 1000000 in
theorem l09Layer_any {sp : Option Nat} (bl o' : Nat) (k i o : Int) (pw pb : Option Addr) (nw cw nb cb : Nat) (w : World)
    (f0 : w.cell? ⟨bl, o', sp⟩ = some (.int .i64 k)) (f1 : w.cell? ⟨bl, o' + 1, none⟩ = some (.int .i64 i)) (f2 : w.cell? ⟨bl, o' + 2, none⟩ = some (.int .i64 o))
    (f3 : w.cell? ⟨bl, o' + 3, none⟩ = some (.slice pw nw cw)) (f4 : w.cell? ⟨bl, o' + 4, none⟩ = some (.slice pb nb cb)) :
    Calls Try.prog 154 #[.pointer (some ⟨bl, o', sp⟩)] w fun e w' => e = .returned (.agg #[.int .i64 k, .int .i64 i, .int .i64 o, .slice pw nw cw, .slice pb nb cb]) ∧ Ext w w' := by
  go_enter Try.func154, Try.ntmps154
  go_wp2
  have x := ((Ext.alloc w (.cells #[.int .i64 0, .int .i64 0, .int .i64 0, .slice none 0 0, .slice none 0 0] 125)).trans (Ext.drew _))
  refine wp_region_xt 21 (F := fun _ _ _ => True) (by kernel_rfl) (by kernel_rfl) (by kernel_rfl) (by kernel_rfl) (by kernel_rfl) ?_
  intro wf hwf
  simp only [List.take_succ_cons, List.take_zero, List.drop_succ_cons, List.drop_zero]
  repeat (first
    | (refine x_skip rfl ?_; simp only [Act.put, ev_tmp, List.setIfInBounds_toArray, List.set_cons_succ, List.set_cons_zero, List.getD_cons_succ, List.getD_cons_zero])
    | (refine x_mv rfl rfl rfl ?_; simp only [Act.put, ev_tmp, List.setIfInBounds_toArray, List.set_cons_succ, List.set_cons_zero, List.getD_cons_succ, List.getD_cons_zero])
    | (refine x_as rfl rfl rfl ?_; simp only [Act.put, ev_tmp, List.setIfInBounds_toArray, List.set_cons_succ, List.set_cons_zero, List.getD_cons_succ, List.getD_cons_zero])
    | (refine x_run rfl fun K hK w1 hw1 => ?_; have k0 := hw1.cell (x.cell f0); have k1 := hw1.cell (x.cell f1); have k2 := hw1.cell (x.cell f2); have k3 := hw1.cell (x.cell f3); have k4 := hw1.cell (x.cell f4); go_simp; refine hK _ ?_; clear hK K k0 k1 k2 k3 k4 hw1 w1))
  refine x_nil ?_
  have z := hwf.cellOf (b := w.heap.size) (by simp)
  have y := hwf.size
  go_wp2
  refine bodyPost_ret (v := .agg #[.int .i64 k, .int .i64 i, .int .i64 o, .slice pw nw cw, .slice pb nb cb]) (by simp [results, Try.results154, go_sem, z, y]) rfl ?_
  refine ⟨rfl, ?_⟩
  have x2 := x.trans hwf
  clear x hwf
  (repeat (first | with_reducible exact Ext.refl _ | with_reducible assumption | ((with_reducible refine Ext.setCell ?_ ?_ _); rotate_left; focus (first | (simp; done) | (simp; omega))) | (with_reducible refine Ext.trans ?_ (Ext.alloc _ _)) | (with_reducible refine Ext.trans ?_ (Ext.drew _)) | (with_reducible refine Ext.trans ?_ (by with_reducible assumption))))
end Go.Proofs.Ytangnigplachdaa
