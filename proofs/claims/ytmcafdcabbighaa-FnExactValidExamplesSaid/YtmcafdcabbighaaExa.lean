/- Examples: which are valid. -/
import Derived.Test.YtmcafdcabbighaaTen
import Derived.Test.YtmcafdcabbighaaHExamples
namespace Go.Proofs.Ytmcafdcabbighaa
set_option linter.unusedSimpArgs false
set_option linter.unusedVariables false
open Go.RowKit

def exaB (r1 c1 : Int) (n1 : Nat) (r2 c2 : Int) (n2 : Nat) : Bool := tenB r1 c1 n1 && (tenB r2 c2 n2 && decide (r1 = r2))
set_option maxRecDepth 100000 in
set_option maxHeartbeats 1000000 in
theorem l07Data_any (bl o : Nat) (r1 c1 : Int) (p1 : Option Addr) (n1 q1 : Nat) (r2 c2 : Int) (p2 : Option Addr) (n2 q2 : Nat) (w : World)
    (f0 : w.cell? ⟨bl, o, none⟩ = some (.int .i64 r1)) (f1 : w.cell? ⟨bl, o + 1, none⟩ = some (.int .i64 c1)) (f2 : w.cell? ⟨bl, o + 2, none⟩ = some (.slice p1 n1 q1))
    (f3 : w.cell? ⟨bl, o + 3, none⟩ = some (.int .i64 r2)) (f4 : w.cell? ⟨bl, o + 4, none⟩ = some (.int .i64 c2)) (f5 : w.cell? ⟨bl, o + 5, none⟩ = some (.slice p2 n2 q2)) (h1 : n1 ≤ maxLen) (h2 : n2 ≤ maxLen) :
    Calls Try.prog 81 #[.pointer (some ⟨bl, o, none⟩)] w (RetB w (exaB r1 c1 n1 r2 c2 n2)) := by
  have d0 := (Ext.drew w).cell f0
  have d1 := (Ext.drew w).cell f1
  have d2 := (Ext.drew w).cell f2
  have d3 := (Ext.drew w).cell f3
  have d4 := (Ext.drew w).cell f4
  have d5 := (Ext.drew w).cell f5
  clear f0 f1 f2 f3 f4 f5
  unfold exaB
  have C1 := fun w1 (hw1 : Ext w.drew w1) => calls_retB (l02Is_any bl o r1 c1 p1 n1 q1 w1 (hw1.cell d0) (hw1.cell d1) (hw1.cell d2) h1)
  have C2 := fun w1 (hw1 : Ext w.drew w1) => calls_retB (l02Is_any bl (o + 3) r2 c2 p2 n2 q2 w1 (hw1.cell d3) (hw1.cell d4) (hw1.cell d5) h2)
  generalize tenB r1 c1 n1 = b1 at *
  generalize tenB r2 c2 n2 = b2 at *
  obtain ⟨F, hF⟩ : ∃ F : Option Tmp → World → Value → Prop, F = fun d _ u => u = .bool (match d with | some 6 => b1 | _ => b2) := ⟨_, rfl⟩
  have K1 := hid C1
  have K2 := hid C2
  have HF := hid hF
  clear C1 C2 hF
  cases b1 <;> cases b2
  all_goals
    go_enter Try.func81, Try.ntmps81
    go_wp2
    refine wp_region_xall (F := F) (by kernel_rfl) (by kernel_rfl) (by kernel_rfl) ?_
    intro wf hwf
    repeat (first
      | (refine x_skip rfl ?_; simp only [Act.put, ev_tmp, List.setIfInBounds_toArray, List.set_cons_succ, List.set_cons_zero, List.getD_cons_succ, List.getD_cons_zero])
      | (refine x_mv rfl rfl rfl ?_; simp only [Act.put, ev_tmp, List.setIfInBounds_toArray, List.set_cons_succ, List.set_cons_zero, List.getD_cons_succ, List.getD_cons_zero])
      | (refine x_callf (f := 104) (args := #[.pointer (some ⟨bl, o, none⟩)]) rfl rfl Try.func104 rfl (by kernel_rfl) ?_ ?_ ?_; (focus (simp [Act.eval]; done)); (focus (intro w1 hw1; exact (by rw [HF.out]; exact K1.out w1 hw1))); rintro u w3 e3 e4 hu; simp only [HF.out] at hu; subst hu; simp only [Act.put, ev_tmp, List.setIfInBounds_toArray, List.set_cons_succ, List.set_cons_zero, List.getD_cons_succ, List.getD_cons_zero])
      | (refine x_callf (f := 104) (args := #[.pointer (some ⟨bl, o + 3, none⟩)]) rfl rfl Try.func104 rfl (by kernel_rfl) ?_ ?_ ?_; (focus (simp [Act.eval]; done)); (focus (intro w1 hw1; exact (by rw [HF.out]; exact K2.out w1 hw1))); rintro u w3 e3 e4 hu; simp only [HF.out] at hu; subst hu; simp only [Act.put, ev_tmp, List.setIfInBounds_toArray, List.set_cons_succ, List.set_cons_zero, List.getD_cons_succ, List.getD_cons_zero])
      | (refine x_run rfl fun K hK w1 hw1 => ?_; have k0 := hw1.cell (d0); have k1 := hw1.cell (d1); have k2 := hw1.cell (d2); have k3 := hw1.cell (d3); have k4 := hw1.cell (d4); have k5 := hw1.cell (d5); go_simp; refine hK _ ?_; clear hK K k0 k1 k2 k3 k4 k5 hw1 w1))
    refine x_nil ?_
    go_wp2
    go_ret
    exact ⟨rfl, (Ext.drew w).trans hwf⟩

set_option maxRecDepth 100000 in
set_option maxHeartbeats 1000000 in
theorem specValidExamples_any (r1 c1 : Int) (p1 : Option Addr) (n1 q1 : Nat) (r2 c2 : Int) (p2 : Option Addr) (n2 q2 : Nat) (w : World) (h1 : n1 ≤ maxLen) (h2 : n2 ≤ maxLen) :
    Calls Try.prog 38 #[.agg #[.int .i64 r1, .int .i64 c1, .slice p1 n1 q1, .int .i64 r2, .int .i64 c2, .slice p2 n2 q2]] w (RetB w (exaB r1 c1 n1 r2 c2 n2)) := by
  generalize hE : exaB r1 c1 n1 r2 c2 n2 = E
  have HE := hid hE
  clear hE
  go_enter Try.func38, Try.ntmps38
  go_wp2_with fail
  refine (l07Data_any _ _ r1 c1 p1 n1 q1 r2 c2 p2 n2 q2 _ (by simp) (by simp) (by simp) (by simp) (by simp) (by simp) h1 h2).mono ?_
  rintro e w1 ⟨rfl, e1⟩
  rw [HE.out]
  go_wp2
  go_ret
  exact ⟨rfl, (Ext.alloc _ _).trans e1⟩

set_option maxRecDepth 100000 in
set_option maxHeartbeats 1000000 in
theorem ValidExamples_any (r1 c1 : Int) (p1 : Option Addr) (n1 q1 : Nat) (r2 c2 : Int) (p2 : Option Addr) (n2 q2 : Nat) (w : World) (h1 : n1 ≤ maxLen) (h2 : n2 ≤ maxLen) :
    Calls Try.prog 40 #[.agg #[.int .i64 r1, .int .i64 c1, .slice p1 n1 q1, .int .i64 r2, .int .i64 c2, .slice p2 n2 q2]] w (RetB w (exaB r1 c1 n1 r2 c2 n2)) := by
  unfold exaB
  have C1 := fun w1 => ValidTensor_any r1 c1 p1 n1 q1 w1 h1
  have C2 := fun w1 => ValidTensor_any r2 c2 p2 n2 q2 w1 h2
  generalize tenB r1 c1 n1 = b1 at *
  generalize tenB r2 c2 n2 = b2 at *
  have K1 := hid C1
  have K2 := hid C2
  clear C1 C2
  cases b1 <;> cases b2
  all_goals
    go_enter Try.func40, Try.ntmps40
    go_wp2_with fail
    refine (K1.out _).mono ?_
    rintro e w1 ⟨rfl, e1⟩
    have x1 := e1.cellOf (b := w.heap.size) (by simp)
    first
    | (go_wp2_with fail
       refine (K2.out _).mono ?_
       rintro e w2 ⟨rfl, e2⟩
       have x2 := e2.cellOf (b := w.heap.size) (by have := e1.size; simp at this; omega)
       go_wp2
       go_ret
       exact ⟨rfl, ((Ext.alloc _ _).trans e1).trans e2⟩)
    | (go_wp2
       go_ret
       exact ⟨rfl, (Ext.alloc _ _).trans e1⟩)
end Go.Proofs.Ytmcafdcabbighaa
