/- The harness on structs: Plan. -/
import Derived.Test.YtlimabbeaimdgaaKb
import Derived.Test.YtlimabbeaimdgaaKa
import Derived.Test.YtlimabbeaimdgaaHPlanStepS
namespace Go.Proofs.Ytlimabbeaimdgaa
set_option linter.unusedSimpArgs false
set_option linter.unusedVariables false
open Go.RowKit

abbrev shPlan : Sh := .pr shPlanStepS (.un)
theorem fo_implPlan_0 (q : Addr) (w : World) : (Instr.fieldAt 28 (.pointer (some q)) 0).run Try.prog w = .ok (.pointer (some (q.add 0))) w := by go_simp
instance elStPlanimpl : ElTy Try.prog 28 shPlan := ⟨by kernel_rfl, by kernel_rfl⟩
set_option maxRecDepth 100000 in
set_option maxHeartbeats 1000000 in
theorem eqPlan_ok : EqOk 16 shPlan := by
  intro cs cs' d w hu hv hn
  obtain ⟨a1, au⟩ := d
  obtain ⟨_, _, rfl, ha1, rfl⟩ := hu
  obtain ⟨pa1, ca1, rfl, hla1⟩ := rep_val ha1
  obtain ⟨_, _, rfl, hqa1, rfl⟩ := hv
  obtain ⟨pqa1, cqa1, rfl, hlqa1⟩ := rep_val hqa1
  have hba1 : tot shPlanStepS a1 ≤ 1048576 := by simp only [tot] at hn ⊢; omega
  simp only [ofCs, Sh.agg, List.cons_append, List.nil_append, if_true]
  go_enter Try.func16, Try.ntmps16
  go_wp2_with fail
  refine (eqPlanStepS_ok [.slice pa1 (List.length a1) ca1] [.slice pqa1 (List.length a1) cqa1] a1 _ (Rep.ext (w := w) ?_ (ha1 : Rep w shPlanStepS [.slice pa1 (List.length a1) ca1] a1)) (Rep.ext (w := w) ?_ (hqa1 : Rep w shPlanStepS [.slice pqa1 (List.length a1) cqa1] a1)) hba1).mono ?_
  · (repeat (first | with_reducible exact Ext.refl _ | with_reducible assumption | ((with_reducible refine Ext.setCell ?_ ?_ _); rotate_left; focus (first | (simp; done) | (simp; omega))) | (with_reducible refine Ext.trans ?_ (Ext.alloc _ _)) | (with_reducible refine Ext.trans ?_ (Ext.drew _)) | (with_reducible refine Ext.trans ?_ (by with_reducible assumption))))
  · (repeat (first | with_reducible exact Ext.refl _ | with_reducible assumption | ((with_reducible refine Ext.setCell ?_ ?_ _); rotate_left; focus (first | (simp; done) | (simp; omega))) | (with_reducible refine Ext.trans ?_ (Ext.alloc _ _)) | (with_reducible refine Ext.trans ?_ (Ext.drew _)) | (with_reducible refine Ext.trans ?_ (by with_reducible assumption))))
  rintro e w1 ⟨rfl, e1⟩
  have x1_0 := e1.cellOf (b := w.heap.size) (by first | (simp; done) | (simp; omega))
  have x1_1 := e1.cellOf (b := w.heap.size + 1) (by first | (simp; done) | (simp; omega))
  have y1 := e1.size
  go_wp2
  go_ret
  refine ⟨rfl, ?_⟩
  (repeat (first | with_reducible exact Ext.refl _ | with_reducible assumption | ((with_reducible refine Ext.setCell ?_ ?_ _); rotate_left; focus (first | (simp; done) | (simp; omega))) | (with_reducible refine Ext.trans ?_ (Ext.alloc _ _)) | (with_reducible refine Ext.trans ?_ (Ext.drew _)) | (with_reducible refine Ext.trans ?_ (by with_reducible assumption))))



set_option maxRecDepth 100000 in
set_option maxHeartbeats 1000000 in
theorem markPlan_ok : MarkOk 19 shPlan := by
  intro cs d bs k w hu hnd hk0 hk
  obtain ⟨a1, au⟩ := d
  obtain ⟨_, _, ba1, _, rfl, owa1, ⟨rfl, rfl⟩, rfl⟩ := hu
  obtain ⟨pa1, ca1, rfl, hla1⟩ := rep_val owa1.rep
  simp only [List.nil_append, List.append_nil] at hnd
  simp only [ofCs, Sh.agg, List.cons_append, List.nil_append, if_true]
  have htot : tot shPlan (a1, au) = tot shPlanStepS a1 := by simp only [tot]; omega
  rw [htot] at hk
  clear htot
  have B1 := mkV_bd shPlanStepS (by decide) a1 k
  have nd1 := hnd
  have lt1 := owa1.lt
  go_enter Try.func19, Try.ntmps19
  go_wp2_with fail
  refine (markPlanStepS_ok [.slice pa1 (List.length a1) ca1] a1 ba1 k _ (Own.ext (w := w) owa1 ?_) nd1 (by omega) (by omega)).mono ?_
  · (repeat (first | with_reducible exact Ext.refl _ | with_reducible assumption | ((with_reducible refine Ext.setCell ?_ ?_ _); rotate_left; focus (first | (simp; done) | (simp; omega))) | (with_reducible refine Ext.trans ?_ (Ext.alloc _ _)) | (with_reducible refine Ext.trans ?_ (Ext.drew _)) | (with_reducible refine Ext.trans ?_ (by with_reducible assumption))))
  rintro e w1 ⟨rfl, owa1_1, ch1⟩
  have x1_0 := ch1.cellOf (b := w.heap.size) (by first | (simp; done) | (simp; omega)) (fun h => by have := lt1 _ h; omega)
  have y1 := ch1.size
  have E0 := (fun W0 (_ : Chg (fun b => b ∈ ba1) W0 w1) (h : Ext w W0) => h) _ ch1 (by (repeat (first | with_reducible exact Ext.refl _ | with_reducible assumption | ((with_reducible refine Ext.setCell ?_ ?_ _); rotate_left; focus (first | (simp; done) | (simp; omega))) | (with_reducible refine Ext.trans ?_ (Ext.alloc _ _)) | (with_reducible refine Ext.trans ?_ (Ext.drew _)) | (with_reducible refine Ext.trans ?_ (by with_reducible assumption)))))
  go_wp2
  go_ret
  exact ⟨rfl, ⟨[.slice pa1 (List.length a1) ca1], [], ba1, [], rfl, owa1_1, ⟨rfl, rfl⟩, rfl⟩, (Chg.of_ext E0).trans (ch1.mono fun b hb => by simp [hb])⟩

set_option maxRecDepth 100000 in
set_option maxHeartbeats 1000000 in
theorem heldPlan_ok : HeldOk 20 shPlan := by
  intro cs d k w hu hk0 hk
  obtain ⟨a1, au⟩ := d
  have hu0 : Rep w shPlan cs ((mkV shPlanStepS a1 k).1, au) := hu
  clear hu
  obtain ⟨_, _, rfl, ha1, rfl⟩ := hu0
  obtain ⟨pza1, cza1, rfl, hlza1⟩ := rep_val ha1
  simp only [ofCs, Sh.agg, List.cons_append, List.nil_append, if_true]
  have htot : tot shPlan (a1, au) = tot shPlanStepS a1 := by simp only [tot]; omega
  rw [htot] at hk
  clear htot
  have B1 := mkV_bd shPlanStepS (by decide) a1 k
  have hz1 : 0 ≤ (mkV shPlanStepS a1 k).2 := by omega
  go_enter Try.func20, Try.ntmps20
  go_wp2_with fail
  refine (heldPlanStepS_ok [.slice pza1 (List.length (mkV shPlanStepS a1 k).1) cza1] a1 k _ (Rep.ext (w := w) ?_ ha1) (by omega) (by omega)).mono ?_
  · (repeat (first | with_reducible exact Ext.refl _ | with_reducible assumption | ((with_reducible refine Ext.setCell ?_ ?_ _); rotate_left; focus (first | (simp; done) | (simp; omega))) | (with_reducible refine Ext.trans ?_ (Ext.alloc _ _)) | (with_reducible refine Ext.trans ?_ (Ext.drew _)) | (with_reducible refine Ext.trans ?_ (by with_reducible assumption))))
  rintro e w1 ⟨rfl, e1⟩
  have x1_0 := e1.cellOf (b := w.heap.size) (by first | (simp; done) | (simp; omega))
  have y1 := e1.size
  go_wp2
  go_ret
  refine ⟨rfl, ?_⟩
  (repeat (first | with_reducible exact Ext.refl _ | with_reducible assumption | ((with_reducible refine Ext.setCell ?_ ?_ _); rotate_left; focus (first | (simp; done) | (simp; omega))) | (with_reducible refine Ext.trans ?_ (Ext.alloc _ _)) | (with_reducible refine Ext.trans ?_ (Ext.drew _)) | (with_reducible refine Ext.trans ?_ (by with_reducible assumption))))
end Go.Proofs.Ytlimabbeaimdgaa
