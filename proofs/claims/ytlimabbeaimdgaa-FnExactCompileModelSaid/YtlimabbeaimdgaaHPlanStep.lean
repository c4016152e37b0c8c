/- The harness on structs: PlanStep. -/
import Derived.Test.YtlimabbeaimdgaaKb
import Derived.Test.YtlimabbeaimdgaaKa
namespace Go.Proofs.Ytlimabbeaimdgaa
set_option linter.unusedSimpArgs false
set_option linter.unusedVariables false
open Go.RowKit

abbrev shPlanStep : Sh := .pr .int (.pr .int (.pr .int (.pr (.sl .flt) (.pr (.sl .flt) (.pr (.sl .flt) (.pr .bool (.un)))))))
theorem fo_implPlanStep_0 (q : Addr) (w : World) : (Instr.fieldAt 117 (.pointer (some q)) 0).run Try.prog w = .ok (.pointer (some (q.add 0))) w := by go_simp
theorem fo_implPlanStep_1 (q : Addr) (w : World) : (Instr.fieldAt 117 (.pointer (some q)) 1).run Try.prog w = .ok (.pointer (some (q.add 1))) w := by go_simp
theorem fo_implPlanStep_2 (q : Addr) (w : World) : (Instr.fieldAt 117 (.pointer (some q)) 2).run Try.prog w = .ok (.pointer (some (q.add 2))) w := by go_simp
theorem fo_implPlanStep_3 (q : Addr) (w : World) : (Instr.fieldAt 117 (.pointer (some q)) 3).run Try.prog w = .ok (.pointer (some (q.add 3))) w := by go_simp
theorem fo_implPlanStep_4 (q : Addr) (w : World) : (Instr.fieldAt 117 (.pointer (some q)) 4).run Try.prog w = .ok (.pointer (some (q.add 4))) w := by go_simp
theorem fo_implPlanStep_5 (q : Addr) (w : World) : (Instr.fieldAt 117 (.pointer (some q)) 5).run Try.prog w = .ok (.pointer (some (q.add 5))) w := by go_simp
theorem fo_implPlanStep_6 (q : Addr) (w : World) : (Instr.fieldAt 117 (.pointer (some q)) 6).run Try.prog w = .ok (.pointer (some (q.add 6))) w := by go_simp
instance elStPlanStepimpl : ElTy Try.prog 117 shPlanStep := ⟨by kernel_rfl, by kernel_rfl⟩
set_option maxRecDepth 100000 in
set_option maxHeartbeats 1000000 in
theorem eqPlanStep_ok : EqOk 132 shPlanStep := by
  intro cs cs' d w hu hv hn
  obtain ⟨a1, a2, a3, a4, a5, a6, a7, au⟩ := d
  obtain ⟨_, _, rfl, rfl, _, _, rfl, rfl, _, _, rfl, rfl, _, _, rfl, ha4, _, _, rfl, ha5, _, _, rfl, ha6, _, _, rfl, rfl, rfl⟩ := hu
  obtain ⟨pa4, ca4, rfl, hla4⟩ := rep_val ha4
  obtain ⟨pa5, ca5, rfl, hla5⟩ := rep_val ha5
  obtain ⟨pa6, ca6, rfl, hla6⟩ := rep_val ha6
  obtain ⟨_, _, rfl, rfl, _, _, rfl, rfl, _, _, rfl, rfl, _, _, rfl, hqa4, _, _, rfl, hqa5, _, _, rfl, hqa6, _, _, rfl, rfl, rfl⟩ := hv
  obtain ⟨pqa4, cqa4, rfl, hlqa4⟩ := rep_val hqa4
  obtain ⟨pqa5, cqa5, rfl, hlqa5⟩ := rep_val hqa5
  obtain ⟨pqa6, cqa6, rfl, hlqa6⟩ := rep_val hqa6
  have hba4 : tot (.sl .flt) a4 ≤ 1048576 := by simp only [tot] at hn ⊢; omega
  have hba5 : tot (.sl .flt) a5 ≤ 1048576 := by simp only [tot] at hn ⊢; omega
  have hba6 : tot (.sl .flt) a6 ≤ 1048576 := by simp only [tot] at hn ⊢; omega
  simp only [ofCs, Sh.agg, List.cons_append, List.nil_append, if_true]
  go_enter Try.func132, Try.ntmps132
  go_wp2_with fail
  refine (eqFloat32S_ok [.slice pa4 (List.length a4) ca4] [.slice pqa4 (List.length a4) cqa4] a4 _ (Rep.ext (w := w) ?_ (ha4 : Rep w (.sl .flt) [.slice pa4 (List.length a4) ca4] a4)) (Rep.ext (w := w) ?_ (hqa4 : Rep w (.sl .flt) [.slice pqa4 (List.length a4) cqa4] a4)) hba4).mono ?_
  · (repeat (first | with_reducible exact Ext.refl _ | with_reducible assumption | ((with_reducible refine Ext.setCell ?_ ?_ _); rotate_left; focus (first | (simp; done) | (simp; omega))) | (with_reducible refine Ext.trans ?_ (Ext.alloc _ _)) | (with_reducible refine Ext.trans ?_ (Ext.drew _)) | (with_reducible refine Ext.trans ?_ (by with_reducible assumption))))
  · (repeat (first | with_reducible exact Ext.refl _ | with_reducible assumption | ((with_reducible refine Ext.setCell ?_ ?_ _); rotate_left; focus (first | (simp; done) | (simp; omega))) | (with_reducible refine Ext.trans ?_ (Ext.alloc _ _)) | (with_reducible refine Ext.trans ?_ (Ext.drew _)) | (with_reducible refine Ext.trans ?_ (by with_reducible assumption))))
  rintro e w1 ⟨rfl, e1⟩
  have x1_0 := e1.cellOf (b := w.heap.size) (by first | (simp; done) | (simp; omega))
  have x1_1 := e1.cellOf (b := w.heap.size + 1) (by first | (simp; done) | (simp; omega))
  have y1 := e1.size
  go_wp2_with fail
  refine (eqFloat32S_ok [.slice pa5 (List.length a5) ca5] [.slice pqa5 (List.length a5) cqa5] a5 _ (Rep.ext (w := w) ?_ (ha5 : Rep w (.sl .flt) [.slice pa5 (List.length a5) ca5] a5)) (Rep.ext (w := w) ?_ (hqa5 : Rep w (.sl .flt) [.slice pqa5 (List.length a5) cqa5] a5)) hba5).mono ?_
  · (repeat (first | with_reducible exact Ext.refl _ | with_reducible assumption | ((with_reducible refine Ext.setCell ?_ ?_ _); rotate_left; focus (first | (simp; done) | (simp; omega))) | (with_reducible refine Ext.trans ?_ (Ext.alloc _ _)) | (with_reducible refine Ext.trans ?_ (Ext.drew _)) | (with_reducible refine Ext.trans ?_ (by with_reducible assumption))))
  · (repeat (first | with_reducible exact Ext.refl _ | with_reducible assumption | ((with_reducible refine Ext.setCell ?_ ?_ _); rotate_left; focus (first | (simp; done) | (simp; omega))) | (with_reducible refine Ext.trans ?_ (Ext.alloc _ _)) | (with_reducible refine Ext.trans ?_ (Ext.drew _)) | (with_reducible refine Ext.trans ?_ (by with_reducible assumption))))
  rintro e w2 ⟨rfl, e2⟩
  have x2_0 := e2.cellOf (b := w.heap.size) (by first | (simp; done) | (simp; omega) | (simp at y1 ⊢; omega) | (simp at y1; omega) | (simp at y1 ⊢; omega) | (simp at y1; omega))
  have x2_1 := e2.cellOf (b := w.heap.size + 1) (by first | (simp; done) | (simp; omega) | (simp at y1 ⊢; omega) | (simp at y1; omega) | (simp at y1 ⊢; omega) | (simp at y1; omega))
  have y2 := e2.size
  go_wp2_with fail
  refine (eqFloat32S_ok [.slice pa6 (List.length a6) ca6] [.slice pqa6 (List.length a6) cqa6] a6 _ (Rep.ext (w := w) ?_ (ha6 : Rep w (.sl .flt) [.slice pa6 (List.length a6) ca6] a6)) (Rep.ext (w := w) ?_ (hqa6 : Rep w (.sl .flt) [.slice pqa6 (List.length a6) cqa6] a6)) hba6).mono ?_
  · (repeat (first | with_reducible exact Ext.refl _ | with_reducible assumption | ((with_reducible refine Ext.setCell ?_ ?_ _); rotate_left; focus (first | (simp; done) | (simp; omega))) | (with_reducible refine Ext.trans ?_ (Ext.alloc _ _)) | (with_reducible refine Ext.trans ?_ (Ext.drew _)) | (with_reducible refine Ext.trans ?_ (by with_reducible assumption))))
  · (repeat (first | with_reducible exact Ext.refl _ | with_reducible assumption | ((with_reducible refine Ext.setCell ?_ ?_ _); rotate_left; focus (first | (simp; done) | (simp; omega))) | (with_reducible refine Ext.trans ?_ (Ext.alloc _ _)) | (with_reducible refine Ext.trans ?_ (Ext.drew _)) | (with_reducible refine Ext.trans ?_ (by with_reducible assumption))))
  rintro e w3 ⟨rfl, e3⟩
  have x3_0 := e3.cellOf (b := w.heap.size) (by first | (simp; done) | (simp; omega) | (simp at y1 ⊢; omega) | (simp at y1; omega) | (simp at y1 y2 ⊢; omega) | (simp at y1 y2; omega))
  have x3_1 := e3.cellOf (b := w.heap.size + 1) (by first | (simp; done) | (simp; omega) | (simp at y1 ⊢; omega) | (simp at y1; omega) | (simp at y1 y2 ⊢; omega) | (simp at y1 y2; omega))
  have y3 := e3.size
  go_wp2
  go_ret
  refine ⟨rfl, ?_⟩
  (repeat (first | with_reducible exact Ext.refl _ | with_reducible assumption | ((with_reducible refine Ext.setCell ?_ ?_ _); rotate_left; focus (first | (simp; done) | (simp; omega))) | (with_reducible refine Ext.trans ?_ (Ext.alloc _ _)) | (with_reducible refine Ext.trans ?_ (Ext.drew _)) | (with_reducible refine Ext.trans ?_ (by with_reducible assumption))))




end Go.Proofs.Ytlimabbeaimdgaa
