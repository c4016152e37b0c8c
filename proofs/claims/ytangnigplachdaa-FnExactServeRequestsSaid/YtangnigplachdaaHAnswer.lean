/- The harness on structs: Answer. -/
import Derived.Test.YtangnigplachdaaKb
import Derived.Test.YtangnigplachdaaKa
namespace Go.Proofs.Ytangnigplachdaa
set_option linter.unusedSimpArgs false
set_option linter.unusedVariables false
open Go.RowKit

abbrev shAnswer : Sh := .pr .int (.pr .int (.pr (.sl .flt) (.un)))
theorem fo_implAnswer_0 (q : Addr) (w : World) : (Instr.fieldAt 167 (.pointer (some q)) 0).run Try.prog w = .ok (.pointer (some (q.add 0))) w := by go_simp
theorem fo_implAnswer_1 (q : Addr) (w : World) : (Instr.fieldAt 167 (.pointer (some q)) 1).run Try.prog w = .ok (.pointer (some (q.add 1))) w := by go_simp
theorem fo_implAnswer_2 (q : Addr) (w : World) : (Instr.fieldAt 167 (.pointer (some q)) 2).run Try.prog w = .ok (.pointer (some (q.add 2))) w := by go_simp
instance elStAnswerimpl : ElTy Try.prog 167 shAnswer := ⟨by kernel_rfl, by kernel_rfl⟩
set_option maxRecDepth 100000 in
set_option maxHeartbeats 1000000 in
theorem eqAnswer_ok : EqOk 122 shAnswer := by
  intro cs cs' d w hu hv hn
  obtain ⟨a1, a2, a3, au⟩ := d
  obtain ⟨_, _, rfl, rfl, _, _, rfl, rfl, _, _, rfl, ha3, rfl⟩ := hu
  obtain ⟨pa3, ca3, rfl, hla3⟩ := rep_val ha3
  obtain ⟨_, _, rfl, rfl, _, _, rfl, rfl, _, _, rfl, hqa3, rfl⟩ := hv
  obtain ⟨pqa3, cqa3, rfl, hlqa3⟩ := rep_val hqa3
  have hba3 : tot (.sl .flt) a3 ≤ 1048576 := by simp only [tot] at hn ⊢; omega
  simp only [ofCs, Sh.agg, List.cons_append, List.nil_append, if_true]
  go_enter Try.func122, Try.ntmps122
  go_wp2_with fail
  refine (eqFloat32S_ok [.slice pa3 (List.length a3) ca3] [.slice pqa3 (List.length a3) cqa3] a3 _ (Rep.ext (w := w) ?_ (ha3 : Rep w (.sl .flt) [.slice pa3 (List.length a3) ca3] a3)) (Rep.ext (w := w) ?_ (hqa3 : Rep w (.sl .flt) [.slice pqa3 (List.length a3) cqa3] a3)) hba3).mono ?_
  · (repeat (first | with_reducible exact Ext.refl _ | with_reducible assumption | ((with_reducible refine Ext.setCell ?_ ?_ _); rotate_left; focus (first | (simp; done) | (simp; omega))) | (with_reducible refine Ext.trans ?_ (Ext.alloc _ _)) | (with_reducible refine Ext.trans ?_ (Ext.drew _)) | (with_reducible refine Ext.trans ?_ (by with_reducible assumption))))
  · (repeat (first | with_reducible exact Ext.refl _ | with_reducible assumption | ((with_reducible refine Ext.setCell ?_ ?_ _); rotate_left; focus (first | (simp; done) | (simp; omega))) | (with_reducible refine Ext.trans ?_ (Ext.alloc _ _)) | (with_reducible refine Ext.trans ?_ (Ext.drew _)) | (with_reducible refine Ext.trans ?_ (by with_reducible assumption))))
  rintro e w1 ⟨rfl, e1⟩
  have x1_0 := e1.cellOf (b := w.heap.size) (by first | (simp; done) | (simp; omega))
  have x1_1 := e1.cellOf (b := w.heap.size + 1) (by first | (simp; done) | (simp; omega))
  have y1 := e1.size
  go_wp2
  go_ret
  refine ⟨rfl, ?_⟩
  (repeat (first | with_reducible exact Ext.refl _ | with_reducible assumption | ((with_reducible refine Ext.setCell ?_ ?_ _); rotate_left; focus (first | (simp; done) | (simp; omega))) | (with_reducible refine Ext.trans ?_ (Ext.alloc _ _)) | (with_reducible refine Ext.trans ?_ (Ext.drew _)) | (with_reducible refine Ext.trans ?_ (by with_reducible assumption))))




end Go.Proofs.Ytangnigplachdaa
