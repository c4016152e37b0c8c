/- The harness on structs: Lab. -/
import Derived.Test.YtbdcjhhphkckcaaKb
import Derived.Test.YtbdcjhhphkckcaaKa
import Derived.Test.YtbdcjhhphkckcaaHOptimizer
namespace Go.Proofs.Ytbdcjhhphkckcaa
set_option linter.unusedSimpArgs false
set_option linter.unusedVariables false
open Go.RowKit

abbrev shLab : Sh := .pr shOptimizer (.pr shExamples (.pr shTrainState (.un)))
theorem fo_implLab_0 (q : Addr) (w : World) : (Instr.fieldAt 50 (.pointer (some q)) 0).run Try.prog w = .ok (.pointer (some (q.add 0))) w := by go_simp
theorem fo_implLab_1 (q : Addr) (w : World) : (Instr.fieldAt 50 (.pointer (some q)) 1).run Try.prog w = .ok (.pointer (some (q.add 5))) w := by go_simp
theorem fo_implLab_2 (q : Addr) (w : World) : (Instr.fieldAt 50 (.pointer (some q)) 2).run Try.prog w = .ok (.pointer (some (q.add 11))) w := by go_simp
instance elStLabimpl : ElTy Try.prog 50 shLab := ⟨by kernel_rfl, by kernel_rfl⟩
theorem fo_lawsLab_0 (q : Addr) (w : World) : (Instr.fieldAt 37 (.pointer (some q)) 0).run Try.prog w = .ok (.pointer (some (q.add 0))) w := by go_simp
theorem fo_lawsLab_1 (q : Addr) (w : World) : (Instr.fieldAt 37 (.pointer (some q)) 1).run Try.prog w = .ok (.pointer (some (q.add 5))) w := by go_simp
theorem fo_lawsLab_2 (q : Addr) (w : World) : (Instr.fieldAt 37 (.pointer (some q)) 2).run Try.prog w = .ok (.pointer (some (q.add 11))) w := by go_simp
instance elStLablaws : ElTy Try.prog 37 shLab := ⟨by kernel_rfl, by kernel_rfl⟩

set_option maxRecDepth 100000 in
set_option maxHeartbeats 1000000 in
theorem eqLab_ok : EqOk 14 shLab := by
  intro cs cs' d w hu hv hn
  obtain ⟨⟨a1_1, a1_2, a1_3, a1_4, a1_5, a1_u⟩, ⟨⟨a2_1_1, a2_1_2, a2_1_3, a2_1_u⟩, ⟨a2_2_1, a2_2_2, a2_2_3, a2_2_u⟩, a2_u⟩, ⟨⟨a3_1_1, a3_1_u⟩, a3_2, a3_3, a3_4, a3_5, a3_u⟩, au⟩ := d
  obtain ⟨_, _, rfl, ⟨_, _, rfl, rfl, _, _, rfl, ⟨xa1_2, rfl, ha1_2⟩, _, _, rfl, ⟨xa1_3, rfl, ha1_3⟩, _, _, rfl, ⟨xa1_4, rfl, ha1_4⟩, _, _, rfl, ⟨xa1_5, rfl, ha1_5⟩, rfl⟩, _, _, rfl, ⟨_, _, rfl, ⟨_, _, rfl, rfl, _, _, rfl, rfl, _, _, rfl, ha2_1_3, rfl⟩, _, _, rfl, ⟨_, _, rfl, rfl, _, _, rfl, rfl, _, _, rfl, ha2_2_3, rfl⟩, rfl⟩, _, _, rfl, ⟨_, _, rfl, ⟨_, _, rfl, ha3_1_1, rfl⟩, _, _, rfl, ha3_2, _, _, rfl, rfl, _, _, rfl, rfl, _, _, rfl, ⟨xa3_5, rfl, ha3_5⟩, rfl⟩, rfl⟩ := hu
  obtain ⟨pa2_1_3, ca2_1_3, rfl, hla2_1_3⟩ := rep_val ha2_1_3
  obtain ⟨pa2_2_3, ca2_2_3, rfl, hla2_2_3⟩ := rep_val ha2_2_3
  obtain ⟨pa3_1_1, ca3_1_1, rfl, hla3_1_1⟩ := rep_val ha3_1_1
  obtain ⟨pa3_2, ca3_2, rfl, hla3_2⟩ := rep_val ha3_2
  obtain ⟨_, _, rfl, ⟨_, _, rfl, rfl, _, _, rfl, ⟨xqa1_2, rfl, hqa1_2⟩, _, _, rfl, ⟨xqa1_3, rfl, hqa1_3⟩, _, _, rfl, ⟨xqa1_4, rfl, hqa1_4⟩, _, _, rfl, ⟨xqa1_5, rfl, hqa1_5⟩, rfl⟩, _, _, rfl, ⟨_, _, rfl, ⟨_, _, rfl, rfl, _, _, rfl, rfl, _, _, rfl, hqa2_1_3, rfl⟩, _, _, rfl, ⟨_, _, rfl, rfl, _, _, rfl, rfl, _, _, rfl, hqa2_2_3, rfl⟩, rfl⟩, _, _, rfl, ⟨_, _, rfl, ⟨_, _, rfl, hqa3_1_1, rfl⟩, _, _, rfl, hqa3_2, _, _, rfl, rfl, _, _, rfl, rfl, _, _, rfl, ⟨xqa3_5, rfl, hqa3_5⟩, rfl⟩, rfl⟩ := hv
  obtain ⟨pqa2_1_3, cqa2_1_3, rfl, hlqa2_1_3⟩ := rep_val hqa2_1_3
  obtain ⟨pqa2_2_3, cqa2_2_3, rfl, hlqa2_2_3⟩ := rep_val hqa2_2_3
  obtain ⟨pqa3_1_1, cqa3_1_1, rfl, hlqa3_1_1⟩ := rep_val hqa3_1_1
  obtain ⟨pqa3_2, cqa3_2, rfl, hlqa3_2⟩ := rep_val hqa3_2
  have hba1 : tot shOptimizer (a1_1, a1_2, a1_3, a1_4, a1_5, a1_u) ≤ 1048576 := by simp only [tot] at hn ⊢; omega
  have hba2 : tot shExamples ((a2_1_1, a2_1_2, a2_1_3, a2_1_u), (a2_2_1, a2_2_2, a2_2_3, a2_2_u), a2_u) ≤ 1048576 := by simp only [tot] at hn ⊢; omega
  have hba3 : tot shTrainState ((a3_1_1, a3_1_u), a3_2, a3_3, a3_4, a3_5, a3_u) ≤ 1048576 := by simp only [tot] at hn ⊢; omega
  simp only [ofCs, Sh.agg, List.cons_append, List.nil_append, if_true]
  go_enter Try.func14, Try.ntmps14
  go_wp2_with fail
  refine (eqOptimizer_ok [.int .i64 a1_1, .float .f32 xa1_2, .float .f32 xa1_3, .float .f32 xa1_4, .float .f32 xa1_5] [.int .i64 a1_1, .float .f32 xqa1_2, .float .f32 xqa1_3, .float .f32 xqa1_4, .float .f32 xqa1_5] (a1_1, a1_2, a1_3, a1_4, a1_5, a1_u) _ (Rep.ext (w := w) ?_ (⟨[.int .i64 a1_1], [.float .f32 xa1_2, .float .f32 xa1_3, .float .f32 xa1_4, .float .f32 xa1_5], rfl, rfl, [.float .f32 xa1_2], [.float .f32 xa1_3, .float .f32 xa1_4, .float .f32 xa1_5], rfl, ⟨_, rfl, ha1_2⟩, [.float .f32 xa1_3], [.float .f32 xa1_4, .float .f32 xa1_5], rfl, ⟨_, rfl, ha1_3⟩, [.float .f32 xa1_4], [.float .f32 xa1_5], rfl, ⟨_, rfl, ha1_4⟩, [.float .f32 xa1_5], [], rfl, ⟨_, rfl, ha1_5⟩, rfl⟩ : Rep w shOptimizer [.int .i64 a1_1, .float .f32 xa1_2, .float .f32 xa1_3, .float .f32 xa1_4, .float .f32 xa1_5] (a1_1, a1_2, a1_3, a1_4, a1_5, a1_u))) (Rep.ext (w := w) ?_ (⟨[.int .i64 a1_1], [.float .f32 xqa1_2, .float .f32 xqa1_3, .float .f32 xqa1_4, .float .f32 xqa1_5], rfl, rfl, [.float .f32 xqa1_2], [.float .f32 xqa1_3, .float .f32 xqa1_4, .float .f32 xqa1_5], rfl, ⟨_, rfl, hqa1_2⟩, [.float .f32 xqa1_3], [.float .f32 xqa1_4, .float .f32 xqa1_5], rfl, ⟨_, rfl, hqa1_3⟩, [.float .f32 xqa1_4], [.float .f32 xqa1_5], rfl, ⟨_, rfl, hqa1_4⟩, [.float .f32 xqa1_5], [], rfl, ⟨_, rfl, hqa1_5⟩, rfl⟩ : Rep w shOptimizer [.int .i64 a1_1, .float .f32 xqa1_2, .float .f32 xqa1_3, .float .f32 xqa1_4, .float .f32 xqa1_5] (a1_1, a1_2, a1_3, a1_4, a1_5, a1_u))) hba1).mono ?_
  · (repeat (first | with_reducible exact Ext.refl _ | with_reducible assumption | ((with_reducible refine Ext.setCell ?_ ?_ _); rotate_left; focus (first | (simp; done) | (simp; omega))) | (with_reducible refine Ext.trans ?_ (Ext.alloc _ _)) | (with_reducible refine Ext.trans ?_ (Ext.drew _)) | (with_reducible refine Ext.trans ?_ (by with_reducible assumption))))
  · (repeat (first | with_reducible exact Ext.refl _ | with_reducible assumption | ((with_reducible refine Ext.setCell ?_ ?_ _); rotate_left; focus (first | (simp; done) | (simp; omega))) | (with_reducible refine Ext.trans ?_ (Ext.alloc _ _)) | (with_reducible refine Ext.trans ?_ (Ext.drew _)) | (with_reducible refine Ext.trans ?_ (by with_reducible assumption))))
  rintro e w1 ⟨rfl, e1⟩
  have x1_0 := e1.cellOf (b := w.heap.size) (by first | (simp; done) | (simp; omega))
  have x1_1 := e1.cellOf (b := w.heap.size + 1) (by first | (simp; done) | (simp; omega))
  have y1 := e1.size
  go_wp2_with fail
  refine (eqExamples_ok [.int .i64 a2_1_1, .int .i64 a2_1_2, .slice pa2_1_3 (List.length a2_1_3) ca2_1_3, .int .i64 a2_2_1, .int .i64 a2_2_2, .slice pa2_2_3 (List.length a2_2_3) ca2_2_3] [.int .i64 a2_1_1, .int .i64 a2_1_2, .slice pqa2_1_3 (List.length a2_1_3) cqa2_1_3, .int .i64 a2_2_1, .int .i64 a2_2_2, .slice pqa2_2_3 (List.length a2_2_3) cqa2_2_3] ((a2_1_1, a2_1_2, a2_1_3, a2_1_u), (a2_2_1, a2_2_2, a2_2_3, a2_2_u), a2_u) _ (Rep.ext (w := w) ?_ (⟨[.int .i64 a2_1_1, .int .i64 a2_1_2, .slice pa2_1_3 (List.length a2_1_3) ca2_1_3], [.int .i64 a2_2_1, .int .i64 a2_2_2, .slice pa2_2_3 (List.length a2_2_3) ca2_2_3], rfl, ⟨[.int .i64 a2_1_1], [.int .i64 a2_1_2, .slice pa2_1_3 (List.length a2_1_3) ca2_1_3], rfl, rfl, [.int .i64 a2_1_2], [.slice pa2_1_3 (List.length a2_1_3) ca2_1_3], rfl, rfl, [.slice pa2_1_3 (List.length a2_1_3) ca2_1_3], [], rfl, ha2_1_3, rfl⟩, [.int .i64 a2_2_1, .int .i64 a2_2_2, .slice pa2_2_3 (List.length a2_2_3) ca2_2_3], [], rfl, ⟨[.int .i64 a2_2_1], [.int .i64 a2_2_2, .slice pa2_2_3 (List.length a2_2_3) ca2_2_3], rfl, rfl, [.int .i64 a2_2_2], [.slice pa2_2_3 (List.length a2_2_3) ca2_2_3], rfl, rfl, [.slice pa2_2_3 (List.length a2_2_3) ca2_2_3], [], rfl, ha2_2_3, rfl⟩, rfl⟩ : Rep w shExamples [.int .i64 a2_1_1, .int .i64 a2_1_2, .slice pa2_1_3 (List.length a2_1_3) ca2_1_3, .int .i64 a2_2_1, .int .i64 a2_2_2, .slice pa2_2_3 (List.length a2_2_3) ca2_2_3] ((a2_1_1, a2_1_2, a2_1_3, a2_1_u), (a2_2_1, a2_2_2, a2_2_3, a2_2_u), a2_u))) (Rep.ext (w := w) ?_ (⟨[.int .i64 a2_1_1, .int .i64 a2_1_2, .slice pqa2_1_3 (List.length a2_1_3) cqa2_1_3], [.int .i64 a2_2_1, .int .i64 a2_2_2, .slice pqa2_2_3 (List.length a2_2_3) cqa2_2_3], rfl, ⟨[.int .i64 a2_1_1], [.int .i64 a2_1_2, .slice pqa2_1_3 (List.length a2_1_3) cqa2_1_3], rfl, rfl, [.int .i64 a2_1_2], [.slice pqa2_1_3 (List.length a2_1_3) cqa2_1_3], rfl, rfl, [.slice pqa2_1_3 (List.length a2_1_3) cqa2_1_3], [], rfl, hqa2_1_3, rfl⟩, [.int .i64 a2_2_1, .int .i64 a2_2_2, .slice pqa2_2_3 (List.length a2_2_3) cqa2_2_3], [], rfl, ⟨[.int .i64 a2_2_1], [.int .i64 a2_2_2, .slice pqa2_2_3 (List.length a2_2_3) cqa2_2_3], rfl, rfl, [.int .i64 a2_2_2], [.slice pqa2_2_3 (List.length a2_2_3) cqa2_2_3], rfl, rfl, [.slice pqa2_2_3 (List.length a2_2_3) cqa2_2_3], [], rfl, hqa2_2_3, rfl⟩, rfl⟩ : Rep w shExamples [.int .i64 a2_1_1, .int .i64 a2_1_2, .slice pqa2_1_3 (List.length a2_1_3) cqa2_1_3, .int .i64 a2_2_1, .int .i64 a2_2_2, .slice pqa2_2_3 (List.length a2_2_3) cqa2_2_3] ((a2_1_1, a2_1_2, a2_1_3, a2_1_u), (a2_2_1, a2_2_2, a2_2_3, a2_2_u), a2_u))) hba2).mono ?_
  · (repeat (first | with_reducible exact Ext.refl _ | with_reducible assumption | ((with_reducible refine Ext.setCell ?_ ?_ _); rotate_left; focus (first | (simp; done) | (simp; omega))) | (with_reducible refine Ext.trans ?_ (Ext.alloc _ _)) | (with_reducible refine Ext.trans ?_ (Ext.drew _)) | (with_reducible refine Ext.trans ?_ (by with_reducible assumption))))
  · (repeat (first | with_reducible exact Ext.refl _ | with_reducible assumption | ((with_reducible refine Ext.setCell ?_ ?_ _); rotate_left; focus (first | (simp; done) | (simp; omega))) | (with_reducible refine Ext.trans ?_ (Ext.alloc _ _)) | (with_reducible refine Ext.trans ?_ (Ext.drew _)) | (with_reducible refine Ext.trans ?_ (by with_reducible assumption))))
  rintro e w2 ⟨rfl, e2⟩
  have x2_0 := e2.cellOf (b := w.heap.size) (by first | (simp; done) | (simp; omega) | (simp at y1 ⊢; omega) | (simp at y1; omega) | (simp at y1 ⊢; omega) | (simp at y1; omega))
  have x2_1 := e2.cellOf (b := w.heap.size + 1) (by first | (simp; done) | (simp; omega) | (simp at y1 ⊢; omega) | (simp at y1; omega) | (simp at y1 ⊢; omega) | (simp at y1; omega))
  have y2 := e2.size
  go_wp2_with fail
  refine (eqTrainState_ok [.slice pa3_1_1 (List.length a3_1_1) ca3_1_1, .slice pa3_2 (List.length a3_2) ca3_2, .int .i64 a3_3, .int .i64 a3_4, .float .f32 xa3_5] [.slice pqa3_1_1 (List.length a3_1_1) cqa3_1_1, .slice pqa3_2 (List.length a3_2) cqa3_2, .int .i64 a3_3, .int .i64 a3_4, .float .f32 xqa3_5] ((a3_1_1, a3_1_u), a3_2, a3_3, a3_4, a3_5, a3_u) _ (Rep.ext (w := w) ?_ (⟨[.slice pa3_1_1 (List.length a3_1_1) ca3_1_1], [.slice pa3_2 (List.length a3_2) ca3_2, .int .i64 a3_3, .int .i64 a3_4, .float .f32 xa3_5], rfl, ⟨[.slice pa3_1_1 (List.length a3_1_1) ca3_1_1], [], rfl, ha3_1_1, rfl⟩, [.slice pa3_2 (List.length a3_2) ca3_2], [.int .i64 a3_3, .int .i64 a3_4, .float .f32 xa3_5], rfl, ha3_2, [.int .i64 a3_3], [.int .i64 a3_4, .float .f32 xa3_5], rfl, rfl, [.int .i64 a3_4], [.float .f32 xa3_5], rfl, rfl, [.float .f32 xa3_5], [], rfl, ⟨_, rfl, ha3_5⟩, rfl⟩ : Rep w shTrainState [.slice pa3_1_1 (List.length a3_1_1) ca3_1_1, .slice pa3_2 (List.length a3_2) ca3_2, .int .i64 a3_3, .int .i64 a3_4, .float .f32 xa3_5] ((a3_1_1, a3_1_u), a3_2, a3_3, a3_4, a3_5, a3_u))) (Rep.ext (w := w) ?_ (⟨[.slice pqa3_1_1 (List.length a3_1_1) cqa3_1_1], [.slice pqa3_2 (List.length a3_2) cqa3_2, .int .i64 a3_3, .int .i64 a3_4, .float .f32 xqa3_5], rfl, ⟨[.slice pqa3_1_1 (List.length a3_1_1) cqa3_1_1], [], rfl, hqa3_1_1, rfl⟩, [.slice pqa3_2 (List.length a3_2) cqa3_2], [.int .i64 a3_3, .int .i64 a3_4, .float .f32 xqa3_5], rfl, hqa3_2, [.int .i64 a3_3], [.int .i64 a3_4, .float .f32 xqa3_5], rfl, rfl, [.int .i64 a3_4], [.float .f32 xqa3_5], rfl, rfl, [.float .f32 xqa3_5], [], rfl, ⟨_, rfl, hqa3_5⟩, rfl⟩ : Rep w shTrainState [.slice pqa3_1_1 (List.length a3_1_1) cqa3_1_1, .slice pqa3_2 (List.length a3_2) cqa3_2, .int .i64 a3_3, .int .i64 a3_4, .float .f32 xqa3_5] ((a3_1_1, a3_1_u), a3_2, a3_3, a3_4, a3_5, a3_u))) hba3).mono ?_
  · (repeat (first | with_reducible exact Ext.refl _ | with_reducible assumption | ((with_reducible refine Ext.setCell ?_ ?_ _); rotate_left; focus (first | (simp; done) | (simp; omega))) | (with_reducible refine Ext.trans ?_ (Ext.alloc _ _)) | (with_reducible refine Ext.trans ?_ (Ext.drew _)) | (with_reducible refine Ext.trans ?_ (by with_reducible assumption))))
  · (repeat (first | with_reducible exact Ext.refl _ | with_reducible assumption | ((with_reducible refine Ext.setCell ?_ ?_ _); rotate_left; focus (first | (simp; done) | (simp; omega))) | (with_reducible refine Ext.trans ?_ (Ext.alloc _ _)) | (with_reducible refine Ext.trans ?_ (Ext.drew _)) | (with_reducible refine Ext.trans ?_ (by with_reducible assumption))))
  rintro e w3 ⟨rfl, e3⟩
  have x3_0 := e3.cellOf (b := w.heap.size) (by first | (simp; done) | (simp; omega) | (simp at y1 ⊢; omega) | (simp at y1; omega) | (simp at y1 y2 ⊢; omega) | (simp at y1 y2; omega))
  have x3_1 := e3.cellOf (b := w.heap.size + 1) (by first | (simp; done) | (simp; omega) | (simp at y1 ⊢; omega) | (simp at y1; omega) | (simp at y1 y2 ⊢; omega) | (simp at y1 y2; omega))
  have y3 := e3.size
  go_wp2
  go_ret
  refine ⟨rfl, ?_⟩
  (repeat (first | with_reducible exact Ext.refl _ | with_reducible assumption | ((with_reducible refine Ext.setCell ?_ ?_ _); rotate_left; focus (first | (simp; done) | (simp; omega))) | (with_reducible refine Ext.trans ?_ (Ext.alloc _ _)) | (with_reducible refine Ext.trans ?_ (Ext.drew _)) | (with_reducible refine Ext.trans ?_ (by with_reducible assumption))))

set_option maxRecDepth 100000 in
set_option maxHeartbeats 1000000 in
theorem szLab_ok : SzOk 10 shLab := by
  intro cs d left w hu hl0 hl1
  obtain ⟨⟨a1_1, a1_2, a1_3, a1_4, a1_5, a1_u⟩, ⟨⟨a2_1_1, a2_1_2, a2_1_3, a2_1_u⟩, ⟨a2_2_1, a2_2_2, a2_2_3, a2_2_u⟩, a2_u⟩, ⟨⟨a3_1_1, a3_1_u⟩, a3_2, a3_3, a3_4, a3_5, a3_u⟩, au⟩ := d
  obtain ⟨_, _, rfl, ⟨_, _, rfl, rfl, _, _, rfl, ⟨xa1_2, rfl, ha1_2⟩, _, _, rfl, ⟨xa1_3, rfl, ha1_3⟩, _, _, rfl, ⟨xa1_4, rfl, ha1_4⟩, _, _, rfl, ⟨xa1_5, rfl, ha1_5⟩, rfl⟩, _, _, rfl, ⟨_, _, rfl, ⟨_, _, rfl, rfl, _, _, rfl, rfl, _, _, rfl, ha2_1_3, rfl⟩, _, _, rfl, ⟨_, _, rfl, rfl, _, _, rfl, rfl, _, _, rfl, ha2_2_3, rfl⟩, rfl⟩, _, _, rfl, ⟨_, _, rfl, ⟨_, _, rfl, ha3_1_1, rfl⟩, _, _, rfl, ha3_2, _, _, rfl, rfl, _, _, rfl, rfl, _, _, rfl, ⟨xa3_5, rfl, ha3_5⟩, rfl⟩, rfl⟩ := hu
  obtain ⟨pa2_1_3, ca2_1_3, rfl, hla2_1_3⟩ := rep_val ha2_1_3
  obtain ⟨pa2_2_3, ca2_2_3, rfl, hla2_2_3⟩ := rep_val ha2_2_3
  obtain ⟨pa3_1_1, ca3_1_1, rfl, hla3_1_1⟩ := rep_val ha3_1_1
  obtain ⟨pa3_2, ca3_2, rfl, hla3_2⟩ := rep_val ha3_2
  simp only [ofCs, Sh.agg, List.cons_append, List.nil_append, if_true]
  generalize hT : tot shLab ((a1_1, a1_2, a1_3, a1_4, a1_5, a1_u), ((a2_1_1, a2_1_2, a2_1_3, a2_1_u), (a2_2_1, a2_2_2, a2_2_3, a2_2_u), a2_u), ((a3_1_1, a3_1_u), a3_2, a3_3, a3_4, a3_5, a3_u), au) = T
  have HT := hid hT
  clear hT
  go_enter Try.func10, Try.ntmps10
  go_wp2_with fail
  refine (szExamples_ok [.int .i64 a2_1_1, .int .i64 a2_1_2, .slice pa2_1_3 (List.length a2_1_3) ca2_1_3, .int .i64 a2_2_1, .int .i64 a2_2_2, .slice pa2_2_3 (List.length a2_2_3) ca2_2_3] ((a2_1_1, a2_1_2, a2_1_3, a2_1_u), (a2_2_1, a2_2_2, a2_2_3, a2_2_u), a2_u) left _ (Rep.ext (w := w) ?_ (⟨[.int .i64 a2_1_1, .int .i64 a2_1_2, .slice pa2_1_3 (List.length a2_1_3) ca2_1_3], [.int .i64 a2_2_1, .int .i64 a2_2_2, .slice pa2_2_3 (List.length a2_2_3) ca2_2_3], rfl, ⟨[.int .i64 a2_1_1], [.int .i64 a2_1_2, .slice pa2_1_3 (List.length a2_1_3) ca2_1_3], rfl, rfl, [.int .i64 a2_1_2], [.slice pa2_1_3 (List.length a2_1_3) ca2_1_3], rfl, rfl, [.slice pa2_1_3 (List.length a2_1_3) ca2_1_3], [], rfl, ha2_1_3, rfl⟩, [.int .i64 a2_2_1, .int .i64 a2_2_2, .slice pa2_2_3 (List.length a2_2_3) ca2_2_3], [], rfl, ⟨[.int .i64 a2_2_1], [.int .i64 a2_2_2, .slice pa2_2_3 (List.length a2_2_3) ca2_2_3], rfl, rfl, [.int .i64 a2_2_2], [.slice pa2_2_3 (List.length a2_2_3) ca2_2_3], rfl, rfl, [.slice pa2_2_3 (List.length a2_2_3) ca2_2_3], [], rfl, ha2_2_3, rfl⟩, rfl⟩ : Rep w shExamples [.int .i64 a2_1_1, .int .i64 a2_1_2, .slice pa2_1_3 (List.length a2_1_3) ca2_1_3, .int .i64 a2_2_1, .int .i64 a2_2_2, .slice pa2_2_3 (List.length a2_2_3) ca2_2_3] ((a2_1_1, a2_1_2, a2_1_3, a2_1_u), (a2_2_1, a2_2_2, a2_2_3, a2_2_u), a2_u))) (by omega) (by omega)).mono ?_
  · (repeat (first | with_reducible exact Ext.refl _ | with_reducible assumption | ((with_reducible refine Ext.setCell ?_ ?_ _); rotate_left; focus (first | (simp; done) | (simp; omega))) | (with_reducible refine Ext.trans ?_ (Ext.alloc _ _)) | (with_reducible refine Ext.trans ?_ (Ext.drew _)) | (with_reducible refine Ext.trans ?_ (by with_reducible assumption))))
  rintro e w2 ⟨⟨r2, rfl, hr2⟩, e2⟩
  have x2_0 := e2.cellOf (b := w.heap.size) (by first | (simp; done) | (simp; omega) | (simp at y1 ⊢; omega) | (simp at y1; omega) | (simp at y1 ⊢; omega) | (simp at y1; omega))
  have y2 := e2.size
  by_cases hn2 : r2 < 0
  · go_wp2
    go_ret
    refine ⟨⟨-1, rfl, .inl (by omega)⟩, ?_⟩
    (repeat (first | with_reducible exact Ext.refl _ | with_reducible assumption | ((with_reducible refine Ext.setCell ?_ ?_ _); rotate_left; focus (first | (simp; done) | (simp; omega))) | (with_reducible refine Ext.trans ?_ (Ext.alloc _ _)) | (with_reducible refine Ext.trans ?_ (Ext.drew _)) | (with_reducible refine Ext.trans ?_ (by with_reducible assumption))))
  have hq2 : r2 = left - (tot shExamples ((a2_1_1, a2_1_2, a2_1_3, a2_1_u), (a2_2_1, a2_2_2, a2_2_3, a2_2_u), a2_u) : Int) := by rcases hr2 with h | h; exact absurd h hn2; exact h.1
  have Hq2 := hid hq2
  have hz2 : 0 ≤ r2 := by omega
  have ht2 : r2 ≤ 1048576 := by omega
  clear hr2 hq2
  go_wp2_with fail
  refine (szTrainState_ok [.slice pa3_1_1 (List.length a3_1_1) ca3_1_1, .slice pa3_2 (List.length a3_2) ca3_2, .int .i64 a3_3, .int .i64 a3_4, .float .f32 xa3_5] ((a3_1_1, a3_1_u), a3_2, a3_3, a3_4, a3_5, a3_u) r2 _ (Rep.ext (w := w) ?_ (⟨[.slice pa3_1_1 (List.length a3_1_1) ca3_1_1], [.slice pa3_2 (List.length a3_2) ca3_2, .int .i64 a3_3, .int .i64 a3_4, .float .f32 xa3_5], rfl, ⟨[.slice pa3_1_1 (List.length a3_1_1) ca3_1_1], [], rfl, ha3_1_1, rfl⟩, [.slice pa3_2 (List.length a3_2) ca3_2], [.int .i64 a3_3, .int .i64 a3_4, .float .f32 xa3_5], rfl, ha3_2, [.int .i64 a3_3], [.int .i64 a3_4, .float .f32 xa3_5], rfl, rfl, [.int .i64 a3_4], [.float .f32 xa3_5], rfl, rfl, [.float .f32 xa3_5], [], rfl, ⟨_, rfl, ha3_5⟩, rfl⟩ : Rep w shTrainState [.slice pa3_1_1 (List.length a3_1_1) ca3_1_1, .slice pa3_2 (List.length a3_2) ca3_2, .int .i64 a3_3, .int .i64 a3_4, .float .f32 xa3_5] ((a3_1_1, a3_1_u), a3_2, a3_3, a3_4, a3_5, a3_u))) (by omega) (by omega)).mono ?_
  · (repeat (first | with_reducible exact Ext.refl _ | with_reducible assumption | ((with_reducible refine Ext.setCell ?_ ?_ _); rotate_left; focus (first | (simp; done) | (simp; omega))) | (with_reducible refine Ext.trans ?_ (Ext.alloc _ _)) | (with_reducible refine Ext.trans ?_ (Ext.drew _)) | (with_reducible refine Ext.trans ?_ (by with_reducible assumption))))
  rintro e w3 ⟨⟨r3, rfl, hr3⟩, e3⟩
  have x3_0 := e3.cellOf (b := w.heap.size) (by first | (simp; done) | (simp; omega) | (simp at y1 ⊢; omega) | (simp at y1; omega) | (simp at y2 ⊢; omega) | (simp at y2; omega))
  have y3 := e3.size
  by_cases hn3 : r3 < 0
  · go_wp2
    go_ret
    refine ⟨⟨-1, rfl, .inl (by omega)⟩, ?_⟩
    (repeat (first | with_reducible exact Ext.refl _ | with_reducible assumption | ((with_reducible refine Ext.setCell ?_ ?_ _); rotate_left; focus (first | (simp; done) | (simp; omega))) | (with_reducible refine Ext.trans ?_ (Ext.alloc _ _)) | (with_reducible refine Ext.trans ?_ (Ext.drew _)) | (with_reducible refine Ext.trans ?_ (by with_reducible assumption))))
  have hq3 : r3 = r2 - (tot shTrainState ((a3_1_1, a3_1_u), a3_2, a3_3, a3_4, a3_5, a3_u) : Int) := by rcases hr3 with h | h; exact absurd h hn3; exact h.1
  have Hq3 := hid hq3
  have hz3 : 0 ≤ r3 := by omega
  have ht3 : r3 ≤ 1048576 := by omega
  clear hr3 hq3
  go_wp2
  go_ret
  refine ⟨⟨_, rfl, .inr ⟨?_, by omega⟩⟩, ?_⟩
  · have h0 := HT.out
    simp only [tot] at h0
    have h2 := Hq2.out
    simp only [tot] at h2
    have h3 := Hq3.out
    simp only [tot] at h3
    omega
  · (repeat (first | with_reducible exact Ext.refl _ | with_reducible assumption | ((with_reducible refine Ext.setCell ?_ ?_ _); rotate_left; focus (first | (simp; done) | (simp; omega))) | (with_reducible refine Ext.trans ?_ (Ext.alloc _ _)) | (with_reducible refine Ext.trans ?_ (Ext.drew _)) | (with_reducible refine Ext.trans ?_ (by with_reducible assumption))))

set_option maxRecDepth 100000 in
set_option maxHeartbeats 1000000 in
theorem toLab_ok : ToOk 12 shLab := by
  intro cs d w hu hn
  obtain ⟨⟨a1_1, a1_2, a1_3, a1_4, a1_5, a1_u⟩, ⟨⟨a2_1_1, a2_1_2, a2_1_3, a2_1_u⟩, ⟨a2_2_1, a2_2_2, a2_2_3, a2_2_u⟩, a2_u⟩, ⟨⟨a3_1_1, a3_1_u⟩, a3_2, a3_3, a3_4, a3_5, a3_u⟩, au⟩ := d
  obtain ⟨_, _, rfl, ⟨_, _, rfl, rfl, _, _, rfl, ⟨xa1_2, rfl, ha1_2⟩, _, _, rfl, ⟨xa1_3, rfl, ha1_3⟩, _, _, rfl, ⟨xa1_4, rfl, ha1_4⟩, _, _, rfl, ⟨xa1_5, rfl, ha1_5⟩, rfl⟩, _, _, rfl, ⟨_, _, rfl, ⟨_, _, rfl, rfl, _, _, rfl, rfl, _, _, rfl, ha2_1_3, rfl⟩, _, _, rfl, ⟨_, _, rfl, rfl, _, _, rfl, rfl, _, _, rfl, ha2_2_3, rfl⟩, rfl⟩, _, _, rfl, ⟨_, _, rfl, ⟨_, _, rfl, ha3_1_1, rfl⟩, _, _, rfl, ha3_2, _, _, rfl, rfl, _, _, rfl, rfl, _, _, rfl, ⟨xa3_5, rfl, ha3_5⟩, rfl⟩, rfl⟩ := hu
  obtain ⟨pa2_1_3, ca2_1_3, rfl, hla2_1_3⟩ := rep_val ha2_1_3
  obtain ⟨pa2_2_3, ca2_2_3, rfl, hla2_2_3⟩ := rep_val ha2_2_3
  obtain ⟨pa3_1_1, ca3_1_1, rfl, hla3_1_1⟩ := rep_val ha3_1_1
  obtain ⟨pa3_2, ca3_2, rfl, hla3_2⟩ := rep_val ha3_2
  have hba1 : tot shOptimizer (a1_1, a1_2, a1_3, a1_4, a1_5, a1_u) ≤ 1048576 := by simp only [tot] at hn ⊢; omega
  have hba2 : tot shExamples ((a2_1_1, a2_1_2, a2_1_3, a2_1_u), (a2_2_1, a2_2_2, a2_2_3, a2_2_u), a2_u) ≤ 1048576 := by simp only [tot] at hn ⊢; omega
  have hba3 : tot shTrainState ((a3_1_1, a3_1_u), a3_2, a3_3, a3_4, a3_5, a3_u) ≤ 1048576 := by simp only [tot] at hn ⊢; omega
  simp only [ofCs, Sh.agg, List.cons_append, List.nil_append, if_true]
  go_enter Try.func12, Try.ntmps12
  go_wp2_with fail
  refine (toOptimizer_ok [.int .i64 a1_1, .float .f32 xa1_2, .float .f32 xa1_3, .float .f32 xa1_4, .float .f32 xa1_5] (a1_1, a1_2, a1_3, a1_4, a1_5, a1_u) _ (Rep.ext (w := w) ?_ (⟨[.int .i64 a1_1], [.float .f32 xa1_2, .float .f32 xa1_3, .float .f32 xa1_4, .float .f32 xa1_5], rfl, rfl, [.float .f32 xa1_2], [.float .f32 xa1_3, .float .f32 xa1_4, .float .f32 xa1_5], rfl, ⟨_, rfl, ha1_2⟩, [.float .f32 xa1_3], [.float .f32 xa1_4, .float .f32 xa1_5], rfl, ⟨_, rfl, ha1_3⟩, [.float .f32 xa1_4], [.float .f32 xa1_5], rfl, ⟨_, rfl, ha1_4⟩, [.float .f32 xa1_5], [], rfl, ⟨_, rfl, ha1_5⟩, rfl⟩ : Rep w shOptimizer [.int .i64 a1_1, .float .f32 xa1_2, .float .f32 xa1_3, .float .f32 xa1_4, .float .f32 xa1_5] (a1_1, a1_2, a1_3, a1_4, a1_5, a1_u))) hba1).mono ?_
  · (repeat (first | with_reducible exact Ext.refl _ | with_reducible assumption | ((with_reducible refine Ext.setCell ?_ ?_ _); rotate_left; focus (first | (simp; done) | (simp; omega))) | (with_reducible refine Ext.trans ?_ (Ext.alloc _ _)) | (with_reducible refine Ext.trans ?_ (Ext.drew _)) | (with_reducible refine Ext.trans ?_ (by with_reducible assumption))))
  rintro e w1 ⟨cs1, bs1, rfl, owna1, nd1, lo1, e1⟩
  have hqa1 := owna1.rep
  obtain ⟨_, _, rfl, rfl, _, _, rfl, ⟨xqa1_2, rfl, hqa1_2⟩, _, _, rfl, ⟨xqa1_3, rfl, hqa1_3⟩, _, _, rfl, ⟨xqa1_4, rfl, hqa1_4⟩, _, _, rfl, ⟨xqa1_5, rfl, hqa1_5⟩, rfl⟩ := hqa1
  simp only [ofCs, Sh.agg, List.cons_append, List.nil_append, if_true] at owna1 ⊢
  have x1_0 := e1.cellOf (b := w.heap.size) (by first | (simp; done) | (simp; omega))
  have x1_1 := e1.cellOf (b := w.heap.size + 1) (by first | (simp; done) | (simp; omega))
  have x1_2 := e1.cellOf (b := w.heap.size + 2) (by first | (simp; done) | (simp; omega))
  have y1 := e1.size
  go_wp2_with fail
  refine (toExamples_ok [.int .i64 a2_1_1, .int .i64 a2_1_2, .slice pa2_1_3 (List.length a2_1_3) ca2_1_3, .int .i64 a2_2_1, .int .i64 a2_2_2, .slice pa2_2_3 (List.length a2_2_3) ca2_2_3] ((a2_1_1, a2_1_2, a2_1_3, a2_1_u), (a2_2_1, a2_2_2, a2_2_3, a2_2_u), a2_u) _ (Rep.ext (w := w) ?_ (⟨[.int .i64 a2_1_1, .int .i64 a2_1_2, .slice pa2_1_3 (List.length a2_1_3) ca2_1_3], [.int .i64 a2_2_1, .int .i64 a2_2_2, .slice pa2_2_3 (List.length a2_2_3) ca2_2_3], rfl, ⟨[.int .i64 a2_1_1], [.int .i64 a2_1_2, .slice pa2_1_3 (List.length a2_1_3) ca2_1_3], rfl, rfl, [.int .i64 a2_1_2], [.slice pa2_1_3 (List.length a2_1_3) ca2_1_3], rfl, rfl, [.slice pa2_1_3 (List.length a2_1_3) ca2_1_3], [], rfl, ha2_1_3, rfl⟩, [.int .i64 a2_2_1, .int .i64 a2_2_2, .slice pa2_2_3 (List.length a2_2_3) ca2_2_3], [], rfl, ⟨[.int .i64 a2_2_1], [.int .i64 a2_2_2, .slice pa2_2_3 (List.length a2_2_3) ca2_2_3], rfl, rfl, [.int .i64 a2_2_2], [.slice pa2_2_3 (List.length a2_2_3) ca2_2_3], rfl, rfl, [.slice pa2_2_3 (List.length a2_2_3) ca2_2_3], [], rfl, ha2_2_3, rfl⟩, rfl⟩ : Rep w shExamples [.int .i64 a2_1_1, .int .i64 a2_1_2, .slice pa2_1_3 (List.length a2_1_3) ca2_1_3, .int .i64 a2_2_1, .int .i64 a2_2_2, .slice pa2_2_3 (List.length a2_2_3) ca2_2_3] ((a2_1_1, a2_1_2, a2_1_3, a2_1_u), (a2_2_1, a2_2_2, a2_2_3, a2_2_u), a2_u))) hba2).mono ?_
  · (repeat (first | with_reducible exact Ext.refl _ | with_reducible assumption | ((with_reducible refine Ext.setCell ?_ ?_ _); rotate_left; focus (first | (simp; done) | (simp; omega))) | (with_reducible refine Ext.trans ?_ (Ext.alloc _ _)) | (with_reducible refine Ext.trans ?_ (Ext.drew _)) | (with_reducible refine Ext.trans ?_ (by with_reducible assumption))))
  rintro e w2 ⟨cs2, bs2, rfl, owna2, nd2, lo2, e2⟩
  have hqa2 := owna2.rep
  obtain ⟨_, _, rfl, ⟨_, _, rfl, rfl, _, _, rfl, rfl, _, _, rfl, hqa2_1_3, rfl⟩, _, _, rfl, ⟨_, _, rfl, rfl, _, _, rfl, rfl, _, _, rfl, hqa2_2_3, rfl⟩, rfl⟩ := hqa2
  obtain ⟨pqa2_1_3, cqa2_1_3, rfl, glqa2_1_3⟩ := rep_val hqa2_1_3
  obtain ⟨pqa2_2_3, cqa2_2_3, rfl, glqa2_2_3⟩ := rep_val hqa2_2_3
  simp only [ofCs, Sh.agg, List.cons_append, List.nil_append, if_true] at owna2 ⊢
  have x2_0 := e2.cellOf (b := w.heap.size) (by first | (simp; done) | (simp; omega) | (simp at y1 ⊢; omega) | (simp at y1; omega) | (simp at y1 ⊢; omega) | (simp at y1; omega))
  have x2_1 := e2.cellOf (b := w.heap.size + 1) (by first | (simp; done) | (simp; omega) | (simp at y1 ⊢; omega) | (simp at y1; omega) | (simp at y1 ⊢; omega) | (simp at y1; omega))
  have x2_2 := e2.cellOf (b := w.heap.size + 2) (by first | (simp; done) | (simp; omega) | (simp at y1 ⊢; omega) | (simp at y1; omega) | (simp at y1 ⊢; omega) | (simp at y1; omega))
  have y2 := e2.size
  go_wp2_with fail
  refine (toTrainState_ok [.slice pa3_1_1 (List.length a3_1_1) ca3_1_1, .slice pa3_2 (List.length a3_2) ca3_2, .int .i64 a3_3, .int .i64 a3_4, .float .f32 xa3_5] ((a3_1_1, a3_1_u), a3_2, a3_3, a3_4, a3_5, a3_u) _ (Rep.ext (w := w) ?_ (⟨[.slice pa3_1_1 (List.length a3_1_1) ca3_1_1], [.slice pa3_2 (List.length a3_2) ca3_2, .int .i64 a3_3, .int .i64 a3_4, .float .f32 xa3_5], rfl, ⟨[.slice pa3_1_1 (List.length a3_1_1) ca3_1_1], [], rfl, ha3_1_1, rfl⟩, [.slice pa3_2 (List.length a3_2) ca3_2], [.int .i64 a3_3, .int .i64 a3_4, .float .f32 xa3_5], rfl, ha3_2, [.int .i64 a3_3], [.int .i64 a3_4, .float .f32 xa3_5], rfl, rfl, [.int .i64 a3_4], [.float .f32 xa3_5], rfl, rfl, [.float .f32 xa3_5], [], rfl, ⟨_, rfl, ha3_5⟩, rfl⟩ : Rep w shTrainState [.slice pa3_1_1 (List.length a3_1_1) ca3_1_1, .slice pa3_2 (List.length a3_2) ca3_2, .int .i64 a3_3, .int .i64 a3_4, .float .f32 xa3_5] ((a3_1_1, a3_1_u), a3_2, a3_3, a3_4, a3_5, a3_u))) hba3).mono ?_
  · (repeat (first | with_reducible exact Ext.refl _ | with_reducible assumption | ((with_reducible refine Ext.setCell ?_ ?_ _); rotate_left; focus (first | (simp; done) | (simp; omega))) | (with_reducible refine Ext.trans ?_ (Ext.alloc _ _)) | (with_reducible refine Ext.trans ?_ (Ext.drew _)) | (with_reducible refine Ext.trans ?_ (by with_reducible assumption))))
  rintro e w3 ⟨cs3, bs3, rfl, owna3, nd3, lo3, e3⟩
  have hqa3 := owna3.rep
  obtain ⟨_, _, rfl, ⟨_, _, rfl, hqa3_1_1, rfl⟩, _, _, rfl, hqa3_2, _, _, rfl, rfl, _, _, rfl, rfl, _, _, rfl, ⟨xqa3_5, rfl, hqa3_5⟩, rfl⟩ := hqa3
  obtain ⟨pqa3_1_1, cqa3_1_1, rfl, glqa3_1_1⟩ := rep_val hqa3_1_1
  obtain ⟨pqa3_2, cqa3_2, rfl, glqa3_2⟩ := rep_val hqa3_2
  simp only [ofCs, Sh.agg, List.cons_append, List.nil_append, if_true] at owna3 ⊢
  have x3_0 := e3.cellOf (b := w.heap.size) (by first | (simp; done) | (simp; omega) | (simp at y1 ⊢; omega) | (simp at y1; omega) | (simp at y1 y2 ⊢; omega) | (simp at y1 y2; omega))
  have x3_1 := e3.cellOf (b := w.heap.size + 1) (by first | (simp; done) | (simp; omega) | (simp at y1 ⊢; omega) | (simp at y1; omega) | (simp at y1 y2 ⊢; omega) | (simp at y1 y2; omega))
  have x3_2 := e3.cellOf (b := w.heap.size + 2) (by first | (simp; done) | (simp; omega) | (simp at y1 ⊢; omega) | (simp at y1; omega) | (simp at y1 y2 ⊢; omega) | (simp at y1 y2; omega))
  have y3 := e3.size
  go_wp2
  refine bodyPost_ret (v := .agg #[.int .i64 a1_1, .float .f32 xqa1_2, .float .f32 xqa1_3, .float .f32 xqa1_4, .float .f32 xqa1_5, .int .i64 a2_1_1, .int .i64 a2_1_2, .slice pqa2_1_3 (List.length a2_1_3) cqa2_1_3, .int .i64 a2_2_1, .int .i64 a2_2_2, .slice pqa2_2_3 (List.length a2_2_3) cqa2_2_3, .slice pqa3_1_1 (List.length a3_1_1) cqa3_1_1, .slice pqa3_2 (List.length a3_2) cqa3_2, .int .i64 a3_3, .int .i64 a3_4, .float .f32 xqa3_5]) (by simp [results, Try.results12, go_sem, x1_0, x1_1, x1_2, x2_0, x2_1, x2_2, x3_0, x3_1, x3_2, y1, y2, y3]) rfl ?_
  generalize hW : World.setCell _ _ _ = W
  have eW : Ext w W := by subst hW; (repeat (first | with_reducible exact Ext.refl _ | with_reducible assumption | ((with_reducible refine Ext.setCell ?_ ?_ _); rotate_left; focus (first | (simp; done) | (simp; omega))) | (with_reducible refine Ext.trans ?_ (Ext.alloc _ _)) | (with_reducible refine Ext.trans ?_ (Ext.drew _)) | (with_reducible refine Ext.trans ?_ (by with_reducible assumption))))
  have ch1 : Chg (fun b => b < w.heap.size + 3) w1 W := by subst hW; (repeat (first | with_reducible exact Chg.refl _ _ | (with_reducible exact Chg.of_ext (by with_reducible assumption)) | with_reducible assumption | ((with_reducible refine Chg.setCell ?_ ?_ _); rotate_left; focus (first | (simp; done) | (simp; omega))) | (with_reducible refine Chg.alloc ?_ _) | (with_reducible refine Chg.drew ?_) | (with_reducible refine Chg.trans ?_ (Chg.of_ext (by with_reducible assumption)))))
  have owa1 : Own W shOptimizer [.int .i64 a1_1, .float .f32 xqa1_2, .float .f32 xqa1_3, .float .f32 xqa1_4, .float .f32 xqa1_5] (a1_1, a1_2, a1_3, a1_4, a1_5, a1_u) bs1 := owna1.chg ch1 (fun b hb => by have := lo1 b hb; simp at this; omega)
  have ch2 : Chg (fun b => b < w.heap.size + 3) w2 W := by subst hW; (repeat (first | with_reducible exact Chg.refl _ _ | (with_reducible exact Chg.of_ext (by with_reducible assumption)) | with_reducible assumption | ((with_reducible refine Chg.setCell ?_ ?_ _); rotate_left; focus (first | (simp; done) | (simp; omega))) | (with_reducible refine Chg.alloc ?_ _) | (with_reducible refine Chg.drew ?_) | (with_reducible refine Chg.trans ?_ (Chg.of_ext (by with_reducible assumption)))))
  have owa2 : Own W shExamples [.int .i64 a2_1_1, .int .i64 a2_1_2, .slice pqa2_1_3 (List.length a2_1_3) cqa2_1_3, .int .i64 a2_2_1, .int .i64 a2_2_2, .slice pqa2_2_3 (List.length a2_2_3) cqa2_2_3] ((a2_1_1, a2_1_2, a2_1_3, a2_1_u), (a2_2_1, a2_2_2, a2_2_3, a2_2_u), a2_u) bs2 := owna2.chg ch2 (fun b hb => by have := lo2 b hb; simp at this y1; omega)
  have ch3 : Chg (fun b => b < w.heap.size + 3) w3 W := by subst hW; (repeat (first | with_reducible exact Chg.refl _ _ | (with_reducible exact Chg.of_ext (by with_reducible assumption)) | with_reducible assumption | ((with_reducible refine Chg.setCell ?_ ?_ _); rotate_left; focus (first | (simp; done) | (simp; omega))) | (with_reducible refine Chg.alloc ?_ _) | (with_reducible refine Chg.drew ?_) | (with_reducible refine Chg.trans ?_ (Chg.of_ext (by with_reducible assumption)))))
  have owa3 : Own W shTrainState [.slice pqa3_1_1 (List.length a3_1_1) cqa3_1_1, .slice pqa3_2 (List.length a3_2) cqa3_2, .int .i64 a3_3, .int .i64 a3_4, .float .f32 xqa3_5] ((a3_1_1, a3_1_u), a3_2, a3_3, a3_4, a3_5, a3_u) bs3 := owna3.chg ch3 (fun b hb => by have := lo3 b hb; simp at this y1 y2; omega)
  refine ⟨[.int .i64 a1_1, .float .f32 xqa1_2, .float .f32 xqa1_3, .float .f32 xqa1_4, .float .f32 xqa1_5, .int .i64 a2_1_1, .int .i64 a2_1_2, .slice pqa2_1_3 (List.length a2_1_3) cqa2_1_3, .int .i64 a2_2_1, .int .i64 a2_2_2, .slice pqa2_2_3 (List.length a2_2_3) cqa2_2_3, .slice pqa3_1_1 (List.length a3_1_1) cqa3_1_1, .slice pqa3_2 (List.length a3_2) cqa3_2, .int .i64 a3_3, .int .i64 a3_4, .float .f32 xqa3_5], (bs1 ++ (bs2 ++ (bs3 ++ ([])))), rfl, (⟨[.int .i64 a1_1, .float .f32 xqa1_2, .float .f32 xqa1_3, .float .f32 xqa1_4, .float .f32 xqa1_5], [.int .i64 a2_1_1, .int .i64 a2_1_2, .slice pqa2_1_3 (List.length a2_1_3) cqa2_1_3, .int .i64 a2_2_1, .int .i64 a2_2_2, .slice pqa2_2_3 (List.length a2_2_3) cqa2_2_3, .slice pqa3_1_1 (List.length a3_1_1) cqa3_1_1, .slice pqa3_2 (List.length a3_2) cqa3_2, .int .i64 a3_3, .int .i64 a3_4, .float .f32 xqa3_5], bs1, (bs2 ++ (bs3 ++ ([]))), rfl, owa1, ⟨[.int .i64 a2_1_1, .int .i64 a2_1_2, .slice pqa2_1_3 (List.length a2_1_3) cqa2_1_3, .int .i64 a2_2_1, .int .i64 a2_2_2, .slice pqa2_2_3 (List.length a2_2_3) cqa2_2_3], [.slice pqa3_1_1 (List.length a3_1_1) cqa3_1_1, .slice pqa3_2 (List.length a3_2) cqa3_2, .int .i64 a3_3, .int .i64 a3_4, .float .f32 xqa3_5], bs2, (bs3 ++ ([])), rfl, owa2, ⟨[.slice pqa3_1_1 (List.length a3_1_1) cqa3_1_1, .slice pqa3_2 (List.length a3_2) cqa3_2, .int .i64 a3_3, .int .i64 a3_4, .float .f32 xqa3_5], [], bs3, ([]), rfl, owa3, ⟨rfl, rfl⟩, rfl⟩, rfl⟩, rfl⟩ : Own W shLab [.int .i64 a1_1, .float .f32 xqa1_2, .float .f32 xqa1_3, .float .f32 xqa1_4, .float .f32 xqa1_5, .int .i64 a2_1_1, .int .i64 a2_1_2, .slice pqa2_1_3 (List.length a2_1_3) cqa2_1_3, .int .i64 a2_2_1, .int .i64 a2_2_2, .slice pqa2_2_3 (List.length a2_2_3) cqa2_2_3, .slice pqa3_1_1 (List.length a3_1_1) cqa3_1_1, .slice pqa3_2 (List.length a3_2) cqa3_2, .int .i64 a3_3, .int .i64 a3_4, .float .f32 xqa3_5] ((a1_1, a1_2, a1_3, a1_4, a1_5, a1_u), ((a2_1_1, a2_1_2, a2_1_3, a2_1_u), (a2_2_1, a2_2_2, a2_2_3, a2_2_u), a2_u), ((a3_1_1, a3_1_u), a3_2, a3_3, a3_4, a3_5, a3_u), au) _), ?_, ?_, eW⟩
  · simp only [List.nil_append, List.append_nil]
    exact nodup_app2 w1.heap.size nd1 (nodup_app2 w2.heap.size nd2 (nd3) (owna2.lt) (fun b hb => by (have := lo3 b hb; simp at this; omega))) (owna1.lt) (fun b hb => by simp only [List.mem_append] at hb; rcases hb with hb | hb; (have := lo2 b hb; simp at this; omega); (have := lo3 b hb; simp at this y2; omega))
  · intro b hb
    simp only [List.nil_append, List.append_nil, List.mem_append] at hb
    rcases hb with hb | hb | hb
    · have := lo1 b hb; simp at this; omega
    · have := lo2 b hb; simp at this y1; omega
    · have := lo3 b hb; simp at this y1 y2; omega

theorem own_opt {w : World} {cs : List Value} {d : shOptimizer.T} {bs : List Nat} (h : Own w shOptimizer cs d bs) : bs = [] := by
  obtain ⟨_, _, b1, _, rfl, h1, ⟨_, _, b2, _, rfl, h2, ⟨_, _, b3, _, rfl, h3, ⟨_, _, b4, _, rfl, h4, ⟨_, _, b5, _, rfl, h5, ⟨_, rfl⟩, rfl⟩, rfl⟩, rfl⟩, rfl⟩, rfl⟩ := h
  have k1 := h1.2; have k2 := h2.2; have k3 := h3.2; have k4 := h4.2; have k5 := h5.2
  simp [k1, k2, k3, k4, k5]
set_option maxRecDepth 100000 in
set_option maxHeartbeats 1000000 in
theorem markLab_ok : MarkOk 27 shLab := by
  intro cs d bs k w hu hnd hk0 hk
  obtain ⟨⟨a1_1, a1_2, a1_3, a1_4, a1_5, a1_u⟩, ⟨⟨a2_1_1, a2_1_2, a2_1_3, a2_1_u⟩, ⟨a2_2_1, a2_2_2, a2_2_3, a2_2_u⟩, a2_u⟩, ⟨⟨a3_1_1, a3_1_u⟩, a3_2, a3_3, a3_4, a3_5, a3_u⟩, au⟩ := d
  obtain ⟨_, _, ba1, _, rfl, owa1, ⟨_, _, ba2, _, rfl, owa2, ⟨_, _, ba3, _, rfl, owa3, ⟨rfl, rfl⟩, rfl⟩, rfl⟩, rfl⟩ := hu
  have hua1 := owa1.rep
  obtain ⟨_, _, rfl, rfl, _, _, rfl, ⟨xa1_2, rfl, ha1_2⟩, _, _, rfl, ⟨xa1_3, rfl, ha1_3⟩, _, _, rfl, ⟨xa1_4, rfl, ha1_4⟩, _, _, rfl, ⟨xa1_5, rfl, ha1_5⟩, rfl⟩ := hua1
  simp only [List.cons_append, List.nil_append] at owa1
  have hba1 : ba1 = [] := own_opt owa1
  subst hba1
  have hua2 := owa2.rep
  obtain ⟨_, _, rfl, ⟨_, _, rfl, rfl, _, _, rfl, rfl, _, _, rfl, ha2_1_3, rfl⟩, _, _, rfl, ⟨_, _, rfl, rfl, _, _, rfl, rfl, _, _, rfl, ha2_2_3, rfl⟩, rfl⟩ := hua2
  obtain ⟨pa2_1_3, ca2_1_3, rfl, hla2_1_3⟩ := rep_val ha2_1_3
  obtain ⟨pa2_2_3, ca2_2_3, rfl, hla2_2_3⟩ := rep_val ha2_2_3
  simp only [List.cons_append, List.nil_append] at owa2
  have hua3 := owa3.rep
  obtain ⟨_, _, rfl, ⟨_, _, rfl, ha3_1_1, rfl⟩, _, _, rfl, ha3_2, _, _, rfl, rfl, _, _, rfl, rfl, _, _, rfl, ⟨xa3_5, rfl, ha3_5⟩, rfl⟩ := hua3
  obtain ⟨pa3_1_1, ca3_1_1, rfl, hla3_1_1⟩ := rep_val ha3_1_1
  obtain ⟨pa3_2, ca3_2, rfl, hla3_2⟩ := rep_val ha3_2
  simp only [List.cons_append, List.nil_append] at owa3
  simp only [List.nil_append, List.append_nil] at hnd
  simp only [ofCs, Sh.agg, List.cons_append, List.nil_append, if_true]
  have htot : tot shLab ((a1_1, a1_2, a1_3, a1_4, a1_5, a1_u), ((a2_1_1, a2_1_2, a2_1_3, a2_1_u), (a2_2_1, a2_2_2, a2_2_3, a2_2_u), a2_u), ((a3_1_1, a3_1_u), a3_2, a3_3, a3_4, a3_5, a3_u), au) = tot shExamples ((a2_1_1, a2_1_2, a2_1_3, a2_1_u), (a2_2_1, a2_2_2, a2_2_3, a2_2_u), a2_u) + tot shTrainState ((a3_1_1, a3_1_u), a3_2, a3_3, a3_4, a3_5, a3_u) := by simp only [tot]; omega
  rw [htot] at hk
  clear htot
  have B1 := mkV_bd shExamples (by decide) ((a2_1_1, a2_1_2, a2_1_3, a2_1_u), (a2_2_1, a2_2_2, a2_2_3, a2_2_u), a2_u) k
  have B2 := mkV_bd shTrainState (by decide) ((a3_1_1, a3_1_u), a3_2, a3_3, a3_4, a3_5, a3_u) (mkV shExamples ((a2_1_1, a2_1_2, a2_1_3, a2_1_u), (a2_2_1, a2_2_2, a2_2_3, a2_2_u), a2_u) k).2
  obtain ⟨nd1, hnd1, ap1, aq1⟩ := nodup_split hnd
  have nd2 := hnd1
  have lt1 := owa2.lt
  have lt2 := owa3.lt
  go_enter Try.func27, Try.ntmps27
  go_wp2_with fail
  refine (markExamples_ok [.int .i64 a2_1_1, .int .i64 a2_1_2, .slice pa2_1_3 (List.length a2_1_3) ca2_1_3, .int .i64 a2_2_1, .int .i64 a2_2_2, .slice pa2_2_3 (List.length a2_2_3) ca2_2_3] ((a2_1_1, a2_1_2, a2_1_3, a2_1_u), (a2_2_1, a2_2_2, a2_2_3, a2_2_u), a2_u) ba2 k _ (Own.ext (w := w) owa2 ?_) nd1 (by omega) (by omega)).mono ?_
  · (repeat (first | with_reducible exact Ext.refl _ | with_reducible assumption | ((with_reducible refine Ext.setCell ?_ ?_ _); rotate_left; focus (first | (simp; done) | (simp; omega))) | (with_reducible refine Ext.trans ?_ (Ext.alloc _ _)) | (with_reducible refine Ext.trans ?_ (Ext.drew _)) | (with_reducible refine Ext.trans ?_ (by with_reducible assumption))))
  rintro e w1 ⟨rfl, owa2_1, ch1⟩
  have x1_0 := ch1.cellOf (b := w.heap.size) (by first | (simp; done) | (simp; omega)) (fun h => by have := lt1 _ h; omega)
  have y1 := ch1.size
  have E0 := (fun W0 (_ : Chg (fun b => b ∈ ba2) W0 w1) (h : Ext w W0) => h) _ ch1 (by (repeat (first | with_reducible exact Ext.refl _ | with_reducible assumption | ((with_reducible refine Ext.setCell ?_ ?_ _); rotate_left; focus (first | (simp; done) | (simp; omega))) | (with_reducible refine Ext.trans ?_ (Ext.alloc _ _)) | (with_reducible refine Ext.trans ?_ (Ext.drew _)) | (with_reducible refine Ext.trans ?_ (by with_reducible assumption)))))
  have owa3_1 := (owa3.ext E0).chg ch1 (fun b hb h => aq1 b (by simp [hb]) h)
  go_wp2_with fail
  refine (markTrainState_ok [.slice pa3_1_1 (List.length a3_1_1) ca3_1_1, .slice pa3_2 (List.length a3_2) ca3_2, .int .i64 a3_3, .int .i64 a3_4, .float .f32 xa3_5] ((a3_1_1, a3_1_u), a3_2, a3_3, a3_4, a3_5, a3_u) ba3 (mkV shExamples ((a2_1_1, a2_1_2, a2_1_3, a2_1_u), (a2_2_1, a2_2_2, a2_2_3, a2_2_u), a2_u) k).2 _ (owa3_1) nd2 (by omega) (by omega)).mono ?_
  rintro e w2 ⟨rfl, owa3_2, ch2⟩
  have x2_0 := ch2.cellOf (b := w.heap.size) (by first | (simp; done) | (simp; omega) | (simp at y1 ⊢; omega) | (simp at y1; omega) | (simp at y1 ⊢; omega) | (simp at y1; omega)) (fun h => by have := lt2 _ h; omega)
  have y2 := ch2.size
  have owa2_2 := owa2_1.chg ch2 (fun b hb h => ap1 b hb (by simp [h]))
  go_wp2
  go_ret
  exact ⟨rfl, ⟨[.int .i64 a1_1, .float .f32 xa1_2, .float .f32 xa1_3, .float .f32 xa1_4, .float .f32 xa1_5], [.int .i64 a2_1_1, .int .i64 a2_1_2, .slice pa2_1_3 (List.length a2_1_3) ca2_1_3, .int .i64 a2_2_1, .int .i64 a2_2_2, .slice pa2_2_3 (List.length a2_2_3) ca2_2_3, .slice pa3_1_1 (List.length a3_1_1) ca3_1_1, .slice pa3_2 (List.length a3_2) ca3_2, .int .i64 a3_3, .int .i64 a3_4, .float .f32 xa3_5], [], (ba2 ++ (ba3 ++ ([]))), rfl, owa1, ⟨[.int .i64 a2_1_1, .int .i64 a2_1_2, .slice pa2_1_3 (List.length a2_1_3) ca2_1_3, .int .i64 a2_2_1, .int .i64 a2_2_2, .slice pa2_2_3 (List.length a2_2_3) ca2_2_3], [.slice pa3_1_1 (List.length a3_1_1) ca3_1_1, .slice pa3_2 (List.length a3_2) ca3_2, .int .i64 a3_3, .int .i64 a3_4, .float .f32 xa3_5], ba2, (ba3 ++ ([])), rfl, owa2_2, ⟨[.slice pa3_1_1 (List.length a3_1_1) ca3_1_1, .slice pa3_2 (List.length a3_2) ca3_2, .int .i64 a3_3, .int .i64 a3_4, .float .f32 xa3_5], [], ba3, [], rfl, owa3_2, ⟨rfl, rfl⟩, rfl⟩, rfl⟩, rfl⟩, ((Chg.of_ext E0).trans (ch1.mono fun b hb => by simp [hb])).trans (ch2.mono fun b hb => by simp [hb])⟩

set_option maxRecDepth 100000 in
set_option maxHeartbeats 1000000 in
theorem heldLab_ok : HeldOk 28 shLab := by
  intro cs d k w hu hk0 hk
  obtain ⟨⟨a1_1, a1_2, a1_3, a1_4, a1_5, a1_u⟩, ⟨⟨a2_1_1, a2_1_2, a2_1_3, a2_1_u⟩, ⟨a2_2_1, a2_2_2, a2_2_3, a2_2_u⟩, a2_u⟩, ⟨⟨a3_1_1, a3_1_u⟩, a3_2, a3_3, a3_4, a3_5, a3_u⟩, au⟩ := d
  have hu0 : Rep w shLab cs ((a1_1, a1_2, a1_3, a1_4, a1_5, a1_u), ((a2_1_1, a2_1_2, (mkV (.sl .flt) a2_1_3 k).1, a2_1_u), (a2_2_1, a2_2_2, (mkV (.sl .flt) a2_2_3 (mkV (.sl .flt) a2_1_3 k).2).1, a2_2_u), a2_u), (((mkV shLayerS a3_1_1 (mkV (.sl .flt) a2_2_3 (mkV (.sl .flt) a2_1_3 k).2).2).1, a3_1_u), (mkV shFloat32SS a3_2 (mkV shLayerS a3_1_1 (mkV (.sl .flt) a2_2_3 (mkV (.sl .flt) a2_1_3 k).2).2).2).1, a3_3, a3_4, a3_5, a3_u), au) := hu
  clear hu
  obtain ⟨_, _, rfl, ha1, _, _, rfl, ha2, _, _, rfl, ha3, rfl⟩ := hu0
  have ga1 := ha1
  obtain ⟨_, _, rfl, rfl, _, _, rfl, ⟨xza1_2, rfl, hza1_2⟩, _, _, rfl, ⟨xza1_3, rfl, hza1_3⟩, _, _, rfl, ⟨xza1_4, rfl, hza1_4⟩, _, _, rfl, ⟨xza1_5, rfl, hza1_5⟩, rfl⟩ := ga1
  simp only [List.cons_append, List.nil_append] at ha1
  have ga2 := ha2
  obtain ⟨_, _, rfl, ⟨_, _, rfl, rfl, _, _, rfl, rfl, _, _, rfl, hza2_1_3, rfl⟩, _, _, rfl, ⟨_, _, rfl, rfl, _, _, rfl, rfl, _, _, rfl, hza2_2_3, rfl⟩, rfl⟩ := ga2
  obtain ⟨pza2_1_3, cza2_1_3, rfl, hlza2_1_3⟩ := rep_val hza2_1_3
  obtain ⟨pza2_2_3, cza2_2_3, rfl, hlza2_2_3⟩ := rep_val hza2_2_3
  simp only [List.cons_append, List.nil_append] at ha2
  have ga3 := ha3
  obtain ⟨_, _, rfl, ⟨_, _, rfl, hza3_1_1, rfl⟩, _, _, rfl, hza3_2, _, _, rfl, rfl, _, _, rfl, rfl, _, _, rfl, ⟨xza3_5, rfl, hza3_5⟩, rfl⟩ := ga3
  obtain ⟨pza3_1_1, cza3_1_1, rfl, hlza3_1_1⟩ := rep_val hza3_1_1
  obtain ⟨pza3_2, cza3_2, rfl, hlza3_2⟩ := rep_val hza3_2
  simp only [List.cons_append, List.nil_append] at ha3
  simp only [ofCs, Sh.agg, List.cons_append, List.nil_append, if_true]
  have htot : tot shLab ((a1_1, a1_2, a1_3, a1_4, a1_5, a1_u), ((a2_1_1, a2_1_2, a2_1_3, a2_1_u), (a2_2_1, a2_2_2, a2_2_3, a2_2_u), a2_u), ((a3_1_1, a3_1_u), a3_2, a3_3, a3_4, a3_5, a3_u), au) = tot shExamples ((a2_1_1, a2_1_2, a2_1_3, a2_1_u), (a2_2_1, a2_2_2, a2_2_3, a2_2_u), a2_u) + tot shTrainState ((a3_1_1, a3_1_u), a3_2, a3_3, a3_4, a3_5, a3_u) := by simp only [tot]; omega
  rw [htot] at hk
  clear htot
  have B1 := mkV_bd shExamples (by decide) ((a2_1_1, a2_1_2, a2_1_3, a2_1_u), (a2_2_1, a2_2_2, a2_2_3, a2_2_u), a2_u) k
  have hz1 : 0 ≤ (mkV shExamples ((a2_1_1, a2_1_2, a2_1_3, a2_1_u), (a2_2_1, a2_2_2, a2_2_3, a2_2_u), a2_u) k).2 := by omega
  have B2 := mkV_bd shTrainState (by decide) ((a3_1_1, a3_1_u), a3_2, a3_3, a3_4, a3_5, a3_u) (mkV shExamples ((a2_1_1, a2_1_2, a2_1_3, a2_1_u), (a2_2_1, a2_2_2, a2_2_3, a2_2_u), a2_u) k).2
  have hz2 : 0 ≤ (mkV shTrainState ((a3_1_1, a3_1_u), a3_2, a3_3, a3_4, a3_5, a3_u) (mkV shExamples ((a2_1_1, a2_1_2, a2_1_3, a2_1_u), (a2_2_1, a2_2_2, a2_2_3, a2_2_u), a2_u) k).2).2 := by omega
  go_enter Try.func28, Try.ntmps28
  go_wp2_with fail
  refine (heldExamples_ok [.int .i64 a2_1_1, .int .i64 a2_1_2, .slice pza2_1_3 (List.length (mkV (.sl .flt) a2_1_3 k).1) cza2_1_3, .int .i64 a2_2_1, .int .i64 a2_2_2, .slice pza2_2_3 (List.length (mkV (.sl .flt) a2_2_3 (mkV (.sl .flt) a2_1_3 k).2).1) cza2_2_3] ((a2_1_1, a2_1_2, a2_1_3, a2_1_u), (a2_2_1, a2_2_2, a2_2_3, a2_2_u), a2_u) k _ (Rep.ext (w := w) ?_ ha2) (by omega) (by omega)).mono ?_
  · (repeat (first | with_reducible exact Ext.refl _ | with_reducible assumption | ((with_reducible refine Ext.setCell ?_ ?_ _); rotate_left; focus (first | (simp; done) | (simp; omega))) | (with_reducible refine Ext.trans ?_ (Ext.alloc _ _)) | (with_reducible refine Ext.trans ?_ (Ext.drew _)) | (with_reducible refine Ext.trans ?_ (by with_reducible assumption))))
  rintro e w1 ⟨rfl, e1⟩
  have x1_0 := e1.cellOf (b := w.heap.size) (by first | (simp; done) | (simp; omega))
  have y1 := e1.size
  go_wp2_with fail
  refine (heldTrainState_ok [.slice pza3_1_1 (List.length (mkV shLayerS a3_1_1 (mkV shExamples ((a2_1_1, a2_1_2, a2_1_3, a2_1_u), (a2_2_1, a2_2_2, a2_2_3, a2_2_u), a2_u) k).2).1) cza3_1_1, .slice pza3_2 (List.length (mkV shFloat32SS a3_2 (mkV shLayerS a3_1_1 (mkV shExamples ((a2_1_1, a2_1_2, a2_1_3, a2_1_u), (a2_2_1, a2_2_2, a2_2_3, a2_2_u), a2_u) k).2).2).1) cza3_2, .int .i64 a3_3, .int .i64 a3_4, .float .f32 xza3_5] ((a3_1_1, a3_1_u), a3_2, a3_3, a3_4, a3_5, a3_u) (mkV shExamples ((a2_1_1, a2_1_2, a2_1_3, a2_1_u), (a2_2_1, a2_2_2, a2_2_3, a2_2_u), a2_u) k).2 _ (Rep.ext (w := w) ?_ ha3) (by omega) (by omega)).mono ?_
  · (repeat (first | with_reducible exact Ext.refl _ | with_reducible assumption | ((with_reducible refine Ext.setCell ?_ ?_ _); rotate_left; focus (first | (simp; done) | (simp; omega))) | (with_reducible refine Ext.trans ?_ (Ext.alloc _ _)) | (with_reducible refine Ext.trans ?_ (Ext.drew _)) | (with_reducible refine Ext.trans ?_ (by with_reducible assumption))))
  rintro e w2 ⟨rfl, e2⟩
  have x2_0 := e2.cellOf (b := w.heap.size) (by first | (simp; done) | (simp; omega) | (simp at y1 ⊢; omega) | (simp at y1; omega) | (simp at y1 ⊢; omega) | (simp at y1; omega))
  have y2 := e2.size
  go_wp2
  go_ret
  refine ⟨rfl, ?_⟩
  (repeat (first | with_reducible exact Ext.refl _ | with_reducible assumption | ((with_reducible refine Ext.setCell ?_ ?_ _); rotate_left; focus (first | (simp; done) | (simp; omega))) | (with_reducible refine Ext.trans ?_ (Ext.alloc _ _)) | (with_reducible refine Ext.trans ?_ (Ext.drew _)) | (with_reducible refine Ext.trans ?_ (by with_reducible assumption))))
end Go.Proofs.Ytbdcjhhphkckcaa
