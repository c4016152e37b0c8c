/- The harness on structs: PlanStep. -/
import Derived.Test.YtangnigplachdaaKb
import Derived.Test.YtangnigplachdaaKa
namespace Go.Proofs.Ytangnigplachdaa
set_option linter.unusedSimpArgs false
set_option linter.unusedVariables false
open Go.RowKit

abbrev shPlanStep : Sh := .pr .int (.pr .int (.pr .int (.pr (.sl .flt) (.pr (.sl .flt) (.pr (.sl .flt) (.pr .bool (.un)))))))
theorem fo_implPlanStep_0 (q : Addr) (w : World) : (Instr.fieldAt 159 (.pointer (some q)) 0).run Try.prog w = .ok (.pointer (some (q.add 0))) w := by go_simp
theorem fo_implPlanStep_1 (q : Addr) (w : World) : (Instr.fieldAt 159 (.pointer (some q)) 1).run Try.prog w = .ok (.pointer (some (q.add 1))) w := by go_simp
theorem fo_implPlanStep_2 (q : Addr) (w : World) : (Instr.fieldAt 159 (.pointer (some q)) 2).run Try.prog w = .ok (.pointer (some (q.add 2))) w := by go_simp
theorem fo_implPlanStep_3 (q : Addr) (w : World) : (Instr.fieldAt 159 (.pointer (some q)) 3).run Try.prog w = .ok (.pointer (some (q.add 3))) w := by go_simp
theorem fo_implPlanStep_4 (q : Addr) (w : World) : (Instr.fieldAt 159 (.pointer (some q)) 4).run Try.prog w = .ok (.pointer (some (q.add 4))) w := by go_simp
theorem fo_implPlanStep_5 (q : Addr) (w : World) : (Instr.fieldAt 159 (.pointer (some q)) 5).run Try.prog w = .ok (.pointer (some (q.add 5))) w := by go_simp
theorem fo_implPlanStep_6 (q : Addr) (w : World) : (Instr.fieldAt 159 (.pointer (some q)) 6).run Try.prog w = .ok (.pointer (some (q.add 6))) w := by go_simp
instance elStPlanStepimpl : ElTy Try.prog 159 shPlanStep := ⟨by kernel_rfl, by kernel_rfl⟩
theorem fo_lawsPlanStep_0 (q : Addr) (w : World) : (Instr.fieldAt 193 (.pointer (some q)) 0).run Try.prog w = .ok (.pointer (some (q.add 0))) w := by go_simp
theorem fo_lawsPlanStep_1 (q : Addr) (w : World) : (Instr.fieldAt 193 (.pointer (some q)) 1).run Try.prog w = .ok (.pointer (some (q.add 1))) w := by go_simp
theorem fo_lawsPlanStep_2 (q : Addr) (w : World) : (Instr.fieldAt 193 (.pointer (some q)) 2).run Try.prog w = .ok (.pointer (some (q.add 2))) w := by go_simp
theorem fo_lawsPlanStep_3 (q : Addr) (w : World) : (Instr.fieldAt 193 (.pointer (some q)) 3).run Try.prog w = .ok (.pointer (some (q.add 3))) w := by go_simp
theorem fo_lawsPlanStep_4 (q : Addr) (w : World) : (Instr.fieldAt 193 (.pointer (some q)) 4).run Try.prog w = .ok (.pointer (some (q.add 4))) w := by go_simp
theorem fo_lawsPlanStep_5 (q : Addr) (w : World) : (Instr.fieldAt 193 (.pointer (some q)) 5).run Try.prog w = .ok (.pointer (some (q.add 5))) w := by go_simp
theorem fo_lawsPlanStep_6 (q : Addr) (w : World) : (Instr.fieldAt 193 (.pointer (some q)) 6).run Try.prog w = .ok (.pointer (some (q.add 6))) w := by go_simp
instance elStPlanSteplaws : ElTy Try.prog 193 shPlanStep := ⟨by kernel_rfl, by kernel_rfl⟩

set_option maxRecDepth 100000 in
set_option maxHeartbeats 1000000 in
theorem eqPlanStep_ok : EqOk 160 shPlanStep := by
  intro cs cs' d w hu hv hn
  obtain ⟨a1, a2, a3, a4, a5, a6, a7, au⟩ := d
  obtain ⟨_, _, rfl, rfl, _, _, rfl, rfl, _, _, rfl, rfl, _, _, rfl, ha4, _, _, rfl, ha5, _, _, rfl, ha6, _, _, rfl, rfl, rfl⟩ := hu
  obtain ⟨pa4, ca4, rfl, hla4⟩ := rep_val ha4
  obtain ⟨pa5, ca5, rfl, hla5⟩ := rep_val ha5
  obtain ⟨pa6, ca6, rfl, hla6⟩ := rep_val ha6
  obtain ⟨_, _, rfl, rfl, _, _, rfl, rfl, _, _, rfl, rfl, _, _, rfl, hqa4, _, _, rfl, hqa5, _, _, rfl, hqa6, _, _, rfl, rfl, rfl⟩ := hv
  obtain ⟨pqa4, cqa4, rfl, hlqa4⟩ := rep_val hqa4
  obtain ⟨pqa5, cqa5, rfl, hlqa5⟩ := rep_val hqa5
  obtain ⟨pqa6, cqa6, rfl, hlqa6⟩ := rep_val hqa6
  have hba4 : tot (.sl .flt) a4 ≤ 1048576 := by simp only [tot] at hn ⊢; omega
  have hba5 : tot (.sl .flt) a5 ≤ 1048576 := by simp only [tot] at hn ⊢; omega
  have hba6 : tot (.sl .flt) a6 ≤ 1048576 := by simp only [tot] at hn ⊢; omega
  simp only [ofCs, Sh.agg, List.cons_append, List.nil_append, if_true]
  go_enter Try.func160, Try.ntmps160
  go_wp2_with fail
  refine (eqFloat32S_ok [.slice pa4 (List.length a4) ca4] [.slice pqa4 (List.length a4) cqa4] a4 _ (Rep.ext (w := w) ?_ (ha4 : Rep w (.sl .flt) [.slice pa4 (List.length a4) ca4] a4)) (Rep.ext (w := w) ?_ (hqa4 : Rep w (.sl .flt) [.slice pqa4 (List.length a4) cqa4] a4)) hba4).mono ?_
  · (repeat (first | with_reducible exact Ext.refl _ | with_reducible assumption | ((with_reducible refine Ext.setCell ?_ ?_ _); rotate_left; focus (first | (simp; done) | (simp; omega))) | (with_reducible refine Ext.trans ?_ (Ext.alloc _ _)) | (with_reducible refine Ext.trans ?_ (Ext.drew _)) | (with_reducible refine Ext.trans ?_ (by with_reducible assumption))))
  · (repeat (first | with_reducible exact Ext.refl _ | with_reducible assumption | ((with_reducible refine Ext.setCell ?_ ?_ _); rotate_left; focus (first | (simp; done) | (simp; omega))) | (with_reducible refine Ext.trans ?_ (Ext.alloc _ _)) | (with_reducible refine Ext.trans ?_ (Ext.drew _)) | (with_reducible refine Ext.trans ?_ (by with_reducible assumption))))
  rintro e w1 ⟨rfl, e1⟩
  have x1_0 := e1.cellOf (b := w.heap.size) (by first | (simp; done) | (simp; omega))
  have x1_1 := e1.cellOf (b := w.heap.size + 1) (by first | (simp; done) | (simp; omega))
  have y1 := e1.size
  go_wp2_with fail
  refine (eqFloat32S_ok [.slice pa5 (List.length a5) ca5] [.slice pqa5 (List.length a5) cqa5] a5 _ (Rep.ext (w := w) ?_ (ha5 : Rep w (.sl .flt) [.slice pa5 (List.length a5) ca5] a5)) (Rep.ext (w := w) ?_ (hqa5 : Rep w (.sl .flt) [.slice pqa5 (List.length a5) cqa5] a5)) hba5).mono ?_
  · (repeat (first | with_reducible exact Ext.refl _ | with_reducible assumption | ((with_reducible refine Ext.setCell ?_ ?_ _); rotate_left; focus (first | (simp; done) | (simp; omega))) | (with_reducible refine Ext.trans ?_ (Ext.alloc _ _)) | (with_reducible refine Ext.trans ?_ (Ext.drew _)) | (with_reducible refine Ext.trans ?_ (by with_reducible assumption))))
  · (repeat (first | with_reducible exact Ext.refl _ | with_reducible assumption | ((with_reducible refine Ext.setCell ?_ ?_ _); rotate_left; focus (first | (simp; done) | (simp; omega))) | (with_reducible refine Ext.trans ?_ (Ext.alloc _ _)) | (with_reducible refine Ext.trans ?_ (Ext.drew _)) | (with_reducible refine Ext.trans ?_ (by with_reducible assumption))))
  rintro e w2 ⟨rfl, e2⟩
  have x2_0 := e2.cellOf (b := w.heap.size) (by first | (simp; done) | (simp; omega) | (simp at y1 ⊢; omega) | (simp at y1; omega) | (simp at y1 ⊢; omega) | (simp at y1; omega))
  have x2_1 := e2.cellOf (b := w.heap.size + 1) (by first | (simp; done) | (simp; omega) | (simp at y1 ⊢; omega) | (simp at y1; omega) | (simp at y1 ⊢; omega) | (simp at y1; omega))
  have y2 := e2.size
  go_wp2_with fail
  refine (eqFloat32S_ok [.slice pa6 (List.length a6) ca6] [.slice pqa6 (List.length a6) cqa6] a6 _ (Rep.ext (w := w) ?_ (ha6 : Rep w (.sl .flt) [.slice pa6 (List.length a6) ca6] a6)) (Rep.ext (w := w) ?_ (hqa6 : Rep w (.sl .flt) [.slice pqa6 (List.length a6) cqa6] a6)) hba6).mono ?_
  · (repeat (first | with_reducible exact Ext.refl _ | with_reducible assumption | ((with_reducible refine Ext.setCell ?_ ?_ _); rotate_left; focus (first | (simp; done) | (simp; omega))) | (with_reducible refine Ext.trans ?_ (Ext.alloc _ _)) | (with_reducible refine Ext.trans ?_ (Ext.drew _)) | (with_reducible refine Ext.trans ?_ (by with_reducible assumption))))
  · (repeat (first | with_reducible exact Ext.refl _ | with_reducible assumption | ((with_reducible refine Ext.setCell ?_ ?_ _); rotate_left; focus (first | (simp; done) | (simp; omega))) | (with_reducible refine Ext.trans ?_ (Ext.alloc _ _)) | (with_reducible refine Ext.trans ?_ (Ext.drew _)) | (with_reducible refine Ext.trans ?_ (by with_reducible assumption))))
  rintro e w3 ⟨rfl, e3⟩
  have x3_0 := e3.cellOf (b := w.heap.size) (by first | (simp; done) | (simp; omega) | (simp at y1 ⊢; omega) | (simp at y1; omega) | (simp at y1 y2 ⊢; omega) | (simp at y1 y2; omega))
  have x3_1 := e3.cellOf (b := w.heap.size + 1) (by first | (simp; done) | (simp; omega) | (simp at y1 ⊢; omega) | (simp at y1; omega) | (simp at y1 y2 ⊢; omega) | (simp at y1 y2; omega))
  have y3 := e3.size
  go_wp2
  go_ret
  refine ⟨rfl, ?_⟩
  (repeat (first | with_reducible exact Ext.refl _ | with_reducible assumption | ((with_reducible refine Ext.setCell ?_ ?_ _); rotate_left; focus (first | (simp; done) | (simp; omega))) | (with_reducible refine Ext.trans ?_ (Ext.alloc _ _)) | (with_reducible refine Ext.trans ?_ (Ext.drew _)) | (with_reducible refine Ext.trans ?_ (by with_reducible assumption))))

set_option maxRecDepth 100000 in
set_option maxHeartbeats 1000000 in
theorem szPlanStep_ok : SzOk 151 shPlanStep := by
  intro cs d left w hu hl0 hl1
  obtain ⟨a1, a2, a3, a4, a5, a6, a7, au⟩ := d
  obtain ⟨_, _, rfl, rfl, _, _, rfl, rfl, _, _, rfl, rfl, _, _, rfl, ha4, _, _, rfl, ha5, _, _, rfl, ha6, _, _, rfl, rfl, rfl⟩ := hu
  obtain ⟨pa4, ca4, rfl, hla4⟩ := rep_val ha4
  obtain ⟨pa5, ca5, rfl, hla5⟩ := rep_val ha5
  obtain ⟨pa6, ca6, rfl, hla6⟩ := rep_val ha6
  simp only [ofCs, Sh.agg, List.cons_append, List.nil_append, if_true]
  generalize hT : tot shPlanStep (a1, a2, a3, a4, a5, a6, a7, au) = T
  have HT := hid hT
  clear hT
  go_enter Try.func151, Try.ntmps151
  go_wp2_with fail
  refine (szFloat32S_ok [.slice pa4 (List.length a4) ca4] a4 left _ (Rep.ext (w := w) ?_ (ha4 : Rep w (.sl .flt) [.slice pa4 (List.length a4) ca4] a4)) (by omega) (by omega)).mono ?_
  · (repeat (first | with_reducible exact Ext.refl _ | with_reducible assumption | ((with_reducible refine Ext.setCell ?_ ?_ _); rotate_left; focus (first | (simp; done) | (simp; omega))) | (with_reducible refine Ext.trans ?_ (Ext.alloc _ _)) | (with_reducible refine Ext.trans ?_ (Ext.drew _)) | (with_reducible refine Ext.trans ?_ (by with_reducible assumption))))
  rintro e w1 ⟨⟨r1, rfl, hr1⟩, e1⟩
  have x1_0 := e1.cellOf (b := w.heap.size) (by first | (simp; done) | (simp; omega))
  have y1 := e1.size
  by_cases hn1 : r1 < 0
  · go_wp2
    go_ret
    refine ⟨⟨-1, rfl, .inl (by omega)⟩, ?_⟩
    (repeat (first | with_reducible exact Ext.refl _ | with_reducible assumption | ((with_reducible refine Ext.setCell ?_ ?_ _); rotate_left; focus (first | (simp; done) | (simp; omega))) | (with_reducible refine Ext.trans ?_ (Ext.alloc _ _)) | (with_reducible refine Ext.trans ?_ (Ext.drew _)) | (with_reducible refine Ext.trans ?_ (by with_reducible assumption))))
  have hq1 : r1 = left - (tot (.sl .flt) a4 : Int) := by rcases hr1 with h | h; exact absurd h hn1; exact h.1
  have Hq1 := hid hq1
  have hz1 : 0 ≤ r1 := by omega
  have ht1 : r1 ≤ 1048576 := by omega
  clear hr1 hq1
  go_wp2_with fail
  refine (szFloat32S_ok [.slice pa5 (List.length a5) ca5] a5 r1 _ (Rep.ext (w := w) ?_ (ha5 : Rep w (.sl .flt) [.slice pa5 (List.length a5) ca5] a5)) (by omega) (by omega)).mono ?_
  · (repeat (first | with_reducible exact Ext.refl _ | with_reducible assumption | ((with_reducible refine Ext.setCell ?_ ?_ _); rotate_left; focus (first | (simp; done) | (simp; omega))) | (with_reducible refine Ext.trans ?_ (Ext.alloc _ _)) | (with_reducible refine Ext.trans ?_ (Ext.drew _)) | (with_reducible refine Ext.trans ?_ (by with_reducible assumption))))
  rintro e w2 ⟨⟨r2, rfl, hr2⟩, e2⟩
  have x2_0 := e2.cellOf (b := w.heap.size) (by first | (simp; done) | (simp; omega) | (simp at y1 ⊢; omega) | (simp at y1; omega) | (simp at y1 ⊢; omega) | (simp at y1; omega))
  have y2 := e2.size
  by_cases hn2 : r2 < 0
  · go_wp2
    go_ret
    refine ⟨⟨-1, rfl, .inl (by omega)⟩, ?_⟩
    (repeat (first | with_reducible exact Ext.refl _ | with_reducible assumption | ((with_reducible refine Ext.setCell ?_ ?_ _); rotate_left; focus (first | (simp; done) | (simp; omega))) | (with_reducible refine Ext.trans ?_ (Ext.alloc _ _)) | (with_reducible refine Ext.trans ?_ (Ext.drew _)) | (with_reducible refine Ext.trans ?_ (by with_reducible assumption))))
  have hq2 : r2 = r1 - (tot (.sl .flt) a5 : Int) := by rcases hr2 with h | h; exact absurd h hn2; exact h.1
  have Hq2 := hid hq2
  have hz2 : 0 ≤ r2 := by omega
  have ht2 : r2 ≤ 1048576 := by omega
  clear hr2 hq2
  go_wp2_with fail
  refine (szFloat32S_ok [.slice pa6 (List.length a6) ca6] a6 r2 _ (Rep.ext (w := w) ?_ (ha6 : Rep w (.sl .flt) [.slice pa6 (List.length a6) ca6] a6)) (by omega) (by omega)).mono ?_
  · (repeat (first | with_reducible exact Ext.refl _ | with_reducible assumption | ((with_reducible refine Ext.setCell ?_ ?_ _); rotate_left; focus (first | (simp; done) | (simp; omega))) | (with_reducible refine Ext.trans ?_ (Ext.alloc _ _)) | (with_reducible refine Ext.trans ?_ (Ext.drew _)) | (with_reducible refine Ext.trans ?_ (by with_reducible assumption))))
  rintro e w3 ⟨⟨r3, rfl, hr3⟩, e3⟩
  have x3_0 := e3.cellOf (b := w.heap.size) (by first | (simp; done) | (simp; omega) | (simp at y1 ⊢; omega) | (simp at y1; omega) | (simp at y1 y2 ⊢; omega) | (simp at y1 y2; omega))
  have y3 := e3.size
  by_cases hn3 : r3 < 0
  · go_wp2
    go_ret
    refine ⟨⟨-1, rfl, .inl (by omega)⟩, ?_⟩
    (repeat (first | with_reducible exact Ext.refl _ | with_reducible assumption | ((with_reducible refine Ext.setCell ?_ ?_ _); rotate_left; focus (first | (simp; done) | (simp; omega))) | (with_reducible refine Ext.trans ?_ (Ext.alloc _ _)) | (with_reducible refine Ext.trans ?_ (Ext.drew _)) | (with_reducible refine Ext.trans ?_ (by with_reducible assumption))))
  have hq3 : r3 = r2 - (tot (.sl .flt) a6 : Int) := by rcases hr3 with h | h; exact absurd h hn3; exact h.1
  have Hq3 := hid hq3
  have hz3 : 0 ≤ r3 := by omega
  have ht3 : r3 ≤ 1048576 := by omega
  clear hr3 hq3
  go_wp2
  go_ret
  refine ⟨⟨_, rfl, .inr ⟨?_, by omega⟩⟩, ?_⟩
  · have h0 := HT.out
    simp only [tot] at h0
    have h1 := Hq1.out
    simp only [tot] at h1
    have h2 := Hq2.out
    simp only [tot] at h2
    have h3 := Hq3.out
    simp only [tot] at h3
    omega
  · (repeat (first | with_reducible exact Ext.refl _ | with_reducible assumption | ((with_reducible refine Ext.setCell ?_ ?_ _); rotate_left; focus (first | (simp; done) | (simp; omega))) | (with_reducible refine Ext.trans ?_ (Ext.alloc _ _)) | (with_reducible refine Ext.trans ?_ (Ext.drew _)) | (with_reducible refine Ext.trans ?_ (by with_reducible assumption))))

set_option maxRecDepth 100000 in
set_option maxHeartbeats 1000000 in
theorem toPlanStep_ok : ToOk 155 shPlanStep := by
  intro cs d w hu hn
  obtain ⟨a1, a2, a3, a4, a5, a6, a7, au⟩ := d
  obtain ⟨_, _, rfl, rfl, _, _, rfl, rfl, _, _, rfl, rfl, _, _, rfl, ha4, _, _, rfl, ha5, _, _, rfl, ha6, _, _, rfl, rfl, rfl⟩ := hu
  obtain ⟨pa4, ca4, rfl, hla4⟩ := rep_val ha4
  obtain ⟨pa5, ca5, rfl, hla5⟩ := rep_val ha5
  obtain ⟨pa6, ca6, rfl, hla6⟩ := rep_val ha6
  have hba4 : tot (.sl .flt) a4 ≤ 1048576 := by simp only [tot] at hn ⊢; omega
  have hba5 : tot (.sl .flt) a5 ≤ 1048576 := by simp only [tot] at hn ⊢; omega
  have hba6 : tot (.sl .flt) a6 ≤ 1048576 := by simp only [tot] at hn ⊢; omega
  simp only [ofCs, Sh.agg, List.cons_append, List.nil_append, if_true]
  go_enter Try.func155, Try.ntmps155
  go_wp2_with fail
  refine (toFloat32S_ok [.slice pa4 (List.length a4) ca4] a4 _ (Rep.ext (w := w) ?_ (ha4 : Rep w (.sl .flt) [.slice pa4 (List.length a4) ca4] a4)) hba4).mono ?_
  · (repeat (first | with_reducible exact Ext.refl _ | with_reducible assumption | ((with_reducible refine Ext.setCell ?_ ?_ _); rotate_left; focus (first | (simp; done) | (simp; omega))) | (with_reducible refine Ext.trans ?_ (Ext.alloc _ _)) | (with_reducible refine Ext.trans ?_ (Ext.drew _)) | (with_reducible refine Ext.trans ?_ (by with_reducible assumption))))
  rintro e w1 ⟨cs1, bs1, rfl, owna4, nd1, lo1, e1⟩
  obtain ⟨pqa4, cqa4, rfl, glqa4⟩ := rep_val owna4.rep
  have hqa4 := owna4.rep
  simp only [ofCs, Sh.agg, List.headD_cons, Bool.false_eq_true, if_false]
  have x1_0 := e1.cellOf (b := w.heap.size) (by first | (simp; done) | (simp; omega))
  have x1_1 := e1.cellOf (b := w.heap.size + 1) (by first | (simp; done) | (simp; omega))
  have x1_2 := e1.cellOf (b := w.heap.size + 2) (by first | (simp; done) | (simp; omega))
  have y1 := e1.size
  go_wp2_with fail
  refine (toFloat32S_ok [.slice pa5 (List.length a5) ca5] a5 _ (Rep.ext (w := w) ?_ (ha5 : Rep w (.sl .flt) [.slice pa5 (List.length a5) ca5] a5)) hba5).mono ?_
  · (repeat (first | with_reducible exact Ext.refl _ | with_reducible assumption | ((with_reducible refine Ext.setCell ?_ ?_ _); rotate_left; focus (first | (simp; done) | (simp; omega))) | (with_reducible refine Ext.trans ?_ (Ext.alloc _ _)) | (with_reducible refine Ext.trans ?_ (Ext.drew _)) | (with_reducible refine Ext.trans ?_ (by with_reducible assumption))))
  rintro e w2 ⟨cs2, bs2, rfl, owna5, nd2, lo2, e2⟩
  obtain ⟨pqa5, cqa5, rfl, glqa5⟩ := rep_val owna5.rep
  have hqa5 := owna5.rep
  simp only [ofCs, Sh.agg, List.headD_cons, Bool.false_eq_true, if_false]
  have x2_0 := e2.cellOf (b := w.heap.size) (by first | (simp; done) | (simp; omega) | (simp at y1 ⊢; omega) | (simp at y1; omega) | (simp at y1 ⊢; omega) | (simp at y1; omega))
  have x2_1 := e2.cellOf (b := w.heap.size + 1) (by first | (simp; done) | (simp; omega) | (simp at y1 ⊢; omega) | (simp at y1; omega) | (simp at y1 ⊢; omega) | (simp at y1; omega))
  have x2_2 := e2.cellOf (b := w.heap.size + 2) (by first | (simp; done) | (simp; omega) | (simp at y1 ⊢; omega) | (simp at y1; omega) | (simp at y1 ⊢; omega) | (simp at y1; omega))
  have y2 := e2.size
  go_wp2_with fail
  refine (toFloat32S_ok [.slice pa6 (List.length a6) ca6] a6 _ (Rep.ext (w := w) ?_ (ha6 : Rep w (.sl .flt) [.slice pa6 (List.length a6) ca6] a6)) hba6).mono ?_
  · (repeat (first | with_reducible exact Ext.refl _ | with_reducible assumption | ((with_reducible refine Ext.setCell ?_ ?_ _); rotate_left; focus (first | (simp; done) | (simp; omega))) | (with_reducible refine Ext.trans ?_ (Ext.alloc _ _)) | (with_reducible refine Ext.trans ?_ (Ext.drew _)) | (with_reducible refine Ext.trans ?_ (by with_reducible assumption))))
  rintro e w3 ⟨cs3, bs3, rfl, owna6, nd3, lo3, e3⟩
  obtain ⟨pqa6, cqa6, rfl, glqa6⟩ := rep_val owna6.rep
  have hqa6 := owna6.rep
  simp only [ofCs, Sh.agg, List.headD_cons, Bool.false_eq_true, if_false]
  have x3_0 := e3.cellOf (b := w.heap.size) (by first | (simp; done) | (simp; omega) | (simp at y1 ⊢; omega) | (simp at y1; omega) | (simp at y1 y2 ⊢; omega) | (simp at y1 y2; omega))
  have x3_1 := e3.cellOf (b := w.heap.size + 1) (by first | (simp; done) | (simp; omega) | (simp at y1 ⊢; omega) | (simp at y1; omega) | (simp at y1 y2 ⊢; omega) | (simp at y1 y2; omega))
  have x3_2 := e3.cellOf (b := w.heap.size + 2) (by first | (simp; done) | (simp; omega) | (simp at y1 ⊢; omega) | (simp at y1; omega) | (simp at y1 y2 ⊢; omega) | (simp at y1 y2; omega))
  have y3 := e3.size
  go_wp2
  refine bodyPost_ret (v := .agg #[.int .i64 a1, .int .i64 a2, .int .i64 a3, .slice pqa4 (List.length a4) cqa4, .slice pqa5 (List.length a5) cqa5, .slice pqa6 (List.length a6) cqa6, .bool a7]) (by simp [results, Try.results155, go_sem, x1_0, x1_1, x1_2, x2_0, x2_1, x2_2, x3_0, x3_1, x3_2, y1, y2, y3]) rfl ?_
  generalize hW : World.setCell _ _ _ = W
  have eW : Ext w W := by subst hW; (repeat (first | with_reducible exact Ext.refl _ | with_reducible assumption | ((with_reducible refine Ext.setCell ?_ ?_ _); rotate_left; focus (first | (simp; done) | (simp; omega))) | (with_reducible refine Ext.trans ?_ (Ext.alloc _ _)) | (with_reducible refine Ext.trans ?_ (Ext.drew _)) | (with_reducible refine Ext.trans ?_ (by with_reducible assumption))))
  have ch1 : Chg (fun b => b < w.heap.size + 3) w1 W := by subst hW; (repeat (first | with_reducible exact Chg.refl _ _ | (with_reducible exact Chg.of_ext (by with_reducible assumption)) | with_reducible assumption | ((with_reducible refine Chg.setCell ?_ ?_ _); rotate_left; focus (first | (simp; done) | (simp; omega))) | (with_reducible refine Chg.alloc ?_ _) | (with_reducible refine Chg.drew ?_) | (with_reducible refine Chg.trans ?_ (Chg.of_ext (by with_reducible assumption)))))
  have owa4 : Own W (.sl .flt) [.slice pqa4 (List.length a4) cqa4] a4 bs1 := owna4.chg ch1 (fun b hb => by have := lo1 b hb; simp at this; omega)
  have ch2 : Chg (fun b => b < w.heap.size + 3) w2 W := by subst hW; (repeat (first | with_reducible exact Chg.refl _ _ | (with_reducible exact Chg.of_ext (by with_reducible assumption)) | with_reducible assumption | ((with_reducible refine Chg.setCell ?_ ?_ _); rotate_left; focus (first | (simp; done) | (simp; omega))) | (with_reducible refine Chg.alloc ?_ _) | (with_reducible refine Chg.drew ?_) | (with_reducible refine Chg.trans ?_ (Chg.of_ext (by with_reducible assumption)))))
  have owa5 : Own W (.sl .flt) [.slice pqa5 (List.length a5) cqa5] a5 bs2 := owna5.chg ch2 (fun b hb => by have := lo2 b hb; simp at this y1; omega)
  have ch3 : Chg (fun b => b < w.heap.size + 3) w3 W := by subst hW; (repeat (first | with_reducible exact Chg.refl _ _ | (with_reducible exact Chg.of_ext (by with_reducible assumption)) | with_reducible assumption | ((with_reducible refine Chg.setCell ?_ ?_ _); rotate_left; focus (first | (simp; done) | (simp; omega))) | (with_reducible refine Chg.alloc ?_ _) | (with_reducible refine Chg.drew ?_) | (with_reducible refine Chg.trans ?_ (Chg.of_ext (by with_reducible assumption)))))
  have owa6 : Own W (.sl .flt) [.slice pqa6 (List.length a6) cqa6] a6 bs3 := owna6.chg ch3 (fun b hb => by have := lo3 b hb; simp at this y1 y2; omega)
  refine ⟨[.int .i64 a1, .int .i64 a2, .int .i64 a3, .slice pqa4 (List.length a4) cqa4, .slice pqa5 (List.length a5) cqa5, .slice pqa6 (List.length a6) cqa6, .bool a7], ([] ++ ([] ++ ([] ++ (bs1 ++ (bs2 ++ (bs3 ++ ([] ++ ([])))))))), rfl, (⟨[.int .i64 a1], [.int .i64 a2, .int .i64 a3, .slice pqa4 (List.length a4) cqa4, .slice pqa5 (List.length a5) cqa5, .slice pqa6 (List.length a6) cqa6, .bool a7], [], ([] ++ ([] ++ (bs1 ++ (bs2 ++ (bs3 ++ ([] ++ ([]))))))), rfl, ⟨rfl, rfl⟩, ⟨[.int .i64 a2], [.int .i64 a3, .slice pqa4 (List.length a4) cqa4, .slice pqa5 (List.length a5) cqa5, .slice pqa6 (List.length a6) cqa6, .bool a7], [], ([] ++ (bs1 ++ (bs2 ++ (bs3 ++ ([] ++ ([])))))), rfl, ⟨rfl, rfl⟩, ⟨[.int .i64 a3], [.slice pqa4 (List.length a4) cqa4, .slice pqa5 (List.length a5) cqa5, .slice pqa6 (List.length a6) cqa6, .bool a7], [], (bs1 ++ (bs2 ++ (bs3 ++ ([] ++ ([]))))), rfl, ⟨rfl, rfl⟩, ⟨[.slice pqa4 (List.length a4) cqa4], [.slice pqa5 (List.length a5) cqa5, .slice pqa6 (List.length a6) cqa6, .bool a7], bs1, (bs2 ++ (bs3 ++ ([] ++ ([])))), rfl, owa4, ⟨[.slice pqa5 (List.length a5) cqa5], [.slice pqa6 (List.length a6) cqa6, .bool a7], bs2, (bs3 ++ ([] ++ ([]))), rfl, owa5, ⟨[.slice pqa6 (List.length a6) cqa6], [.bool a7], bs3, ([] ++ ([])), rfl, owa6, ⟨[.bool a7], [], [], ([]), rfl, ⟨rfl, rfl⟩, ⟨rfl, rfl⟩, rfl⟩, rfl⟩, rfl⟩, rfl⟩, rfl⟩, rfl⟩, rfl⟩ : Own W shPlanStep [.int .i64 a1, .int .i64 a2, .int .i64 a3, .slice pqa4 (List.length a4) cqa4, .slice pqa5 (List.length a5) cqa5, .slice pqa6 (List.length a6) cqa6, .bool a7] (a1, a2, a3, a4, a5, a6, a7, au) _), ?_, ?_, eW⟩
  · simp only [List.nil_append, List.append_nil]
    exact nodup_app2 w1.heap.size nd1 (nodup_app2 w2.heap.size nd2 (nd3) (owna5.lt) (fun b hb => by (have := lo3 b hb; simp at this; omega))) (owna4.lt) (fun b hb => by simp only [List.mem_append] at hb; rcases hb with hb | hb; (have := lo2 b hb; simp at this; omega); (have := lo3 b hb; simp at this y2; omega))
  · intro b hb
    simp only [List.nil_append, List.append_nil, List.mem_append] at hb
    rcases hb with hb | hb | hb
    · have := lo1 b hb; simp at this; omega
    · have := lo2 b hb; simp at this y1; omega
    · have := lo3 b hb; simp at this y1 y2; omega


end Go.Proofs.Ytangnigplachdaa
