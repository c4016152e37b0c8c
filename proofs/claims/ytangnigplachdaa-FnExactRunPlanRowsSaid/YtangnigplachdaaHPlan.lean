/- The harness on structs: Plan. -/
import Derived.Test.YtangnigplachdaaKb
import Derived.Test.YtangnigplachdaaKa
import Derived.Test.YtangnigplachdaaHPlanStepS
namespace Go.Proofs.Ytangnigplachdaa
set_option linter.unusedSimpArgs false
set_option linter.unusedVariables false
open Go.RowKit

abbrev shPlan : Sh := .pr shPlanStepS (.un)
theorem fo_implPlan_0 (q : Addr) (w : World) : (Instr.fieldAt 75 (.pointer (some q)) 0).run Try.prog w = .ok (.pointer (some (q.add 0))) w := by go_simp
instance elStPlanimpl : ElTy Try.prog 75 shPlan := ⟨by kernel_rfl, by kernel_rfl⟩
theorem fo_lawsPlan_0 (q : Addr) (w : World) : (Instr.fieldAt 69 (.pointer (some q)) 0).run Try.prog w = .ok (.pointer (some (q.add 0))) w := by go_simp
instance elStPlanlaws : ElTy Try.prog 69 shPlan := ⟨by kernel_rfl, by kernel_rfl⟩

set_option maxRecDepth 100000 in
set_option maxHeartbeats 1000000 in
theorem eqPlan_ok : EqOk 46 shPlan := by
  intro cs cs' d w hu hv hn
  obtain ⟨a1, au⟩ := d
  obtain ⟨_, _, rfl, ha1, rfl⟩ := hu
  obtain ⟨pa1, ca1, rfl, hla1⟩ := rep_val ha1
  obtain ⟨_, _, rfl, hqa1, rfl⟩ := hv
  obtain ⟨pqa1, cqa1, rfl, hlqa1⟩ := rep_val hqa1
  have hba1 : tot shPlanStepS a1 ≤ 1048576 := by simp only [tot] at hn ⊢; omega
  simp only [ofCs, Sh.agg, List.cons_append, List.nil_append, if_true]
  go_enter Try.func46, Try.ntmps46
  go_wp2_with fail
  refine (eqPlanStepS_ok [.slice pa1 (List.length a1) ca1] [.slice pqa1 (List.length a1) cqa1] a1 _ (Rep.ext (w := w) ?_ (ha1 : Rep w shPlanStepS [.slice pa1 (List.length a1) ca1] a1)) (Rep.ext (w := w) ?_ (hqa1 : Rep w shPlanStepS [.slice pqa1 (List.length a1) cqa1] a1)) hba1).mono ?_
  · (repeat (first | with_reducible exact Ext.refl _ | with_reducible assumption | ((with_reducible refine Ext.setCell ?_ ?_ _); rotate_left; focus (first | (simp; done) | (simp; omega))) | (with_reducible refine Ext.trans ?_ (Ext.alloc _ _)) | (with_reducible refine Ext.trans ?_ (Ext.drew _)) | (with_reducible refine Ext.trans ?_ (by with_reducible assumption))))
  · (repeat (first | with_reducible exact Ext.refl _ | with_reducible assumption | ((with_reducible refine Ext.setCell ?_ ?_ _); rotate_left; focus (first | (simp; done) | (simp; omega))) | (with_reducible refine Ext.trans ?_ (Ext.alloc _ _)) | (with_reducible refine Ext.trans ?_ (Ext.drew _)) | (with_reducible refine Ext.trans ?_ (by with_reducible assumption))))
  rintro e w1 ⟨rfl, e1⟩
  have x1_0 := e1.cellOf (b := w.heap.size) (by first | (simp; done) | (simp; omega))
  have x1_1 := e1.cellOf (b := w.heap.size + 1) (by first | (simp; done) | (simp; omega))
  have y1 := e1.size
  go_wp2
  go_ret
  refine ⟨rfl, ?_⟩
  (repeat (first | with_reducible exact Ext.refl _ | with_reducible assumption | ((with_reducible refine Ext.setCell ?_ ?_ _); rotate_left; focus (first | (simp; done) | (simp; omega))) | (with_reducible refine Ext.trans ?_ (Ext.alloc _ _)) | (with_reducible refine Ext.trans ?_ (Ext.drew _)) | (with_reducible refine Ext.trans ?_ (by with_reducible assumption))))

set_option maxRecDepth 100000 in
set_option maxHeartbeats 1000000 in
theorem szPlan_ok : SzOk 42 shPlan := by
  intro cs d left w hu hl0 hl1
  obtain ⟨a1, au⟩ := d
  obtain ⟨_, _, rfl, ha1, rfl⟩ := hu
  obtain ⟨pa1, ca1, rfl, hla1⟩ := rep_val ha1
  simp only [ofCs, Sh.agg, List.cons_append, List.nil_append, if_true]
  generalize hT : tot shPlan (a1, au) = T
  have HT := hid hT
  clear hT
  go_enter Try.func42, Try.ntmps42
  go_wp2_with fail
  refine (szPlanStepS_ok [.slice pa1 (List.length a1) ca1] a1 left _ (Rep.ext (w := w) ?_ (ha1 : Rep w shPlanStepS [.slice pa1 (List.length a1) ca1] a1)) (by omega) (by omega)).mono ?_
  · (repeat (first | with_reducible exact Ext.refl _ | with_reducible assumption | ((with_reducible refine Ext.setCell ?_ ?_ _); rotate_left; focus (first | (simp; done) | (simp; omega))) | (with_reducible refine Ext.trans ?_ (Ext.alloc _ _)) | (with_reducible refine Ext.trans ?_ (Ext.drew _)) | (with_reducible refine Ext.trans ?_ (by with_reducible assumption))))
  rintro e w1 ⟨⟨r1, rfl, hr1⟩, e1⟩
  have x1_0 := e1.cellOf (b := w.heap.size) (by first | (simp; done) | (simp; omega))
  have y1 := e1.size
  by_cases hn1 : r1 < 0
  · go_wp2
    go_ret
    refine ⟨⟨-1, rfl, .inl (by omega)⟩, ?_⟩
    (repeat (first | with_reducible exact Ext.refl _ | with_reducible assumption | ((with_reducible refine Ext.setCell ?_ ?_ _); rotate_left; focus (first | (simp; done) | (simp; omega))) | (with_reducible refine Ext.trans ?_ (Ext.alloc _ _)) | (with_reducible refine Ext.trans ?_ (Ext.drew _)) | (with_reducible refine Ext.trans ?_ (by with_reducible assumption))))
  have hq1 : r1 = left - (tot shPlanStepS a1 : Int) := by rcases hr1 with h | h; exact absurd h hn1; exact h.1
  have Hq1 := hid hq1
  have hz1 : 0 ≤ r1 := by omega
  have ht1 : r1 ≤ 1048576 := by omega
  clear hr1 hq1
  go_wp2
  go_ret
  refine ⟨⟨_, rfl, .inr ⟨?_, by omega⟩⟩, ?_⟩
  · have h0 := HT.out
    simp only [tot] at h0
    have h1 := Hq1.out
    simp only [tot] at h1
    omega
  · (repeat (first | with_reducible exact Ext.refl _ | with_reducible assumption | ((with_reducible refine Ext.setCell ?_ ?_ _); rotate_left; focus (first | (simp; done) | (simp; omega))) | (with_reducible refine Ext.trans ?_ (Ext.alloc _ _)) | (with_reducible refine Ext.trans ?_ (Ext.drew _)) | (with_reducible refine Ext.trans ?_ (by with_reducible assumption))))

set_option maxRecDepth 100000 in
set_option maxHeartbeats 1000000 in
theorem toPlan_ok : ToOk 44 shPlan := by
  intro cs d w hu hn
  obtain ⟨a1, au⟩ := d
  obtain ⟨_, _, rfl, ha1, rfl⟩ := hu
  obtain ⟨pa1, ca1, rfl, hla1⟩ := rep_val ha1
  have hba1 : tot shPlanStepS a1 ≤ 1048576 := by simp only [tot] at hn ⊢; omega
  simp only [ofCs, Sh.agg, List.cons_append, List.nil_append, if_true]
  go_enter Try.func44, Try.ntmps44
  go_wp2_with fail
  refine (toPlanStepS_ok [.slice pa1 (List.length a1) ca1] a1 _ (Rep.ext (w := w) ?_ (ha1 : Rep w shPlanStepS [.slice pa1 (List.length a1) ca1] a1)) hba1).mono ?_
  · (repeat (first | with_reducible exact Ext.refl _ | with_reducible assumption | ((with_reducible refine Ext.setCell ?_ ?_ _); rotate_left; focus (first | (simp; done) | (simp; omega))) | (with_reducible refine Ext.trans ?_ (Ext.alloc _ _)) | (with_reducible refine Ext.trans ?_ (Ext.drew _)) | (with_reducible refine Ext.trans ?_ (by with_reducible assumption))))
  rintro e w1 ⟨cs1, bs1, rfl, owna1, nd1, lo1, e1⟩
  obtain ⟨pqa1, cqa1, rfl, glqa1⟩ := rep_val owna1.rep
  have hqa1 := owna1.rep
  simp only [ofCs, Sh.agg, List.headD_cons, Bool.false_eq_true, if_false]
  have x1_0 := e1.cellOf (b := w.heap.size) (by first | (simp; done) | (simp; omega))
  have x1_1 := e1.cellOf (b := w.heap.size + 1) (by first | (simp; done) | (simp; omega))
  have x1_2 := e1.cellOf (b := w.heap.size + 2) (by first | (simp; done) | (simp; omega))
  have y1 := e1.size
  go_wp2
  refine bodyPost_ret (v := .agg #[.slice pqa1 (List.length a1) cqa1]) (by simp [results, Try.results44, go_sem, x1_0, x1_1, x1_2, y1]) rfl ?_
  generalize hW : World.setCell _ _ _ = W
  have eW : Ext w W := by subst hW; (repeat (first | with_reducible exact Ext.refl _ | with_reducible assumption | ((with_reducible refine Ext.setCell ?_ ?_ _); rotate_left; focus (first | (simp; done) | (simp; omega))) | (with_reducible refine Ext.trans ?_ (Ext.alloc _ _)) | (with_reducible refine Ext.trans ?_ (Ext.drew _)) | (with_reducible refine Ext.trans ?_ (by with_reducible assumption))))
  have ch1 : Chg (fun b => b < w.heap.size + 3) w1 W := by subst hW; (repeat (first | with_reducible exact Chg.refl _ _ | (with_reducible exact Chg.of_ext (by with_reducible assumption)) | with_reducible assumption | ((with_reducible refine Chg.setCell ?_ ?_ _); rotate_left; focus (first | (simp; done) | (simp; omega))) | (with_reducible refine Chg.alloc ?_ _) | (with_reducible refine Chg.drew ?_) | (with_reducible refine Chg.trans ?_ (Chg.of_ext (by with_reducible assumption)))))
  have owa1 : Own W shPlanStepS [.slice pqa1 (List.length a1) cqa1] a1 bs1 := owna1.chg ch1 (fun b hb => by have := lo1 b hb; simp at this; omega)
  refine ⟨[.slice pqa1 (List.length a1) cqa1], (bs1 ++ ([])), rfl, (⟨[.slice pqa1 (List.length a1) cqa1], [], bs1, ([]), rfl, owa1, ⟨rfl, rfl⟩, rfl⟩ : Own W shPlan [.slice pqa1 (List.length a1) cqa1] (a1, au) _), ?_, ?_, eW⟩
  · simp only [List.nil_append, List.append_nil]
    exact nd1
  · intro b hb
    simp only [List.nil_append, List.append_nil, List.mem_append] at hb
    have := lo1 b hb; simp at this; omega

set_option maxRecDepth 100000 in
set_option maxHeartbeats 1000000 in
theorem markPlan_ok : MarkOk 47 shPlan := by
  intro cs d bs k w hu hnd hk0 hk
  obtain ⟨a1, au⟩ := d
  obtain ⟨_, _, ba1, _, rfl, owa1, ⟨rfl, rfl⟩, rfl⟩ := hu
  obtain ⟨pa1, ca1, rfl, hla1⟩ := rep_val owa1.rep
  simp only [List.nil_append, List.append_nil] at hnd
  simp only [ofCs, Sh.agg, List.cons_append, List.nil_append, if_true]
  have htot : tot shPlan (a1, au) = tot shPlanStepS a1 := by simp only [tot]; omega
  rw [htot] at hk
  clear htot
  have B1 := mkV_bd shPlanStepS (by decide) a1 k
  have nd1 := hnd
  have lt1 := owa1.lt
  go_enter Try.func47, Try.ntmps47
  go_wp2_with fail
  refine (markPlanStepS_ok [.slice pa1 (List.length a1) ca1] a1 ba1 k _ (Own.ext (w := w) owa1 ?_) nd1 (by omega) (by omega)).mono ?_
  · (repeat (first | with_reducible exact Ext.refl _ | with_reducible assumption | ((with_reducible refine Ext.setCell ?_ ?_ _); rotate_left; focus (first | (simp; done) | (simp; omega))) | (with_reducible refine Ext.trans ?_ (Ext.alloc _ _)) | (with_reducible refine Ext.trans ?_ (Ext.drew _)) | (with_reducible refine Ext.trans ?_ (by with_reducible assumption))))
  rintro e w1 ⟨rfl, owa1_1, ch1⟩
  have x1_0 := ch1.cellOf (b := w.heap.size) (by first | (simp; done) | (simp; omega)) (fun h => by have := lt1 _ h; omega)
  have y1 := ch1.size
  have E0 := (fun W0 (_ : Chg (fun b => b ∈ ba1) W0 w1) (h : Ext w W0) => h) _ ch1 (by (repeat (first | with_reducible exact Ext.refl _ | with_reducible assumption | ((with_reducible refine Ext.setCell ?_ ?_ _); rotate_left; focus (first | (simp; done) | (simp; omega))) | (with_reducible refine Ext.trans ?_ (Ext.alloc _ _)) | (with_reducible refine Ext.trans ?_ (Ext.drew _)) | (with_reducible refine Ext.trans ?_ (by with_reducible assumption)))))
  go_wp2
  go_ret
  exact ⟨rfl, ⟨[.slice pa1 (List.length a1) ca1], [], ba1, [], rfl, owa1_1, ⟨rfl, rfl⟩, rfl⟩, (Chg.of_ext E0).trans (ch1.mono fun b hb => by simp [hb])⟩

end Go.Proofs.Ytangnigplachdaa
