/- The harness on structs: Examples. -/
import Derived.Test.YtmcafdcabbighaaPlain
import Derived.Test.YtmcafdcabbighaaElem
import Derived.Test.YtmcafdcabbighaaHTensor
namespace Go.Proofs.Ytmcafdcabbighaa
set_option linter.unusedSimpArgs false
set_option linter.unusedVariables false
open Go.RowKit

abbrev shExamples : Sh := .pr shTensor (.pr shTensor (.un))
instance elStExamplesimpl : ElTy Try.prog 59 shExamples := ⟨by kernel_rfl, by kernel_rfl⟩
instance elStExampleslaws : ElTy Try.prog 54 shExamples := ⟨by kernel_rfl, by kernel_rfl⟩

set_option maxRecDepth 100000 in
set_option maxHeartbeats 1000000 in
theorem eqExamples_ok : EqOk 41 shExamples := by
  intro cs cs' d w hu hv hn
  obtain ⟨⟨a1_1, a1_2, a1_3, a1_u⟩, ⟨a2_1, a2_2, a2_3, a2_u⟩, au⟩ := d
  obtain ⟨_, _, rfl, ⟨_, _, rfl, rfl, _, _, rfl, rfl, _, _, rfl, ha1_3, rfl⟩, _, _, rfl, ⟨_, _, rfl, rfl, _, _, rfl, rfl, _, _, rfl, ha2_3, rfl⟩, rfl⟩ := hu
  obtain ⟨pa1_3, ca1_3, rfl, hla1_3⟩ := rep_val ha1_3
  obtain ⟨pa2_3, ca2_3, rfl, hla2_3⟩ := rep_val ha2_3
  obtain ⟨_, _, rfl, ⟨_, _, rfl, rfl, _, _, rfl, rfl, _, _, rfl, hqa1_3, rfl⟩, _, _, rfl, ⟨_, _, rfl, rfl, _, _, rfl, rfl, _, _, rfl, hqa2_3, rfl⟩, rfl⟩ := hv
  obtain ⟨pqa1_3, cqa1_3, rfl, hlqa1_3⟩ := rep_val hqa1_3
  obtain ⟨pqa2_3, cqa2_3, rfl, hlqa2_3⟩ := rep_val hqa2_3
  have hba1 : tot shTensor (a1_1, a1_2, a1_3, a1_u) ≤ 1048576 := by simp only [tot] at hn ⊢; omega
  have hba2 : tot shTensor (a2_1, a2_2, a2_3, a2_u) ≤ 1048576 := by simp only [tot] at hn ⊢; omega
  simp only [ofCs, Sh.agg, List.cons_append, List.nil_append, if_true]
  go_enter Try.func41, Try.ntmps41
  go_wp2_with fail
  refine (eqTensor_ok [.int .i64 a1_1, .int .i64 a1_2, .slice pa1_3 (List.length a1_3) ca1_3] [.int .i64 a1_1, .int .i64 a1_2, .slice pqa1_3 (List.length a1_3) cqa1_3] (a1_1, a1_2, a1_3, a1_u) _ (Rep.ext (w := w) ?_ (⟨[.int .i64 a1_1], [.int .i64 a1_2, .slice pa1_3 (List.length a1_3) ca1_3], rfl, rfl, [.int .i64 a1_2], [.slice pa1_3 (List.length a1_3) ca1_3], rfl, rfl, [.slice pa1_3 (List.length a1_3) ca1_3], [], rfl, ha1_3, rfl⟩ : Rep w shTensor [.int .i64 a1_1, .int .i64 a1_2, .slice pa1_3 (List.length a1_3) ca1_3] (a1_1, a1_2, a1_3, a1_u))) (Rep.ext (w := w) ?_ (⟨[.int .i64 a1_1], [.int .i64 a1_2, .slice pqa1_3 (List.length a1_3) cqa1_3], rfl, rfl, [.int .i64 a1_2], [.slice pqa1_3 (List.length a1_3) cqa1_3], rfl, rfl, [.slice pqa1_3 (List.length a1_3) cqa1_3], [], rfl, hqa1_3, rfl⟩ : Rep w shTensor [.int .i64 a1_1, .int .i64 a1_2, .slice pqa1_3 (List.length a1_3) cqa1_3] (a1_1, a1_2, a1_3, a1_u))) hba1).mono ?_
  · (repeat (first | with_reducible exact Ext.refl _ | with_reducible assumption | ((with_reducible refine Ext.setCell ?_ ?_ _); rotate_left; focus (first | (simp; done) | (simp; omega))) | (with_reducible refine Ext.trans ?_ (Ext.alloc _ _)) | (with_reducible refine Ext.trans ?_ (Ext.drew _)) | (with_reducible refine Ext.trans ?_ (by with_reducible assumption))))
  · (repeat (first | with_reducible exact Ext.refl _ | with_reducible assumption | ((with_reducible refine Ext.setCell ?_ ?_ _); rotate_left; focus (first | (simp; done) | (simp; omega))) | (with_reducible refine Ext.trans ?_ (Ext.alloc _ _)) | (with_reducible refine Ext.trans ?_ (Ext.drew _)) | (with_reducible refine Ext.trans ?_ (by with_reducible assumption))))
  rintro e w1 ⟨rfl, e1⟩
  have x1_0 := e1.cellOf (b := w.heap.size) (by first | (simp; done) | (simp; omega))
  have x1_1 := e1.cellOf (b := w.heap.size + 1) (by first | (simp; done) | (simp; omega))
  have y1 := e1.size
  go_wp2_with fail
  refine (eqTensor_ok [.int .i64 a2_1, .int .i64 a2_2, .slice pa2_3 (List.length a2_3) ca2_3] [.int .i64 a2_1, .int .i64 a2_2, .slice pqa2_3 (List.length a2_3) cqa2_3] (a2_1, a2_2, a2_3, a2_u) _ (Rep.ext (w := w) ?_ (⟨[.int .i64 a2_1], [.int .i64 a2_2, .slice pa2_3 (List.length a2_3) ca2_3], rfl, rfl, [.int .i64 a2_2], [.slice pa2_3 (List.length a2_3) ca2_3], rfl, rfl, [.slice pa2_3 (List.length a2_3) ca2_3], [], rfl, ha2_3, rfl⟩ : Rep w shTensor [.int .i64 a2_1, .int .i64 a2_2, .slice pa2_3 (List.length a2_3) ca2_3] (a2_1, a2_2, a2_3, a2_u))) (Rep.ext (w := w) ?_ (⟨[.int .i64 a2_1], [.int .i64 a2_2, .slice pqa2_3 (List.length a2_3) cqa2_3], rfl, rfl, [.int .i64 a2_2], [.slice pqa2_3 (List.length a2_3) cqa2_3], rfl, rfl, [.slice pqa2_3 (List.length a2_3) cqa2_3], [], rfl, hqa2_3, rfl⟩ : Rep w shTensor [.int .i64 a2_1, .int .i64 a2_2, .slice pqa2_3 (List.length a2_3) cqa2_3] (a2_1, a2_2, a2_3, a2_u))) hba2).mono ?_
  · (repeat (first | with_reducible exact Ext.refl _ | with_reducible assumption | ((with_reducible refine Ext.setCell ?_ ?_ _); rotate_left; focus (first | (simp; done) | (simp; omega))) | (with_reducible refine Ext.trans ?_ (Ext.alloc _ _)) | (with_reducible refine Ext.trans ?_ (Ext.drew _)) | (with_reducible refine Ext.trans ?_ (by with_reducible assumption))))
  · (repeat (first | with_reducible exact Ext.refl _ | with_reducible assumption | ((with_reducible refine Ext.setCell ?_ ?_ _); rotate_left; focus (first | (simp; done) | (simp; omega))) | (with_reducible refine Ext.trans ?_ (Ext.alloc _ _)) | (with_reducible refine Ext.trans ?_ (Ext.drew _)) | (with_reducible refine Ext.trans ?_ (by with_reducible assumption))))
  rintro e w2 ⟨rfl, e2⟩
  have x2_0 := e2.cellOf (b := w.heap.size) (by first | (simp; done) | (simp; omega) | (simp at y1 ⊢; omega))
  have x2_1 := e2.cellOf (b := w.heap.size + 1) (by first | (simp; done) | (simp; omega) | (simp at y1 ⊢; omega))
  have y2 := e2.size
  go_wp2
  go_ret
  refine ⟨rfl, ?_⟩
  (repeat (first | with_reducible exact Ext.refl _ | with_reducible assumption | ((with_reducible refine Ext.setCell ?_ ?_ _); rotate_left; focus (first | (simp; done) | (simp; omega))) | (with_reducible refine Ext.trans ?_ (Ext.alloc _ _)) | (with_reducible refine Ext.trans ?_ (Ext.drew _)) | (with_reducible refine Ext.trans ?_ (by with_reducible assumption))))

set_option maxRecDepth 100000 in
set_option maxHeartbeats 1000000 in
theorem szExamples_ok : SzOk 37 shExamples := by
  intro cs d left w hu hl0 hl1
  obtain ⟨⟨a1_1, a1_2, a1_3, a1_u⟩, ⟨a2_1, a2_2, a2_3, a2_u⟩, au⟩ := d
  obtain ⟨_, _, rfl, ⟨_, _, rfl, rfl, _, _, rfl, rfl, _, _, rfl, ha1_3, rfl⟩, _, _, rfl, ⟨_, _, rfl, rfl, _, _, rfl, rfl, _, _, rfl, ha2_3, rfl⟩, rfl⟩ := hu
  obtain ⟨pa1_3, ca1_3, rfl, hla1_3⟩ := rep_val ha1_3
  obtain ⟨pa2_3, ca2_3, rfl, hla2_3⟩ := rep_val ha2_3
  simp only [ofCs, Sh.agg, List.cons_append, List.nil_append, if_true]
  generalize hT : tot shExamples ((a1_1, a1_2, a1_3, a1_u), (a2_1, a2_2, a2_3, a2_u), au) = T
  have HT := hid hT
  clear hT
  go_enter Try.func37, Try.ntmps37
  go_wp2_with fail
  refine (szTensor_ok [.int .i64 a1_1, .int .i64 a1_2, .slice pa1_3 (List.length a1_3) ca1_3] (a1_1, a1_2, a1_3, a1_u) left _ (Rep.ext (w := w) ?_ (⟨[.int .i64 a1_1], [.int .i64 a1_2, .slice pa1_3 (List.length a1_3) ca1_3], rfl, rfl, [.int .i64 a1_2], [.slice pa1_3 (List.length a1_3) ca1_3], rfl, rfl, [.slice pa1_3 (List.length a1_3) ca1_3], [], rfl, ha1_3, rfl⟩ : Rep w shTensor [.int .i64 a1_1, .int .i64 a1_2, .slice pa1_3 (List.length a1_3) ca1_3] (a1_1, a1_2, a1_3, a1_u))) (by omega) (by omega)).mono ?_
  · (repeat (first | with_reducible exact Ext.refl _ | with_reducible assumption | ((with_reducible refine Ext.setCell ?_ ?_ _); rotate_left; focus (first | (simp; done) | (simp; omega))) | (with_reducible refine Ext.trans ?_ (Ext.alloc _ _)) | (with_reducible refine Ext.trans ?_ (Ext.drew _)) | (with_reducible refine Ext.trans ?_ (by with_reducible assumption))))
  rintro e w1 ⟨⟨r1, rfl, hr1⟩, e1⟩
  have x1_0 := e1.cellOf (b := w.heap.size) (by first | (simp; done) | (simp; omega))
  have y1 := e1.size
  by_cases hn1 : r1 < 0
  · go_wp2
    go_ret
    refine ⟨⟨-1, rfl, .inl (by omega)⟩, ?_⟩
    (repeat (first | with_reducible exact Ext.refl _ | with_reducible assumption | ((with_reducible refine Ext.setCell ?_ ?_ _); rotate_left; focus (first | (simp; done) | (simp; omega))) | (with_reducible refine Ext.trans ?_ (Ext.alloc _ _)) | (with_reducible refine Ext.trans ?_ (Ext.drew _)) | (with_reducible refine Ext.trans ?_ (by with_reducible assumption))))
  have hq1 : r1 = left - (tot shTensor (a1_1, a1_2, a1_3, a1_u) : Int) := by rcases hr1 with h | h; exact absurd h hn1; exact h.1
  have Hq1 := hid hq1
  have hz1 : 0 ≤ r1 := by omega
  have ht1 : r1 ≤ 1048576 := by omega
  clear hr1 hq1
  go_wp2_with fail
  refine (szTensor_ok [.int .i64 a2_1, .int .i64 a2_2, .slice pa2_3 (List.length a2_3) ca2_3] (a2_1, a2_2, a2_3, a2_u) r1 _ (Rep.ext (w := w) ?_ (⟨[.int .i64 a2_1], [.int .i64 a2_2, .slice pa2_3 (List.length a2_3) ca2_3], rfl, rfl, [.int .i64 a2_2], [.slice pa2_3 (List.length a2_3) ca2_3], rfl, rfl, [.slice pa2_3 (List.length a2_3) ca2_3], [], rfl, ha2_3, rfl⟩ : Rep w shTensor [.int .i64 a2_1, .int .i64 a2_2, .slice pa2_3 (List.length a2_3) ca2_3] (a2_1, a2_2, a2_3, a2_u))) (by omega) (by omega)).mono ?_
  · (repeat (first | with_reducible exact Ext.refl _ | with_reducible assumption | ((with_reducible refine Ext.setCell ?_ ?_ _); rotate_left; focus (first | (simp; done) | (simp; omega))) | (with_reducible refine Ext.trans ?_ (Ext.alloc _ _)) | (with_reducible refine Ext.trans ?_ (Ext.drew _)) | (with_reducible refine Ext.trans ?_ (by with_reducible assumption))))
  rintro e w2 ⟨⟨r2, rfl, hr2⟩, e2⟩
  have x2_0 := e2.cellOf (b := w.heap.size) (by first | (simp; done) | (simp; omega) | (simp at y1 ⊢; omega))
  have y2 := e2.size
  by_cases hn2 : r2 < 0
  · go_wp2
    go_ret
    refine ⟨⟨-1, rfl, .inl (by omega)⟩, ?_⟩
    (repeat (first | with_reducible exact Ext.refl _ | with_reducible assumption | ((with_reducible refine Ext.setCell ?_ ?_ _); rotate_left; focus (first | (simp; done) | (simp; omega))) | (with_reducible refine Ext.trans ?_ (Ext.alloc _ _)) | (with_reducible refine Ext.trans ?_ (Ext.drew _)) | (with_reducible refine Ext.trans ?_ (by with_reducible assumption))))
  have hq2 : r2 = r1 - (tot shTensor (a2_1, a2_2, a2_3, a2_u) : Int) := by rcases hr2 with h | h; exact absurd h hn2; exact h.1
  have Hq2 := hid hq2
  have hz2 : 0 ≤ r2 := by omega
  have ht2 : r2 ≤ 1048576 := by omega
  clear hr2 hq2
  go_wp2
  go_ret
  refine ⟨⟨_, rfl, .inr ⟨?_, by omega⟩⟩, ?_⟩
  · have h0 := HT.out
    simp only [tot] at h0
    have h1 := Hq1.out
    simp only [tot] at h1
    have h2 := Hq2.out
    simp only [tot] at h2
    omega
  · (repeat (first | with_reducible exact Ext.refl _ | with_reducible assumption | ((with_reducible refine Ext.setCell ?_ ?_ _); rotate_left; focus (first | (simp; done) | (simp; omega))) | (with_reducible refine Ext.trans ?_ (Ext.alloc _ _)) | (with_reducible refine Ext.trans ?_ (Ext.drew _)) | (with_reducible refine Ext.trans ?_ (by with_reducible assumption))))

set_option maxRecDepth 100000 in
set_option maxHeartbeats 1000000 in
theorem toExamples_ok : ToOk 39 shExamples := by
  intro cs d w hu hn
  obtain ⟨⟨a1_1, a1_2, a1_3, a1_u⟩, ⟨a2_1, a2_2, a2_3, a2_u⟩, au⟩ := d
  obtain ⟨_, _, rfl, ⟨_, _, rfl, rfl, _, _, rfl, rfl, _, _, rfl, ha1_3, rfl⟩, _, _, rfl, ⟨_, _, rfl, rfl, _, _, rfl, rfl, _, _, rfl, ha2_3, rfl⟩, rfl⟩ := hu
  obtain ⟨pa1_3, ca1_3, rfl, hla1_3⟩ := rep_val ha1_3
  obtain ⟨pa2_3, ca2_3, rfl, hla2_3⟩ := rep_val ha2_3
  have hba1 : tot shTensor (a1_1, a1_2, a1_3, a1_u) ≤ 1048576 := by simp only [tot] at hn ⊢; omega
  have hba2 : tot shTensor (a2_1, a2_2, a2_3, a2_u) ≤ 1048576 := by simp only [tot] at hn ⊢; omega
  simp only [ofCs, Sh.agg, List.cons_append, List.nil_append, if_true]
  go_enter Try.func39, Try.ntmps39
  go_wp2_with fail
  refine (toTensor_ok [.int .i64 a1_1, .int .i64 a1_2, .slice pa1_3 (List.length a1_3) ca1_3] (a1_1, a1_2, a1_3, a1_u) _ (Rep.ext (w := w) ?_ (⟨[.int .i64 a1_1], [.int .i64 a1_2, .slice pa1_3 (List.length a1_3) ca1_3], rfl, rfl, [.int .i64 a1_2], [.slice pa1_3 (List.length a1_3) ca1_3], rfl, rfl, [.slice pa1_3 (List.length a1_3) ca1_3], [], rfl, ha1_3, rfl⟩ : Rep w shTensor [.int .i64 a1_1, .int .i64 a1_2, .slice pa1_3 (List.length a1_3) ca1_3] (a1_1, a1_2, a1_3, a1_u))) hba1).mono ?_
  · (repeat (first | with_reducible exact Ext.refl _ | with_reducible assumption | ((with_reducible refine Ext.setCell ?_ ?_ _); rotate_left; focus (first | (simp; done) | (simp; omega))) | (with_reducible refine Ext.trans ?_ (Ext.alloc _ _)) | (with_reducible refine Ext.trans ?_ (Ext.drew _)) | (with_reducible refine Ext.trans ?_ (by with_reducible assumption))))
  rintro e w1 ⟨cs1, bs1, rfl, owna1, nd1, lo1, e1⟩
  have hqa1 := owna1.rep
  obtain ⟨_, _, rfl, rfl, _, _, rfl, rfl, _, _, rfl, hqa1_3, rfl⟩ := hqa1
  obtain ⟨pqa1_3, cqa1_3, rfl, glqa1_3⟩ := rep_val hqa1_3
  simp only [ofCs, Sh.agg, List.cons_append, List.nil_append, if_true] at owna1 ⊢
  have x1_0 := e1.cellOf (b := w.heap.size) (by first | (simp; done) | (simp; omega))
  have x1_1 := e1.cellOf (b := w.heap.size + 1) (by first | (simp; done) | (simp; omega))
  have x1_2 := e1.cellOf (b := w.heap.size + 2) (by first | (simp; done) | (simp; omega))
  have y1 := e1.size
  go_wp2_with fail
  refine (toTensor_ok [.int .i64 a2_1, .int .i64 a2_2, .slice pa2_3 (List.length a2_3) ca2_3] (a2_1, a2_2, a2_3, a2_u) _ (Rep.ext (w := w) ?_ (⟨[.int .i64 a2_1], [.int .i64 a2_2, .slice pa2_3 (List.length a2_3) ca2_3], rfl, rfl, [.int .i64 a2_2], [.slice pa2_3 (List.length a2_3) ca2_3], rfl, rfl, [.slice pa2_3 (List.length a2_3) ca2_3], [], rfl, ha2_3, rfl⟩ : Rep w shTensor [.int .i64 a2_1, .int .i64 a2_2, .slice pa2_3 (List.length a2_3) ca2_3] (a2_1, a2_2, a2_3, a2_u))) hba2).mono ?_
  · (repeat (first | with_reducible exact Ext.refl _ | with_reducible assumption | ((with_reducible refine Ext.setCell ?_ ?_ _); rotate_left; focus (first | (simp; done) | (simp; omega))) | (with_reducible refine Ext.trans ?_ (Ext.alloc _ _)) | (with_reducible refine Ext.trans ?_ (Ext.drew _)) | (with_reducible refine Ext.trans ?_ (by with_reducible assumption))))
  rintro e w2 ⟨cs2, bs2, rfl, owna2, nd2, lo2, e2⟩
  have hqa2 := owna2.rep
  obtain ⟨_, _, rfl, rfl, _, _, rfl, rfl, _, _, rfl, hqa2_3, rfl⟩ := hqa2
  obtain ⟨pqa2_3, cqa2_3, rfl, glqa2_3⟩ := rep_val hqa2_3
  simp only [ofCs, Sh.agg, List.cons_append, List.nil_append, if_true] at owna2 ⊢
  have x2_0 := e2.cellOf (b := w.heap.size) (by first | (simp; done) | (simp; omega) | (simp at y1 ⊢; omega))
  have x2_1 := e2.cellOf (b := w.heap.size + 1) (by first | (simp; done) | (simp; omega) | (simp at y1 ⊢; omega))
  have x2_2 := e2.cellOf (b := w.heap.size + 2) (by first | (simp; done) | (simp; omega) | (simp at y1 ⊢; omega))
  have y2 := e2.size
  go_wp2
  refine bodyPost_ret (v := .agg #[.int .i64 a1_1, .int .i64 a1_2, .slice pqa1_3 (List.length a1_3) cqa1_3, .int .i64 a2_1, .int .i64 a2_2, .slice pqa2_3 (List.length a2_3) cqa2_3]) (by simp [results, Try.results39, go_sem, x1_0, x1_1, x1_2, x2_0, x2_1, x2_2, y1, y2]) rfl ?_
  generalize hW : World.setCell _ _ _ = W
  have eW : Ext w W := by subst hW; (repeat (first | with_reducible exact Ext.refl _ | with_reducible assumption | ((with_reducible refine Ext.setCell ?_ ?_ _); rotate_left; focus (first | (simp; done) | (simp; omega))) | (with_reducible refine Ext.trans ?_ (Ext.alloc _ _)) | (with_reducible refine Ext.trans ?_ (Ext.drew _)) | (with_reducible refine Ext.trans ?_ (by with_reducible assumption))))
  have ch1 : Chg (fun b => b < w.heap.size + 3) w1 W := by subst hW; (repeat (first | with_reducible exact Chg.refl _ _ | (with_reducible exact Chg.of_ext (by with_reducible assumption)) | with_reducible assumption | ((with_reducible refine Chg.setCell ?_ ?_ _); rotate_left; focus (first | (simp; done) | (simp; omega))) | (with_reducible refine Chg.alloc ?_ _) | (with_reducible refine Chg.drew ?_) | (with_reducible refine Chg.trans ?_ (Chg.of_ext (by with_reducible assumption)))))
  have owa1 : Own W shTensor [.int .i64 a1_1, .int .i64 a1_2, .slice pqa1_3 (List.length a1_3) cqa1_3] (a1_1, a1_2, a1_3, a1_u) bs1 := owna1.chg ch1 (fun b hb => by have := lo1 b hb; simp at this; omega)
  have ch2 : Chg (fun b => b < w.heap.size + 3) w2 W := by subst hW; (repeat (first | with_reducible exact Chg.refl _ _ | (with_reducible exact Chg.of_ext (by with_reducible assumption)) | with_reducible assumption | ((with_reducible refine Chg.setCell ?_ ?_ _); rotate_left; focus (first | (simp; done) | (simp; omega))) | (with_reducible refine Chg.alloc ?_ _) | (with_reducible refine Chg.drew ?_) | (with_reducible refine Chg.trans ?_ (Chg.of_ext (by with_reducible assumption)))))
  have owa2 : Own W shTensor [.int .i64 a2_1, .int .i64 a2_2, .slice pqa2_3 (List.length a2_3) cqa2_3] (a2_1, a2_2, a2_3, a2_u) bs2 := owna2.chg ch2 (fun b hb => by have := lo2 b hb; simp at this y1; omega)
  refine ⟨[.int .i64 a1_1, .int .i64 a1_2, .slice pqa1_3 (List.length a1_3) cqa1_3, .int .i64 a2_1, .int .i64 a2_2, .slice pqa2_3 (List.length a2_3) cqa2_3], (bs1 ++ (bs2 ++ ([]))), rfl, (⟨[.int .i64 a1_1, .int .i64 a1_2, .slice pqa1_3 (List.length a1_3) cqa1_3], [.int .i64 a2_1, .int .i64 a2_2, .slice pqa2_3 (List.length a2_3) cqa2_3], bs1, (bs2 ++ ([])), rfl, owa1, ⟨[.int .i64 a2_1, .int .i64 a2_2, .slice pqa2_3 (List.length a2_3) cqa2_3], [], bs2, ([]), rfl, owa2, ⟨rfl, rfl⟩, rfl⟩, rfl⟩ : Own W shExamples [.int .i64 a1_1, .int .i64 a1_2, .slice pqa1_3 (List.length a1_3) cqa1_3, .int .i64 a2_1, .int .i64 a2_2, .slice pqa2_3 (List.length a2_3) cqa2_3] ((a1_1, a1_2, a1_3, a1_u), (a2_1, a2_2, a2_3, a2_u), au) _), ?_, ?_, eW⟩
  · simp only [List.nil_append, List.append_nil]
    exact nodup_app2 w1.heap.size nd1 (nd2) (owna1.lt) (fun b hb => by (have := lo2 b hb; simp at this; omega))
  · intro b hb
    simp only [List.nil_append, List.append_nil, List.mem_append] at hb
    rcases hb with hb | hb
    · have := lo1 b hb; simp at this; omega
    · have := lo2 b hb; simp at this y1; omega
end Go.Proofs.Ytmcafdcabbighaa
