/- The harness on structs: TrainState. -/
import Derived.Test.YthphfmngofbabaaPlain
import Derived.Test.YthphfmngofbabaaElem
import Derived.Test.YthphfmngofbabaaHModel
import Derived.Test.YthphfmngofbabaaHFloat32SS
namespace Go.Proofs.Ythphfmngofbabaa
set_option linter.unusedSimpArgs false
set_option linter.unusedVariables false
open Go.RowKit

abbrev shTrainState : Sh := .pr shModel (.pr shFloat32SS (.pr .int (.pr .int (.pr .flt (.un)))))
theorem fo_implTrainState_0 (q : Addr) (w : World) : (Instr.fieldAt 35 (.pointer (some q)) 0).run Try.prog w = .ok (.pointer (some (q.add 0))) w := by go_simp
theorem fo_implTrainState_1 (q : Addr) (w : World) : (Instr.fieldAt 35 (.pointer (some q)) 1).run Try.prog w = .ok (.pointer (some (q.add 1))) w := by go_simp
theorem fo_implTrainState_2 (q : Addr) (w : World) : (Instr.fieldAt 35 (.pointer (some q)) 2).run Try.prog w = .ok (.pointer (some (q.add 2))) w := by go_simp
theorem fo_implTrainState_3 (q : Addr) (w : World) : (Instr.fieldAt 35 (.pointer (some q)) 3).run Try.prog w = .ok (.pointer (some (q.add 3))) w := by go_simp
theorem fo_implTrainState_4 (q : Addr) (w : World) : (Instr.fieldAt 35 (.pointer (some q)) 4).run Try.prog w = .ok (.pointer (some (q.add 4))) w := by go_simp
instance elStTrainStateimpl : ElTy Try.prog 35 shTrainState := ⟨by kernel_rfl, by kernel_rfl⟩
theorem fo_lawsTrainState_0 (q : Addr) (w : World) : (Instr.fieldAt 28 (.pointer (some q)) 0).run Try.prog w = .ok (.pointer (some (q.add 0))) w := by go_simp
theorem fo_lawsTrainState_1 (q : Addr) (w : World) : (Instr.fieldAt 28 (.pointer (some q)) 1).run Try.prog w = .ok (.pointer (some (q.add 1))) w := by go_simp
theorem fo_lawsTrainState_2 (q : Addr) (w : World) : (Instr.fieldAt 28 (.pointer (some q)) 2).run Try.prog w = .ok (.pointer (some (q.add 2))) w := by go_simp
theorem fo_lawsTrainState_3 (q : Addr) (w : World) : (Instr.fieldAt 28 (.pointer (some q)) 3).run Try.prog w = .ok (.pointer (some (q.add 3))) w := by go_simp
theorem fo_lawsTrainState_4 (q : Addr) (w : World) : (Instr.fieldAt 28 (.pointer (some q)) 4).run Try.prog w = .ok (.pointer (some (q.add 4))) w := by go_simp
instance elStTrainStatelaws : ElTy Try.prog 28 shTrainState := ⟨by kernel_rfl, by kernel_rfl⟩

set_option maxRecDepth 100000 in
set_option maxHeartbeats 1000000 in
theorem eqTrainState_ok : EqOk 17 shTrainState := by
  intro cs cs' d w hu hv hn
  obtain ⟨⟨a1_1, a1_u⟩, a2, a3, a4, a5, au⟩ := d
  obtain ⟨_, _, rfl, ⟨_, _, rfl, ha1_1, rfl⟩, _, _, rfl, ha2, _, _, rfl, rfl, _, _, rfl, rfl, _, _, rfl, ⟨xa5, rfl, ha5⟩, rfl⟩ := hu
  obtain ⟨pa1_1, ca1_1, rfl, hla1_1⟩ := rep_val ha1_1
  obtain ⟨pa2, ca2, rfl, hla2⟩ := rep_val ha2
  obtain ⟨_, _, rfl, ⟨_, _, rfl, hqa1_1, rfl⟩, _, _, rfl, hqa2, _, _, rfl, rfl, _, _, rfl, rfl, _, _, rfl, ⟨xqa5, rfl, hqa5⟩, rfl⟩ := hv
  obtain ⟨pqa1_1, cqa1_1, rfl, hlqa1_1⟩ := rep_val hqa1_1
  obtain ⟨pqa2, cqa2, rfl, hlqa2⟩ := rep_val hqa2
  have hba1 : tot shModel (a1_1, a1_u) ≤ 1048576 := by simp only [tot] at hn ⊢; omega
  have hba2 : tot shFloat32SS a2 ≤ 1048576 := by simp only [tot] at hn ⊢; omega
  simp only [ofCs, Sh.agg, List.cons_append, List.nil_append, if_true]
  go_enter Try.func17, Try.ntmps17
  go_wp2_with fail
  refine (eqModel_ok [.slice pa1_1 (List.length a1_1) ca1_1] [.slice pqa1_1 (List.length a1_1) cqa1_1] (a1_1, a1_u) _ (Rep.ext (w := w) ?_ (⟨[.slice pa1_1 (List.length a1_1) ca1_1], [], rfl, ha1_1, rfl⟩ : Rep w shModel [.slice pa1_1 (List.length a1_1) ca1_1] (a1_1, a1_u))) (Rep.ext (w := w) ?_ (⟨[.slice pqa1_1 (List.length a1_1) cqa1_1], [], rfl, hqa1_1, rfl⟩ : Rep w shModel [.slice pqa1_1 (List.length a1_1) cqa1_1] (a1_1, a1_u))) hba1).mono ?_
  · (repeat (first | with_reducible exact Ext.refl _ | with_reducible assumption | ((with_reducible refine Ext.setCell ?_ ?_ _); rotate_left; focus (first | (simp; done) | (simp; omega))) | (with_reducible refine Ext.trans ?_ (Ext.alloc _ _)) | (with_reducible refine Ext.trans ?_ (Ext.drew _)) | (with_reducible refine Ext.trans ?_ (by with_reducible assumption))))
  · (repeat (first | with_reducible exact Ext.refl _ | with_reducible assumption | ((with_reducible refine Ext.setCell ?_ ?_ _); rotate_left; focus (first | (simp; done) | (simp; omega))) | (with_reducible refine Ext.trans ?_ (Ext.alloc _ _)) | (with_reducible refine Ext.trans ?_ (Ext.drew _)) | (with_reducible refine Ext.trans ?_ (by with_reducible assumption))))
  rintro e w1 ⟨rfl, e1⟩
  have x1_0 := e1.cellOf (b := w.heap.size) (by first | (simp; done) | (simp; omega))
  have x1_1 := e1.cellOf (b := w.heap.size + 1) (by first | (simp; done) | (simp; omega))
  have y1 := e1.size
  go_wp2_with fail
  refine (eqFloat32SS_ok [.slice pa2 (List.length a2) ca2] [.slice pqa2 (List.length a2) cqa2] a2 _ (Rep.ext (w := w) ?_ (ha2 : Rep w shFloat32SS [.slice pa2 (List.length a2) ca2] a2)) (Rep.ext (w := w) ?_ (hqa2 : Rep w shFloat32SS [.slice pqa2 (List.length a2) cqa2] a2)) hba2).mono ?_
  · (repeat (first | with_reducible exact Ext.refl _ | with_reducible assumption | ((with_reducible refine Ext.setCell ?_ ?_ _); rotate_left; focus (first | (simp; done) | (simp; omega))) | (with_reducible refine Ext.trans ?_ (Ext.alloc _ _)) | (with_reducible refine Ext.trans ?_ (Ext.drew _)) | (with_reducible refine Ext.trans ?_ (by with_reducible assumption))))
  · (repeat (first | with_reducible exact Ext.refl _ | with_reducible assumption | ((with_reducible refine Ext.setCell ?_ ?_ _); rotate_left; focus (first | (simp; done) | (simp; omega))) | (with_reducible refine Ext.trans ?_ (Ext.alloc _ _)) | (with_reducible refine Ext.trans ?_ (Ext.drew _)) | (with_reducible refine Ext.trans ?_ (by with_reducible assumption))))
  rintro e w2 ⟨rfl, e2⟩
  have x2_0 := e2.cellOf (b := w.heap.size) (by first | (simp; done) | (simp; omega) | (simp at y1 ⊢; omega) | (simp at y1; omega) | (simp at y1 ⊢; omega) | (simp at y1; omega))
  have x2_1 := e2.cellOf (b := w.heap.size + 1) (by first | (simp; done) | (simp; omega) | (simp at y1 ⊢; omega) | (simp at y1; omega) | (simp at y1 ⊢; omega) | (simp at y1; omega))
  have y2 := e2.size
  go_wp2_with (refine wl_conv rfl rfl rfl (by kernel_rfl) underlying_f64 (fover_widen _) ?_; intro cr3 cw3 ce3 ch3; have Hc3 := hid ch3; clear ch3; have z0 := ce3.cellOf (b := w.heap.size) (by first | (simp; done) | (simp; omega) | (simp at y1 ⊢; omega) | (simp at y1; omega) | (simp at y1 y2 ⊢; omega) | (simp at y1 y2; omega) | (simp at yc ⊢; omega) | (simp at yc; omega) | (simp at y1 yc; omega) | omega); have z1 := ce3.cellOf (b := w.heap.size + 1) (by first | (simp; done) | (simp; omega) | (simp at y1 ⊢; omega) | (simp at y1; omega) | (simp at y1 y2 ⊢; omega) | (simp at y1 y2; omega) | (simp at yc ⊢; omega) | (simp at yc; omega) | (simp at y1 yc; omega) | omega); have yc := ce3.size)
  rename_i dr3 dw3 de3 Hd3 _ _ _ _ _
  refine (sameFloat_true dr3 cr3 _ (by rw [Hd3.out, Hc3.out, ha5, hqa5])).mono ?_
  rintro e w3 ⟨rfl, f3⟩
  have e3 := (de3.trans ce3).trans f3
  have x3_0 := e3.cellOf (b := w.heap.size) (by first | (simp; done) | (simp; omega) | (simp at y1 ⊢; omega) | (simp at y1; omega) | (simp at y1 y2 ⊢; omega) | (simp at y1 y2; omega))
  have x3_1 := e3.cellOf (b := w.heap.size + 1) (by first | (simp; done) | (simp; omega) | (simp at y1 ⊢; omega) | (simp at y1; omega) | (simp at y1 y2 ⊢; omega) | (simp at y1 y2; omega))
  have y3 := e3.size
  go_wp2
  go_ret
  refine ⟨rfl, ?_⟩
  (repeat (first | with_reducible exact Ext.refl _ | with_reducible assumption | ((with_reducible refine Ext.setCell ?_ ?_ _); rotate_left; focus (first | (simp; done) | (simp; omega))) | (with_reducible refine Ext.trans ?_ (Ext.alloc _ _)) | (with_reducible refine Ext.trans ?_ (Ext.drew _)) | (with_reducible refine Ext.trans ?_ (by with_reducible assumption))))

set_option maxRecDepth 100000 in
set_option maxHeartbeats 1000000 in
theorem szTrainState_ok : SzOk 13 shTrainState := by
  intro cs d left w hu hl0 hl1
  obtain ⟨⟨a1_1, a1_u⟩, a2, a3, a4, a5, au⟩ := d
  obtain ⟨_, _, rfl, ⟨_, _, rfl, ha1_1, rfl⟩, _, _, rfl, ha2, _, _, rfl, rfl, _, _, rfl, rfl, _, _, rfl, ⟨xa5, rfl, ha5⟩, rfl⟩ := hu
  obtain ⟨pa1_1, ca1_1, rfl, hla1_1⟩ := rep_val ha1_1
  obtain ⟨pa2, ca2, rfl, hla2⟩ := rep_val ha2
  simp only [ofCs, Sh.agg, List.cons_append, List.nil_append, if_true]
  generalize hT : tot shTrainState ((a1_1, a1_u), a2, a3, a4, a5, au) = T
  have HT := hid hT
  clear hT
  go_enter Try.func13, Try.ntmps13
  go_wp2_with fail
  refine (szModel_ok [.slice pa1_1 (List.length a1_1) ca1_1] (a1_1, a1_u) left _ (Rep.ext (w := w) ?_ (⟨[.slice pa1_1 (List.length a1_1) ca1_1], [], rfl, ha1_1, rfl⟩ : Rep w shModel [.slice pa1_1 (List.length a1_1) ca1_1] (a1_1, a1_u))) (by omega) (by omega)).mono ?_
  · (repeat (first | with_reducible exact Ext.refl _ | with_reducible assumption | ((with_reducible refine Ext.setCell ?_ ?_ _); rotate_left; focus (first | (simp; done) | (simp; omega))) | (with_reducible refine Ext.trans ?_ (Ext.alloc _ _)) | (with_reducible refine Ext.trans ?_ (Ext.drew _)) | (with_reducible refine Ext.trans ?_ (by with_reducible assumption))))
  rintro e w1 ⟨⟨r1, rfl, hr1⟩, e1⟩
  have x1_0 := e1.cellOf (b := w.heap.size) (by first | (simp; done) | (simp; omega))
  have y1 := e1.size
  by_cases hn1 : r1 < 0
  · go_wp2
    go_ret
    refine ⟨⟨-1, rfl, .inl (by omega)⟩, ?_⟩
    (repeat (first | with_reducible exact Ext.refl _ | with_reducible assumption | ((with_reducible refine Ext.setCell ?_ ?_ _); rotate_left; focus (first | (simp; done) | (simp; omega))) | (with_reducible refine Ext.trans ?_ (Ext.alloc _ _)) | (with_reducible refine Ext.trans ?_ (Ext.drew _)) | (with_reducible refine Ext.trans ?_ (by with_reducible assumption))))
  have hq1 : r1 = left - (tot shModel (a1_1, a1_u) : Int) := by rcases hr1 with h | h; exact absurd h hn1; exact h.1
  have Hq1 := hid hq1
  have hz1 : 0 ≤ r1 := by omega
  have ht1 : r1 ≤ 1048576 := by omega
  clear hr1 hq1
  go_wp2_with fail
  refine (szFloat32SS_ok [.slice pa2 (List.length a2) ca2] a2 r1 _ (Rep.ext (w := w) ?_ (ha2 : Rep w shFloat32SS [.slice pa2 (List.length a2) ca2] a2)) (by omega) (by omega)).mono ?_
  · (repeat (first | with_reducible exact Ext.refl _ | with_reducible assumption | ((with_reducible refine Ext.setCell ?_ ?_ _); rotate_left; focus (first | (simp; done) | (simp; omega))) | (with_reducible refine Ext.trans ?_ (Ext.alloc _ _)) | (with_reducible refine Ext.trans ?_ (Ext.drew _)) | (with_reducible refine Ext.trans ?_ (by with_reducible assumption))))
  rintro e w2 ⟨⟨r2, rfl, hr2⟩, e2⟩
  have x2_0 := e2.cellOf (b := w.heap.size) (by first | (simp; done) | (simp; omega) | (simp at y1 ⊢; omega) | (simp at y1; omega) | (simp at y1 ⊢; omega) | (simp at y1; omega))
  have y2 := e2.size
  by_cases hn2 : r2 < 0
  · go_wp2
    go_ret
    refine ⟨⟨-1, rfl, .inl (by omega)⟩, ?_⟩
    (repeat (first | with_reducible exact Ext.refl _ | with_reducible assumption | ((with_reducible refine Ext.setCell ?_ ?_ _); rotate_left; focus (first | (simp; done) | (simp; omega))) | (with_reducible refine Ext.trans ?_ (Ext.alloc _ _)) | (with_reducible refine Ext.trans ?_ (Ext.drew _)) | (with_reducible refine Ext.trans ?_ (by with_reducible assumption))))
  have hq2 : r2 = r1 - (tot shFloat32SS a2 : Int) := by rcases hr2 with h | h; exact absurd h hn2; exact h.1
  have Hq2 := hid hq2
  have hz2 : 0 ≤ r2 := by omega
  have ht2 : r2 ≤ 1048576 := by omega
  clear hr2 hq2
  go_wp2
  go_ret
  refine ⟨⟨_, rfl, .inr ⟨?_, by omega⟩⟩, ?_⟩
  · have h0 := HT.out
    simp only [tot] at h0
    have h1 := Hq1.out
    simp only [tot] at h1
    have h2 := Hq2.out
    simp only [tot] at h2
    omega
  · (repeat (first | with_reducible exact Ext.refl _ | with_reducible assumption | ((with_reducible refine Ext.setCell ?_ ?_ _); rotate_left; focus (first | (simp; done) | (simp; omega))) | (with_reducible refine Ext.trans ?_ (Ext.alloc _ _)) | (with_reducible refine Ext.trans ?_ (Ext.drew _)) | (with_reducible refine Ext.trans ?_ (by with_reducible assumption))))

set_option maxRecDepth 100000 in
set_option maxHeartbeats 1000000 in
theorem toTrainState_ok : ToOk 15 shTrainState := by
  intro cs d w hu hn
  obtain ⟨⟨a1_1, a1_u⟩, a2, a3, a4, a5, au⟩ := d
  obtain ⟨_, _, rfl, ⟨_, _, rfl, ha1_1, rfl⟩, _, _, rfl, ha2, _, _, rfl, rfl, _, _, rfl, rfl, _, _, rfl, ⟨xa5, rfl, ha5⟩, rfl⟩ := hu
  obtain ⟨pa1_1, ca1_1, rfl, hla1_1⟩ := rep_val ha1_1
  obtain ⟨pa2, ca2, rfl, hla2⟩ := rep_val ha2
  have hba1 : tot shModel (a1_1, a1_u) ≤ 1048576 := by simp only [tot] at hn ⊢; omega
  have hba2 : tot shFloat32SS a2 ≤ 1048576 := by simp only [tot] at hn ⊢; omega
  simp only [ofCs, Sh.agg, List.cons_append, List.nil_append, if_true]
  go_enter Try.func15, Try.ntmps15
  go_wp2_with fail
  refine (toModel_ok [.slice pa1_1 (List.length a1_1) ca1_1] (a1_1, a1_u) _ (Rep.ext (w := w) ?_ (⟨[.slice pa1_1 (List.length a1_1) ca1_1], [], rfl, ha1_1, rfl⟩ : Rep w shModel [.slice pa1_1 (List.length a1_1) ca1_1] (a1_1, a1_u))) hba1).mono ?_
  · (repeat (first | with_reducible exact Ext.refl _ | with_reducible assumption | ((with_reducible refine Ext.setCell ?_ ?_ _); rotate_left; focus (first | (simp; done) | (simp; omega))) | (with_reducible refine Ext.trans ?_ (Ext.alloc _ _)) | (with_reducible refine Ext.trans ?_ (Ext.drew _)) | (with_reducible refine Ext.trans ?_ (by with_reducible assumption))))
  rintro e w1 ⟨cs1, bs1, rfl, owna1, nd1, lo1, e1⟩
  have hqa1 := owna1.rep
  obtain ⟨_, _, rfl, hqa1_1, rfl⟩ := hqa1
  obtain ⟨pqa1_1, cqa1_1, rfl, glqa1_1⟩ := rep_val hqa1_1
  simp only [ofCs, Sh.agg, List.cons_append, List.nil_append, if_true] at owna1 ⊢
  have x1_0 := e1.cellOf (b := w.heap.size) (by first | (simp; done) | (simp; omega))
  have x1_1 := e1.cellOf (b := w.heap.size + 1) (by first | (simp; done) | (simp; omega))
  have x1_2 := e1.cellOf (b := w.heap.size + 2) (by first | (simp; done) | (simp; omega))
  have y1 := e1.size
  go_wp2_with fail
  refine (toFloat32SS_ok [.slice pa2 (List.length a2) ca2] a2 _ (Rep.ext (w := w) ?_ (ha2 : Rep w shFloat32SS [.slice pa2 (List.length a2) ca2] a2)) hba2).mono ?_
  · (repeat (first | with_reducible exact Ext.refl _ | with_reducible assumption | ((with_reducible refine Ext.setCell ?_ ?_ _); rotate_left; focus (first | (simp; done) | (simp; omega))) | (with_reducible refine Ext.trans ?_ (Ext.alloc _ _)) | (with_reducible refine Ext.trans ?_ (Ext.drew _)) | (with_reducible refine Ext.trans ?_ (by with_reducible assumption))))
  rintro e w2 ⟨cs2, bs2, rfl, owna2, nd2, lo2, e2⟩
  obtain ⟨pqa2, cqa2, rfl, glqa2⟩ := rep_val owna2.rep
  have hqa2 := owna2.rep
  simp only [ofCs, Sh.agg, List.headD_cons, Bool.false_eq_true, if_false]
  have x2_0 := e2.cellOf (b := w.heap.size) (by first | (simp; done) | (simp; omega) | (simp at y1 ⊢; omega) | (simp at y1; omega) | (simp at y1 ⊢; omega) | (simp at y1; omega))
  have x2_1 := e2.cellOf (b := w.heap.size + 1) (by first | (simp; done) | (simp; omega) | (simp at y1 ⊢; omega) | (simp at y1; omega) | (simp at y1 ⊢; omega) | (simp at y1; omega))
  have x2_2 := e2.cellOf (b := w.heap.size + 2) (by first | (simp; done) | (simp; omega) | (simp at y1 ⊢; omega) | (simp at y1; omega) | (simp at y1 ⊢; omega) | (simp at y1; omega))
  have y2 := e2.size
  go_wp2
  refine bodyPost_ret (v := .agg #[.slice pqa1_1 (List.length a1_1) cqa1_1, .slice pqa2 (List.length a2) cqa2, .int .i64 a3, .int .i64 a4, .float .f32 xa5]) (by simp [results, Try.results15, go_sem, x1_0, x1_1, x1_2, x2_0, x2_1, x2_2, y1, y2]) rfl ?_
  generalize hW : World.setCell _ _ _ = W
  have eW : Ext w W := by subst hW; (repeat (first | with_reducible exact Ext.refl _ | with_reducible assumption | ((with_reducible refine Ext.setCell ?_ ?_ _); rotate_left; focus (first | (simp; done) | (simp; omega))) | (with_reducible refine Ext.trans ?_ (Ext.alloc _ _)) | (with_reducible refine Ext.trans ?_ (Ext.drew _)) | (with_reducible refine Ext.trans ?_ (by with_reducible assumption))))
  have ch1 : Chg (fun b => b < w.heap.size + 3) w1 W := by subst hW; (repeat (first | with_reducible exact Chg.refl _ _ | (with_reducible exact Chg.of_ext (by with_reducible assumption)) | with_reducible assumption | ((with_reducible refine Chg.setCell ?_ ?_ _); rotate_left; focus (first | (simp; done) | (simp; omega))) | (with_reducible refine Chg.alloc ?_ _) | (with_reducible refine Chg.drew ?_) | (with_reducible refine Chg.trans ?_ (Chg.of_ext (by with_reducible assumption)))))
  have owa1 : Own W shModel [.slice pqa1_1 (List.length a1_1) cqa1_1] (a1_1, a1_u) bs1 := owna1.chg ch1 (fun b hb => by have := lo1 b hb; simp at this; omega)
  have ch2 : Chg (fun b => b < w.heap.size + 3) w2 W := by subst hW; (repeat (first | with_reducible exact Chg.refl _ _ | (with_reducible exact Chg.of_ext (by with_reducible assumption)) | with_reducible assumption | ((with_reducible refine Chg.setCell ?_ ?_ _); rotate_left; focus (first | (simp; done) | (simp; omega))) | (with_reducible refine Chg.alloc ?_ _) | (with_reducible refine Chg.drew ?_) | (with_reducible refine Chg.trans ?_ (Chg.of_ext (by with_reducible assumption)))))
  have owa2 : Own W shFloat32SS [.slice pqa2 (List.length a2) cqa2] a2 bs2 := owna2.chg ch2 (fun b hb => by have := lo2 b hb; simp at this y1; omega)
  refine ⟨[.slice pqa1_1 (List.length a1_1) cqa1_1, .slice pqa2 (List.length a2) cqa2, .int .i64 a3, .int .i64 a4, .float .f32 xa5], (bs1 ++ (bs2 ++ ([] ++ ([] ++ ([] ++ ([])))))), rfl, (⟨[.slice pqa1_1 (List.length a1_1) cqa1_1], [.slice pqa2 (List.length a2) cqa2, .int .i64 a3, .int .i64 a4, .float .f32 xa5], bs1, (bs2 ++ ([] ++ ([] ++ ([] ++ ([]))))), rfl, owa1, ⟨[.slice pqa2 (List.length a2) cqa2], [.int .i64 a3, .int .i64 a4, .float .f32 xa5], bs2, ([] ++ ([] ++ ([] ++ ([])))), rfl, owa2, ⟨[.int .i64 a3], [.int .i64 a4, .float .f32 xa5], [], ([] ++ ([] ++ ([]))), rfl, ⟨rfl, rfl⟩, ⟨[.int .i64 a4], [.float .f32 xa5], [], ([] ++ ([])), rfl, ⟨rfl, rfl⟩, ⟨[.float .f32 xa5], [], [], ([]), rfl, ⟨⟨_, rfl, ha5⟩, rfl⟩, ⟨rfl, rfl⟩, rfl⟩, rfl⟩, rfl⟩, rfl⟩, rfl⟩ : Own W shTrainState [.slice pqa1_1 (List.length a1_1) cqa1_1, .slice pqa2 (List.length a2) cqa2, .int .i64 a3, .int .i64 a4, .float .f32 xa5] ((a1_1, a1_u), a2, a3, a4, a5, au) _), ?_, ?_, eW⟩
  · simp only [List.nil_append, List.append_nil]
    exact nodup_app2 w1.heap.size nd1 (nd2) (owna1.lt) (fun b hb => by (have := lo2 b hb; simp at this; omega))
  · intro b hb
    simp only [List.nil_append, List.append_nil, List.mem_append] at hb
    rcases hb with hb | hb
    · have := lo1 b hb; simp at this; omega
    · have := lo2 b hb; simp at this y1; omega

set_option maxRecDepth 100000 in
set_option maxHeartbeats 1000000 in
theorem markTrainState_ok : MarkOk 45 shTrainState := by
  intro cs d bs k w hu hnd hk0 hk
  obtain ⟨⟨a1_1, a1_u⟩, a2, a3, a4, a5, au⟩ := d
  obtain ⟨_, _, ba1, _, rfl, owa1, ⟨_, _, ba2, _, rfl, owa2, ⟨_, _, _, _, rfl, ⟨rfl, rfl⟩, ⟨_, _, _, _, rfl, ⟨rfl, rfl⟩, ⟨_, _, _, _, rfl, ⟨⟨xa5, rfl, ha5⟩, rfl⟩, ⟨rfl, rfl⟩, rfl⟩, rfl⟩, rfl⟩, rfl⟩, rfl⟩ := hu
  have hua1 := owa1.rep
  obtain ⟨_, _, rfl, ha1_1, rfl⟩ := hua1
  obtain ⟨pa1_1, ca1_1, rfl, hla1_1⟩ := rep_val ha1_1
  simp only [List.cons_append, List.nil_append] at owa1
  obtain ⟨pa2, ca2, rfl, hla2⟩ := rep_val owa2.rep
  simp only [List.nil_append, List.append_nil] at hnd
  simp only [ofCs, Sh.agg, List.cons_append, List.nil_append, if_true]
  have htot : tot shTrainState ((a1_1, a1_u), a2, a3, a4, a5, au) = tot shModel (a1_1, a1_u) + tot shFloat32SS a2 := by simp only [tot]; omega
  rw [htot] at hk
  clear htot
  have B1 := mkV_bd shModel (by decide) (a1_1, a1_u) k
  have B2 := mkV_bd shFloat32SS (by decide) a2 (mkV shModel (a1_1, a1_u) k).2
  obtain ⟨nd1, hnd1, ap1, aq1⟩ := nodup_split hnd
  have nd2 := hnd1
  have lt1 := owa1.lt
  have lt2 := owa2.lt
  go_enter Try.func45, Try.ntmps45
  go_wp2_with fail
  refine (markModel_ok [.slice pa1_1 (List.length a1_1) ca1_1] (a1_1, a1_u) ba1 k _ (Own.ext (w := w) owa1 ?_) nd1 (by omega) (by omega)).mono ?_
  · (repeat (first | with_reducible exact Ext.refl _ | with_reducible assumption | ((with_reducible refine Ext.setCell ?_ ?_ _); rotate_left; focus (first | (simp; done) | (simp; omega))) | (with_reducible refine Ext.trans ?_ (Ext.alloc _ _)) | (with_reducible refine Ext.trans ?_ (Ext.drew _)) | (with_reducible refine Ext.trans ?_ (by with_reducible assumption))))
  rintro e w1 ⟨rfl, owa1_1, ch1⟩
  have x1_0 := ch1.cellOf (b := w.heap.size) (by first | (simp; done) | (simp; omega)) (fun h => by have := lt1 _ h; omega)
  have y1 := ch1.size
  have E0 := (fun W0 (_ : Chg (fun b => b ∈ ba1) W0 w1) (h : Ext w W0) => h) _ ch1 (by (repeat (first | with_reducible exact Ext.refl _ | with_reducible assumption | ((with_reducible refine Ext.setCell ?_ ?_ _); rotate_left; focus (first | (simp; done) | (simp; omega))) | (with_reducible refine Ext.trans ?_ (Ext.alloc _ _)) | (with_reducible refine Ext.trans ?_ (Ext.drew _)) | (with_reducible refine Ext.trans ?_ (by with_reducible assumption)))))
  have owa2_1 := (owa2.ext E0).chg ch1 (fun b hb h => aq1 b (by simp [hb]) h)
  go_wp2_with fail
  refine (markFloat32SS_ok [.slice pa2 (List.length a2) ca2] a2 ba2 (mkV shModel (a1_1, a1_u) k).2 _ (owa2_1) nd2 (by omega) (by omega)).mono ?_
  rintro e w2 ⟨rfl, owa2_2, ch2⟩
  have x2_0 := ch2.cellOf (b := w.heap.size) (by first | (simp; done) | (simp; omega) | (simp at y1 ⊢; omega) | (simp at y1; omega) | (simp at y1 ⊢; omega) | (simp at y1; omega)) (fun h => by have := lt2 _ h; omega)
  have y2 := ch2.size
  have owa1_2 := owa1_1.chg ch2 (fun b hb h => ap1 b hb (by simp [h]))
  go_wp2
  go_ret
  exact ⟨rfl, ⟨[.slice pa1_1 (List.length a1_1) ca1_1], [.slice pa2 (List.length a2) ca2, .int .i64 a3, .int .i64 a4, .float .f32 xa5], ba1, (ba2 ++ ([] ++ ([] ++ ([] ++ ([]))))), rfl, owa1_2, ⟨[.slice pa2 (List.length a2) ca2], [.int .i64 a3, .int .i64 a4, .float .f32 xa5], ba2, ([] ++ ([] ++ ([] ++ ([])))), rfl, owa2_2, ⟨[.int .i64 a3], [.int .i64 a4, .float .f32 xa5], [], ([] ++ ([] ++ ([]))), rfl, ⟨rfl, rfl⟩, ⟨[.int .i64 a4], [.float .f32 xa5], [], ([] ++ ([])), rfl, ⟨rfl, rfl⟩, ⟨[.float .f32 xa5], [], [], [], rfl, ⟨⟨_, rfl, ha5⟩, rfl⟩, ⟨rfl, rfl⟩, rfl⟩, rfl⟩, rfl⟩, rfl⟩, rfl⟩, ((Chg.of_ext E0).trans (ch1.mono fun b hb => by simp [hb])).trans (ch2.mono fun b hb => by simp [hb])⟩

end Go.Proofs.Ythphfmngofbabaa
