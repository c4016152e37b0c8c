/- The harness on structs: Optimizer. -/
import Derived.Test.YtbdcjhhphkckcaaKb
import Derived.Test.YtbdcjhhphkckcaaKa
namespace Go.Proofs.Ytbdcjhhphkckcaa
set_option linter.unusedSimpArgs false
set_option linter.unusedVariables false
open Go.RowKit

abbrev shOptimizer : Sh := .pr .int (.pr .flt (.pr .flt (.pr .flt (.pr .flt (.un)))))
theorem fo_implOptimizer_0 (q : Addr) (w : World) : (Instr.fieldAt 40 (.pointer (some q)) 0).run Try.prog w = .ok (.pointer (some (q.add 0))) w := by go_simp
theorem fo_implOptimizer_1 (q : Addr) (w : World) : (Instr.fieldAt 40 (.pointer (some q)) 1).run Try.prog w = .ok (.pointer (some (q.add 1))) w := by go_simp
theorem fo_implOptimizer_2 (q : Addr) (w : World) : (Instr.fieldAt 40 (.pointer (some q)) 2).run Try.prog w = .ok (.pointer (some (q.add 2))) w := by go_simp
theorem fo_implOptimizer_3 (q : Addr) (w : World) : (Instr.fieldAt 40 (.pointer (some q)) 3).run Try.prog w = .ok (.pointer (some (q.add 3))) w := by go_simp
theorem fo_implOptimizer_4 (q : Addr) (w : World) : (Instr.fieldAt 40 (.pointer (some q)) 4).run Try.prog w = .ok (.pointer (some (q.add 4))) w := by go_simp
instance elStOptimizerimpl : ElTy Try.prog 40 shOptimizer := ⟨by kernel_rfl, by kernel_rfl⟩
theorem fo_lawsOptimizer_0 (q : Addr) (w : World) : (Instr.fieldAt 24 (.pointer (some q)) 0).run Try.prog w = .ok (.pointer (some (q.add 0))) w := by go_simp
theorem fo_lawsOptimizer_1 (q : Addr) (w : World) : (Instr.fieldAt 24 (.pointer (some q)) 1).run Try.prog w = .ok (.pointer (some (q.add 1))) w := by go_simp
theorem fo_lawsOptimizer_2 (q : Addr) (w : World) : (Instr.fieldAt 24 (.pointer (some q)) 2).run Try.prog w = .ok (.pointer (some (q.add 2))) w := by go_simp
theorem fo_lawsOptimizer_3 (q : Addr) (w : World) : (Instr.fieldAt 24 (.pointer (some q)) 3).run Try.prog w = .ok (.pointer (some (q.add 3))) w := by go_simp
theorem fo_lawsOptimizer_4 (q : Addr) (w : World) : (Instr.fieldAt 24 (.pointer (some q)) 4).run Try.prog w = .ok (.pointer (some (q.add 4))) w := by go_simp
instance elStOptimizerlaws : ElTy Try.prog 24 shOptimizer := ⟨by kernel_rfl, by kernel_rfl⟩

set_option maxRecDepth 100000 in
set_option maxHeartbeats 1000000 in
theorem eqOptimizer_ok : EqOk 63 shOptimizer := by
  intro cs cs' d w hu hv hn
  obtain ⟨a1, a2, a3, a4, a5, au⟩ := d
  obtain ⟨_, _, rfl, rfl, _, _, rfl, ⟨xa2, rfl, ha2⟩, _, _, rfl, ⟨xa3, rfl, ha3⟩, _, _, rfl, ⟨xa4, rfl, ha4⟩, _, _, rfl, ⟨xa5, rfl, ha5⟩, rfl⟩ := hu
  obtain ⟨_, _, rfl, rfl, _, _, rfl, ⟨xqa2, rfl, hqa2⟩, _, _, rfl, ⟨xqa3, rfl, hqa3⟩, _, _, rfl, ⟨xqa4, rfl, hqa4⟩, _, _, rfl, ⟨xqa5, rfl, hqa5⟩, rfl⟩ := hv

  simp only [ofCs, Sh.agg, List.cons_append, List.nil_append, if_true]
  go_enter Try.func63, Try.ntmps63
  go_wp2_with (refine wl_conv rfl rfl rfl (by kernel_rfl) underlying_f64 (fover_widen _) ?_; intro cr1 cw1 ce1 ch1; have Hc1 := hid ch1; clear ch1; have z0 := ce1.cellOf (b := w.heap.size) (by first | (simp; done) | (simp; omega) | (simp at yc ⊢; omega) | (simp at yc; omega) | (simp at y1 yc; omega) | omega); have z1 := ce1.cellOf (b := w.heap.size + 1) (by first | (simp; done) | (simp; omega) | (simp at yc ⊢; omega) | (simp at yc; omega) | (simp at y1 yc; omega) | omega); have yc := ce1.size)
  rename_i dr1 dw1 de1 Hd1 _ _ _ _ _
  refine (sameFloat_true dr1 cr1 _ (by rw [Hd1.out, Hc1.out, ha2, hqa2])).mono ?_
  rintro e w1 ⟨rfl, f1⟩
  have e1 := (de1.trans ce1).trans f1
  have x1_0 := e1.cellOf (b := w.heap.size) (by first | (simp; done) | (simp; omega))
  have x1_1 := e1.cellOf (b := w.heap.size + 1) (by first | (simp; done) | (simp; omega))
  have y1 := e1.size
  go_wp2_with (refine wl_conv rfl rfl rfl (by kernel_rfl) underlying_f64 (fover_widen _) ?_; intro cr2 cw2 ce2 ch2; have Hc2 := hid ch2; clear ch2; have z0 := ce2.cellOf (b := w.heap.size) (by first | (simp; done) | (simp; omega) | (simp at y1 ⊢; omega) | (simp at y1; omega) | (simp at y1 ⊢; omega) | (simp at y1; omega) | (simp at yc ⊢; omega) | (simp at yc; omega) | (simp at y1 yc; omega) | omega); have z1 := ce2.cellOf (b := w.heap.size + 1) (by first | (simp; done) | (simp; omega) | (simp at y1 ⊢; omega) | (simp at y1; omega) | (simp at y1 ⊢; omega) | (simp at y1; omega) | (simp at yc ⊢; omega) | (simp at yc; omega) | (simp at y1 yc; omega) | omega); have yc := ce2.size)
  rename_i dr2 dw2 de2 Hd2 _ _ _ _ _
  refine (sameFloat_true dr2 cr2 _ (by rw [Hd2.out, Hc2.out, ha3, hqa3])).mono ?_
  rintro e w2 ⟨rfl, f2⟩
  have e2 := (de2.trans ce2).trans f2
  have x2_0 := e2.cellOf (b := w.heap.size) (by first | (simp; done) | (simp; omega) | (simp at y1 ⊢; omega) | (simp at y1; omega) | (simp at y1 ⊢; omega) | (simp at y1; omega))
  have x2_1 := e2.cellOf (b := w.heap.size + 1) (by first | (simp; done) | (simp; omega) | (simp at y1 ⊢; omega) | (simp at y1; omega) | (simp at y1 ⊢; omega) | (simp at y1; omega))
  have y2 := e2.size
  go_wp2_with (refine wl_conv rfl rfl rfl (by kernel_rfl) underlying_f64 (fover_widen _) ?_; intro cr3 cw3 ce3 ch3; have Hc3 := hid ch3; clear ch3; have z0 := ce3.cellOf (b := w.heap.size) (by first | (simp; done) | (simp; omega) | (simp at y1 ⊢; omega) | (simp at y1; omega) | (simp at y1 y2 ⊢; omega) | (simp at y1 y2; omega) | (simp at yc ⊢; omega) | (simp at yc; omega) | (simp at y1 yc; omega) | omega); have z1 := ce3.cellOf (b := w.heap.size + 1) (by first | (simp; done) | (simp; omega) | (simp at y1 ⊢; omega) | (simp at y1; omega) | (simp at y1 y2 ⊢; omega) | (simp at y1 y2; omega) | (simp at yc ⊢; omega) | (simp at yc; omega) | (simp at y1 yc; omega) | omega); have yc := ce3.size)
  rename_i dr3 dw3 de3 Hd3 _ _ _ _ _
  refine (sameFloat_true dr3 cr3 _ (by rw [Hd3.out, Hc3.out, ha4, hqa4])).mono ?_
  rintro e w3 ⟨rfl, f3⟩
  have e3 := (de3.trans ce3).trans f3
  have x3_0 := e3.cellOf (b := w.heap.size) (by first | (simp; done) | (simp; omega) | (simp at y1 ⊢; omega) | (simp at y1; omega) | (simp at y1 y2 ⊢; omega) | (simp at y1 y2; omega))
  have x3_1 := e3.cellOf (b := w.heap.size + 1) (by first | (simp; done) | (simp; omega) | (simp at y1 ⊢; omega) | (simp at y1; omega) | (simp at y1 y2 ⊢; omega) | (simp at y1 y2; omega))
  have y3 := e3.size
  go_wp2_with (refine wl_conv rfl rfl rfl (by kernel_rfl) underlying_f64 (fover_widen _) ?_; intro cr4 cw4 ce4 ch4; have Hc4 := hid ch4; clear ch4; have z0 := ce4.cellOf (b := w.heap.size) (by first | (simp; done) | (simp; omega) | (simp at y1 ⊢; omega) | (simp at y1; omega) | (simp at y1 y2 y3 ⊢; omega) | (simp at y1 y2 y3; omega) | (simp at yc ⊢; omega) | (simp at yc; omega) | (simp at y1 yc; omega) | omega); have z1 := ce4.cellOf (b := w.heap.size + 1) (by first | (simp; done) | (simp; omega) | (simp at y1 ⊢; omega) | (simp at y1; omega) | (simp at y1 y2 y3 ⊢; omega) | (simp at y1 y2 y3; omega) | (simp at yc ⊢; omega) | (simp at yc; omega) | (simp at y1 yc; omega) | omega); have yc := ce4.size)
  rename_i dr4 dw4 de4 Hd4 _ _ _ _ _
  refine (sameFloat_true dr4 cr4 _ (by rw [Hd4.out, Hc4.out, ha5, hqa5])).mono ?_
  rintro e w4 ⟨rfl, f4⟩
  have e4 := (de4.trans ce4).trans f4
  have x4_0 := e4.cellOf (b := w.heap.size) (by first | (simp; done) | (simp; omega) | (simp at y1 ⊢; omega) | (simp at y1; omega) | (simp at y1 y2 y3 ⊢; omega) | (simp at y1 y2 y3; omega))
  have x4_1 := e4.cellOf (b := w.heap.size + 1) (by first | (simp; done) | (simp; omega) | (simp at y1 ⊢; omega) | (simp at y1; omega) | (simp at y1 y2 y3 ⊢; omega) | (simp at y1 y2 y3; omega))
  have y4 := e4.size
  go_wp2
  go_ret
  refine ⟨rfl, ?_⟩
  (repeat (first | with_reducible exact Ext.refl _ | with_reducible assumption | ((with_reducible refine Ext.setCell ?_ ?_ _); rotate_left; focus (first | (simp; done) | (simp; omega))) | (with_reducible refine Ext.trans ?_ (Ext.alloc _ _)) | (with_reducible refine Ext.trans ?_ (Ext.drew _)) | (with_reducible refine Ext.trans ?_ (by with_reducible assumption))))


set_option maxRecDepth 100000 in
set_option maxHeartbeats 1000000 in
theorem toOptimizer_ok : ToOk 18 shOptimizer := by
  intro cs d w hu hn
  obtain ⟨a1, a2, a3, a4, a5, au⟩ := d
  obtain ⟨_, _, rfl, rfl, _, _, rfl, ⟨xa2, rfl, ha2⟩, _, _, rfl, ⟨xa3, rfl, ha3⟩, _, _, rfl, ⟨xa4, rfl, ha4⟩, _, _, rfl, ⟨xa5, rfl, ha5⟩, rfl⟩ := hu
  simp only [ofCs, Sh.agg, List.cons_append, List.nil_append, if_true]
  go_enter Try.func18, Try.ntmps18
  go_wp2
  refine bodyPost_ret (v := .agg #[.int .i64 a1, .float .f32 xa2, .float .f32 xa3, .float .f32 xa4, .float .f32 xa5]) (by simp [results, Try.results18, go_sem, go_sem]) rfl ?_
  refine ⟨[.int .i64 a1, .float .f32 xa2, .float .f32 xa3, .float .f32 xa4, .float .f32 xa5], ([] ++ ([] ++ ([] ++ ([] ++ ([] ++ ([])))))), rfl, (⟨[.int .i64 a1], [.float .f32 xa2, .float .f32 xa3, .float .f32 xa4, .float .f32 xa5], [], ([] ++ ([] ++ ([] ++ ([] ++ ([]))))), rfl, ⟨rfl, rfl⟩, ⟨[.float .f32 xa2], [.float .f32 xa3, .float .f32 xa4, .float .f32 xa5], [], ([] ++ ([] ++ ([] ++ ([])))), rfl, ⟨⟨_, rfl, ha2⟩, rfl⟩, ⟨[.float .f32 xa3], [.float .f32 xa4, .float .f32 xa5], [], ([] ++ ([] ++ ([]))), rfl, ⟨⟨_, rfl, ha3⟩, rfl⟩, ⟨[.float .f32 xa4], [.float .f32 xa5], [], ([] ++ ([])), rfl, ⟨⟨_, rfl, ha4⟩, rfl⟩, ⟨[.float .f32 xa5], [], [], ([]), rfl, ⟨⟨_, rfl, ha5⟩, rfl⟩, ⟨rfl, rfl⟩, rfl⟩, rfl⟩, rfl⟩, rfl⟩, rfl⟩ : Own _ shOptimizer [.int .i64 a1, .float .f32 xa2, .float .f32 xa3, .float .f32 xa4, .float .f32 xa5] (a1, a2, a3, a4, a5, au) _), by simp, by simp, ?_⟩
  (repeat (first | with_reducible exact Ext.refl _ | with_reducible assumption | ((with_reducible refine Ext.setCell ?_ ?_ _); rotate_left; focus (first | (simp; done) | (simp; omega))) | (with_reducible refine Ext.trans ?_ (Ext.alloc _ _)) | (with_reducible refine Ext.trans ?_ (Ext.drew _)) | (with_reducible refine Ext.trans ?_ (by with_reducible assumption))))
end Go.Proofs.Ytbdcjhhphkckcaa
