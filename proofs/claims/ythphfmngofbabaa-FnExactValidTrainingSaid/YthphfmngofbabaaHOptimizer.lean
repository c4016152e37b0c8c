/- The harness on structs: Optimizer. -/
import Derived.Test.YthphfmngofbabaaPlain
import Derived.Test.YthphfmngofbabaaElem
namespace Go.Proofs.Ythphfmngofbabaa
set_option linter.unusedSimpArgs false
set_option linter.unusedVariables false
open Go.RowKit

abbrev shOptimizer : Sh := .pr .int (.pr .flt (.pr .flt (.pr .flt (.pr .flt (.un)))))
theorem fo_implOptimizer_0 (q : Addr) (w : World) : (Instr.fieldAt 71 (.pointer (some q)) 0).run Try.prog w = .ok (.pointer (some (q.add 0))) w := by go_simp
theorem fo_implOptimizer_1 (q : Addr) (w : World) : (Instr.fieldAt 71 (.pointer (some q)) 1).run Try.prog w = .ok (.pointer (some (q.add 1))) w := by go_simp
theorem fo_implOptimizer_2 (q : Addr) (w : World) : (Instr.fieldAt 71 (.pointer (some q)) 2).run Try.prog w = .ok (.pointer (some (q.add 2))) w := by go_simp
theorem fo_implOptimizer_3 (q : Addr) (w : World) : (Instr.fieldAt 71 (.pointer (some q)) 3).run Try.prog w = .ok (.pointer (some (q.add 3))) w := by go_simp
theorem fo_implOptimizer_4 (q : Addr) (w : World) : (Instr.fieldAt 71 (.pointer (some q)) 4).run Try.prog w = .ok (.pointer (some (q.add 4))) w := by go_simp
instance elStOptimizerimpl : ElTy Try.prog 71 shOptimizer := ⟨by kernel_rfl, by kernel_rfl⟩
theorem fo_lawsOptimizer_0 (q : Addr) (w : World) : (Instr.fieldAt 69 (.pointer (some q)) 0).run Try.prog w = .ok (.pointer (some (q.add 0))) w := by go_simp
theorem fo_lawsOptimizer_1 (q : Addr) (w : World) : (Instr.fieldAt 69 (.pointer (some q)) 1).run Try.prog w = .ok (.pointer (some (q.add 1))) w := by go_simp
theorem fo_lawsOptimizer_2 (q : Addr) (w : World) : (Instr.fieldAt 69 (.pointer (some q)) 2).run Try.prog w = .ok (.pointer (some (q.add 2))) w := by go_simp
theorem fo_lawsOptimizer_3 (q : Addr) (w : World) : (Instr.fieldAt 69 (.pointer (some q)) 3).run Try.prog w = .ok (.pointer (some (q.add 3))) w := by go_simp
theorem fo_lawsOptimizer_4 (q : Addr) (w : World) : (Instr.fieldAt 69 (.pointer (some q)) 4).run Try.prog w = .ok (.pointer (some (q.add 4))) w := by go_simp
instance elStOptimizerlaws : ElTy Try.prog 69 shOptimizer := ⟨by kernel_rfl, by kernel_rfl⟩



set_option maxRecDepth 100000 in
set_option maxHeartbeats 1000000 in
theorem toOptimizer_ok : ToOk 40 shOptimizer := by
  intro cs d w hu hn
  obtain ⟨a1, a2, a3, a4, a5, au⟩ := d
  obtain ⟨_, _, rfl, rfl, _, _, rfl, ⟨xa2, rfl, ha2⟩, _, _, rfl, ⟨xa3, rfl, ha3⟩, _, _, rfl, ⟨xa4, rfl, ha4⟩, _, _, rfl, ⟨xa5, rfl, ha5⟩, rfl⟩ := hu
  simp only [ofCs, Sh.agg, List.cons_append, List.nil_append, if_true]
  go_enter Try.func40, Try.ntmps40
  go_wp2
  refine bodyPost_ret (v := .agg #[.int .i64 a1, .float .f32 xa2, .float .f32 xa3, .float .f32 xa4, .float .f32 xa5]) (by simp [results, Try.results40, go_sem, go_sem]) rfl ?_
  refine ⟨[.int .i64 a1, .float .f32 xa2, .float .f32 xa3, .float .f32 xa4, .float .f32 xa5], ([] ++ ([] ++ ([] ++ ([] ++ ([] ++ ([])))))), rfl, (⟨[.int .i64 a1], [.float .f32 xa2, .float .f32 xa3, .float .f32 xa4, .float .f32 xa5], [], ([] ++ ([] ++ ([] ++ ([] ++ ([]))))), rfl, ⟨rfl, rfl⟩, ⟨[.float .f32 xa2], [.float .f32 xa3, .float .f32 xa4, .float .f32 xa5], [], ([] ++ ([] ++ ([] ++ ([])))), rfl, ⟨⟨_, rfl, ha2⟩, rfl⟩, ⟨[.float .f32 xa3], [.float .f32 xa4, .float .f32 xa5], [], ([] ++ ([] ++ ([]))), rfl, ⟨⟨_, rfl, ha3⟩, rfl⟩, ⟨[.float .f32 xa4], [.float .f32 xa5], [], ([] ++ ([])), rfl, ⟨⟨_, rfl, ha4⟩, rfl⟩, ⟨[.float .f32 xa5], [], [], ([]), rfl, ⟨⟨_, rfl, ha5⟩, rfl⟩, ⟨rfl, rfl⟩, rfl⟩, rfl⟩, rfl⟩, rfl⟩, rfl⟩ : Own _ shOptimizer [.int .i64 a1, .float .f32 xa2, .float .f32 xa3, .float .f32 xa4, .float .f32 xa5] (a1, a2, a3, a4, a5, au) _), by simp, by simp, ?_⟩
  (repeat (first | with_reducible exact Ext.refl _ | with_reducible assumption | ((with_reducible refine Ext.setCell ?_ ?_ _); rotate_left; focus (first | (simp; done) | (simp; omega))) | (with_reducible refine Ext.trans ?_ (Ext.alloc _ _)) | (with_reducible refine Ext.trans ?_ (Ext.drew _)) | (with_reducible refine Ext.trans ?_ (by with_reducible assumption))))
end Go.Proofs.Ythphfmngofbabaa
