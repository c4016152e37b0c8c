/- The harness on structs: Request. -/
import Derived.Test.YtangnigplachdaaKb
import Derived.Test.YtangnigplachdaaKa
namespace Go.Proofs.Ytangnigplachdaa
set_option linter.unusedSimpArgs false
set_option linter.unusedVariables false
open Go.RowKit

abbrev shRequest : Sh := .pr .int (.pr (.sl .flt) (.un))
theorem fo_implRequest_0 (q : Addr) (w : World) : (Instr.fieldAt 164 (.pointer (some q)) 0).run Try.prog w = .ok (.pointer (some (q.add 0))) w := by go_simp
theorem fo_implRequest_1 (q : Addr) (w : World) : (Instr.fieldAt 164 (.pointer (some q)) 1).run Try.prog w = .ok (.pointer (some (q.add 1))) w := by go_simp
instance elStRequestimpl : ElTy Try.prog 164 shRequest := ⟨by kernel_rfl, by kernel_rfl⟩
theorem fo_lawsRequest_0 (q : Addr) (w : World) : (Instr.fieldAt 162 (.pointer (some q)) 0).run Try.prog w = .ok (.pointer (some (q.add 0))) w := by go_simp
theorem fo_lawsRequest_1 (q : Addr) (w : World) : (Instr.fieldAt 162 (.pointer (some q)) 1).run Try.prog w = .ok (.pointer (some (q.add 1))) w := by go_simp
instance elStRequestlaws : ElTy Try.prog 162 shRequest := ⟨by kernel_rfl, by kernel_rfl⟩

set_option maxRecDepth 100000 in
set_option maxHeartbeats 1000000 in
theorem eqRequest_ok : EqOk 123 shRequest := by
  intro cs cs' d w hu hv hn
  obtain ⟨a1, a2, au⟩ := d
  obtain ⟨_, _, rfl, rfl, _, _, rfl, ha2, rfl⟩ := hu
  obtain ⟨pa2, ca2, rfl, hla2⟩ := rep_val ha2
  obtain ⟨_, _, rfl, rfl, _, _, rfl, hqa2, rfl⟩ := hv
  obtain ⟨pqa2, cqa2, rfl, hlqa2⟩ := rep_val hqa2
  have hba2 : tot (.sl .flt) a2 ≤ 1048576 := by simp only [tot] at hn ⊢; omega
  simp only [ofCs, Sh.agg, List.cons_append, List.nil_append, if_true]
  go_enter Try.func123, Try.ntmps123
  go_wp2_with fail
  refine (eqFloat32S_ok [.slice pa2 (List.length a2) ca2] [.slice pqa2 (List.length a2) cqa2] a2 _ (Rep.ext (w := w) ?_ (ha2 : Rep w (.sl .flt) [.slice pa2 (List.length a2) ca2] a2)) (Rep.ext (w := w) ?_ (hqa2 : Rep w (.sl .flt) [.slice pqa2 (List.length a2) cqa2] a2)) hba2).mono ?_
  · (repeat (first | with_reducible exact Ext.refl _ | with_reducible assumption | ((with_reducible refine Ext.setCell ?_ ?_ _); rotate_left; focus (first | (simp; done) | (simp; omega))) | (with_reducible refine Ext.trans ?_ (Ext.alloc _ _)) | (with_reducible refine Ext.trans ?_ (Ext.drew _)) | (with_reducible refine Ext.trans ?_ (by with_reducible assumption))))
  · (repeat (first | with_reducible exact Ext.refl _ | with_reducible assumption | ((with_reducible refine Ext.setCell ?_ ?_ _); rotate_left; focus (first | (simp; done) | (simp; omega))) | (with_reducible refine Ext.trans ?_ (Ext.alloc _ _)) | (with_reducible refine Ext.trans ?_ (Ext.drew _)) | (with_reducible refine Ext.trans ?_ (by with_reducible assumption))))
  rintro e w1 ⟨rfl, e1⟩
  have x1_0 := e1.cellOf (b := w.heap.size) (by first | (simp; done) | (simp; omega))
  have x1_1 := e1.cellOf (b := w.heap.size + 1) (by first | (simp; done) | (simp; omega))
  have y1 := e1.size
  go_wp2
  go_ret
  refine ⟨rfl, ?_⟩
  (repeat (first | with_reducible exact Ext.refl _ | with_reducible assumption | ((with_reducible refine Ext.setCell ?_ ?_ _); rotate_left; focus (first | (simp; done) | (simp; omega))) | (with_reducible refine Ext.trans ?_ (Ext.alloc _ _)) | (with_reducible refine Ext.trans ?_ (Ext.drew _)) | (with_reducible refine Ext.trans ?_ (by with_reducible assumption))))

set_option maxRecDepth 100000 in
set_option maxHeartbeats 1000000 in
theorem szRequest_ok : SzOk 114 shRequest := by
  intro cs d left w hu hl0 hl1
  obtain ⟨a1, a2, au⟩ := d
  obtain ⟨_, _, rfl, rfl, _, _, rfl, ha2, rfl⟩ := hu
  obtain ⟨pa2, ca2, rfl, hla2⟩ := rep_val ha2
  simp only [ofCs, Sh.agg, List.cons_append, List.nil_append, if_true]
  generalize hT : tot shRequest (a1, a2, au) = T
  have HT := hid hT
  clear hT
  go_enter Try.func114, Try.ntmps114
  go_wp2_with fail
  refine (szFloat32S_ok [.slice pa2 (List.length a2) ca2] a2 left _ (Rep.ext (w := w) ?_ (ha2 : Rep w (.sl .flt) [.slice pa2 (List.length a2) ca2] a2)) (by omega) (by omega)).mono ?_
  · (repeat (first | with_reducible exact Ext.refl _ | with_reducible assumption | ((with_reducible refine Ext.setCell ?_ ?_ _); rotate_left; focus (first | (simp; done) | (simp; omega))) | (with_reducible refine Ext.trans ?_ (Ext.alloc _ _)) | (with_reducible refine Ext.trans ?_ (Ext.drew _)) | (with_reducible refine Ext.trans ?_ (by with_reducible assumption))))
  rintro e w1 ⟨⟨r1, rfl, hr1⟩, e1⟩
  have x1_0 := e1.cellOf (b := w.heap.size) (by first | (simp; done) | (simp; omega))
  have y1 := e1.size
  by_cases hn1 : r1 < 0
  · go_wp2
    go_ret
    refine ⟨⟨-1, rfl, .inl (by omega)⟩, ?_⟩
    (repeat (first | with_reducible exact Ext.refl _ | with_reducible assumption | ((with_reducible refine Ext.setCell ?_ ?_ _); rotate_left; focus (first | (simp; done) | (simp; omega))) | (with_reducible refine Ext.trans ?_ (Ext.alloc _ _)) | (with_reducible refine Ext.trans ?_ (Ext.drew _)) | (with_reducible refine Ext.trans ?_ (by with_reducible assumption))))
  have hq1 : r1 = left - (tot (.sl .flt) a2 : Int) := by rcases hr1 with h | h; exact absurd h hn1; exact h.1
  have Hq1 := hid hq1
  have hz1 : 0 ≤ r1 := by omega
  have ht1 : r1 ≤ 1048576 := by omega
  clear hr1 hq1
  go_wp2
  go_ret
  refine ⟨⟨_, rfl, .inr ⟨?_, by omega⟩⟩, ?_⟩
  · have h0 := HT.out
    simp only [tot] at h0
    have h1 := Hq1.out
    simp only [tot] at h1
    omega
  · (repeat (first | with_reducible exact Ext.refl _ | with_reducible assumption | ((with_reducible refine Ext.setCell ?_ ?_ _); rotate_left; focus (first | (simp; done) | (simp; omega))) | (with_reducible refine Ext.trans ?_ (Ext.alloc _ _)) | (with_reducible refine Ext.trans ?_ (Ext.drew _)) | (with_reducible refine Ext.trans ?_ (by with_reducible assumption))))

set_option maxRecDepth 100000 in
set_option maxHeartbeats 1000000 in
theorem toRequest_ok : ToOk 118 shRequest := by
  intro cs d w hu hn
  obtain ⟨a1, a2, au⟩ := d
  obtain ⟨_, _, rfl, rfl, _, _, rfl, ha2, rfl⟩ := hu
  obtain ⟨pa2, ca2, rfl, hla2⟩ := rep_val ha2
  have hba2 : tot (.sl .flt) a2 ≤ 1048576 := by simp only [tot] at hn ⊢; omega
  simp only [ofCs, Sh.agg, List.cons_append, List.nil_append, if_true]
  go_enter Try.func118, Try.ntmps118
  go_wp2_with fail
  refine (toFloat32S_ok [.slice pa2 (List.length a2) ca2] a2 _ (Rep.ext (w := w) ?_ (ha2 : Rep w (.sl .flt) [.slice pa2 (List.length a2) ca2] a2)) hba2).mono ?_
  · (repeat (first | with_reducible exact Ext.refl _ | with_reducible assumption | ((with_reducible refine Ext.setCell ?_ ?_ _); rotate_left; focus (first | (simp; done) | (simp; omega))) | (with_reducible refine Ext.trans ?_ (Ext.alloc _ _)) | (with_reducible refine Ext.trans ?_ (Ext.drew _)) | (with_reducible refine Ext.trans ?_ (by with_reducible assumption))))
  rintro e w1 ⟨cs1, bs1, rfl, owna2, nd1, lo1, e1⟩
  obtain ⟨pqa2, cqa2, rfl, glqa2⟩ := rep_val owna2.rep
  have hqa2 := owna2.rep
  simp only [ofCs, Sh.agg, List.headD_cons, Bool.false_eq_true, if_false]
  have x1_0 := e1.cellOf (b := w.heap.size) (by first | (simp; done) | (simp; omega))
  have x1_1 := e1.cellOf (b := w.heap.size + 1) (by first | (simp; done) | (simp; omega))
  have x1_2 := e1.cellOf (b := w.heap.size + 2) (by first | (simp; done) | (simp; omega))
  have y1 := e1.size
  go_wp2
  refine bodyPost_ret (v := .agg #[.int .i64 a1, .slice pqa2 (List.length a2) cqa2]) (by simp [results, Try.results118, go_sem, x1_0, x1_1, x1_2, y1]) rfl ?_
  generalize hW : World.setCell _ _ _ = W
  have eW : Ext w W := by subst hW; (repeat (first | with_reducible exact Ext.refl _ | with_reducible assumption | ((with_reducible refine Ext.setCell ?_ ?_ _); rotate_left; focus (first | (simp; done) | (simp; omega))) | (with_reducible refine Ext.trans ?_ (Ext.alloc _ _)) | (with_reducible refine Ext.trans ?_ (Ext.drew _)) | (with_reducible refine Ext.trans ?_ (by with_reducible assumption))))
  have ch1 : Chg (fun b => b < w.heap.size + 3) w1 W := by subst hW; (repeat (first | with_reducible exact Chg.refl _ _ | (with_reducible exact Chg.of_ext (by with_reducible assumption)) | with_reducible assumption | ((with_reducible refine Chg.setCell ?_ ?_ _); rotate_left; focus (first | (simp; done) | (simp; omega))) | (with_reducible refine Chg.alloc ?_ _) | (with_reducible refine Chg.drew ?_) | (with_reducible refine Chg.trans ?_ (Chg.of_ext (by with_reducible assumption)))))
  have owa2 : Own W (.sl .flt) [.slice pqa2 (List.length a2) cqa2] a2 bs1 := owna2.chg ch1 (fun b hb => by have := lo1 b hb; simp at this; omega)
  refine ⟨[.int .i64 a1, .slice pqa2 (List.length a2) cqa2], ([] ++ (bs1 ++ ([]))), rfl, (⟨[.int .i64 a1], [.slice pqa2 (List.length a2) cqa2], [], (bs1 ++ ([])), rfl, ⟨rfl, rfl⟩, ⟨[.slice pqa2 (List.length a2) cqa2], [], bs1, ([]), rfl, owa2, ⟨rfl, rfl⟩, rfl⟩, rfl⟩ : Own W shRequest [.int .i64 a1, .slice pqa2 (List.length a2) cqa2] (a1, a2, au) _), ?_, ?_, eW⟩
  · simp only [List.nil_append, List.append_nil]
    exact nd1
  · intro b hb
    simp only [List.nil_append, List.append_nil, List.mem_append] at hb
    have := lo1 b hb; simp at this; omega


end Go.Proofs.Ytangnigplachdaa
