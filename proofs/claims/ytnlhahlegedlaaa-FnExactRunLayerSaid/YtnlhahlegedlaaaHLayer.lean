/- The harness on structs: Layer. -/
import Derived.Test.YtnlhahlegedlaaaPlain
import Derived.Test.YtnlhahlegedlaaaElem
namespace Go.Proofs.Ytnlhahlegedlaaa
set_option linter.unusedSimpArgs false
set_option linter.unusedVariables false
open Go.RowKit

abbrev shLayer : Sh := .pr .int (.pr .int (.pr .int (.pr (.sl .flt) (.pr (.sl .flt) (.un)))))
theorem fo_implLayer_0 (q : Addr) (w : World) : (Instr.fieldAt 72 (.pointer (some q)) 0).run Try.prog w = .ok (.pointer (some (q.add 0))) w := by go_simp
theorem fo_implLayer_1 (q : Addr) (w : World) : (Instr.fieldAt 72 (.pointer (some q)) 1).run Try.prog w = .ok (.pointer (some (q.add 1))) w := by go_simp
theorem fo_implLayer_2 (q : Addr) (w : World) : (Instr.fieldAt 72 (.pointer (some q)) 2).run Try.prog w = .ok (.pointer (some (q.add 2))) w := by go_simp
theorem fo_implLayer_3 (q : Addr) (w : World) : (Instr.fieldAt 72 (.pointer (some q)) 3).run Try.prog w = .ok (.pointer (some (q.add 3))) w := by go_simp
theorem fo_implLayer_4 (q : Addr) (w : World) : (Instr.fieldAt 72 (.pointer (some q)) 4).run Try.prog w = .ok (.pointer (some (q.add 4))) w := by go_simp
instance elStLayerimpl : ElTy Try.prog 72 shLayer := ⟨by kernel_rfl, by kernel_rfl⟩
theorem fo_lawsLayer_0 (q : Addr) (w : World) : (Instr.fieldAt 68 (.pointer (some q)) 0).run Try.prog w = .ok (.pointer (some (q.add 0))) w := by go_simp
theorem fo_lawsLayer_1 (q : Addr) (w : World) : (Instr.fieldAt 68 (.pointer (some q)) 1).run Try.prog w = .ok (.pointer (some (q.add 1))) w := by go_simp
theorem fo_lawsLayer_2 (q : Addr) (w : World) : (Instr.fieldAt 68 (.pointer (some q)) 2).run Try.prog w = .ok (.pointer (some (q.add 2))) w := by go_simp
theorem fo_lawsLayer_3 (q : Addr) (w : World) : (Instr.fieldAt 68 (.pointer (some q)) 3).run Try.prog w = .ok (.pointer (some (q.add 3))) w := by go_simp
theorem fo_lawsLayer_4 (q : Addr) (w : World) : (Instr.fieldAt 68 (.pointer (some q)) 4).run Try.prog w = .ok (.pointer (some (q.add 4))) w := by go_simp
instance elStLayerlaws : ElTy Try.prog 68 shLayer := ⟨by kernel_rfl, by kernel_rfl⟩

set_option maxRecDepth 100000 in
set_option maxHeartbeats 1000000 in
theorem eqLayer_ok : EqOk 38 shLayer := by
  intro cs cs' d w hu hv hn
  obtain ⟨a1, a2, a3, a4, a5, au⟩ := d
  obtain ⟨_, _, rfl, rfl, _, _, rfl, rfl, _, _, rfl, rfl, _, _, rfl, ha4, _, _, rfl, ha5, rfl⟩ := hu
  obtain ⟨pa4, ca4, rfl, hla4⟩ := rep_val ha4
  obtain ⟨pa5, ca5, rfl, hla5⟩ := rep_val ha5
  obtain ⟨_, _, rfl, rfl, _, _, rfl, rfl, _, _, rfl, rfl, _, _, rfl, hqa4, _, _, rfl, hqa5, rfl⟩ := hv
  obtain ⟨pqa4, cqa4, rfl, hlqa4⟩ := rep_val hqa4
  obtain ⟨pqa5, cqa5, rfl, hlqa5⟩ := rep_val hqa5
  have hba4 : tot (.sl .flt) a4 ≤ 1048576 := by simp only [tot] at hn ⊢; omega
  have hba5 : tot (.sl .flt) a5 ≤ 1048576 := by simp only [tot] at hn ⊢; omega
  simp only [ofCs, Sh.agg, List.cons_append, List.nil_append, if_true]
  go_enter Try.func38, Try.ntmps38
  go_wp2_with fail
  refine (eqFloat32S_ok [.slice pa4 (List.length a4) ca4] [.slice pqa4 (List.length a4) cqa4] a4 _ (Rep.ext (w := w) ?_ (ha4 : Rep w (.sl .flt) [.slice pa4 (List.length a4) ca4] a4)) (Rep.ext (w := w) ?_ (hqa4 : Rep w (.sl .flt) [.slice pqa4 (List.length a4) cqa4] a4)) hba4).mono ?_
  · (repeat (first | with_reducible exact Ext.refl _ | with_reducible assumption | ((with_reducible refine Ext.setCell ?_ ?_ _); rotate_left; focus (first | (simp; done) | (simp; omega))) | (with_reducible refine Ext.trans ?_ (Ext.alloc _ _)) | (with_reducible refine Ext.trans ?_ (Ext.drew _)) | (with_reducible refine Ext.trans ?_ (by with_reducible assumption))))
  · (repeat (first | with_reducible exact Ext.refl _ | with_reducible assumption | ((with_reducible refine Ext.setCell ?_ ?_ _); rotate_left; focus (first | (simp; done) | (simp; omega))) | (with_reducible refine Ext.trans ?_ (Ext.alloc _ _)) | (with_reducible refine Ext.trans ?_ (Ext.drew _)) | (with_reducible refine Ext.trans ?_ (by with_reducible assumption))))
  rintro e w1 ⟨rfl, e1⟩
  have x1_0 := e1.cellOf (b := w.heap.size) (by first | (simp; done) | (simp; omega))
  have x1_1 := e1.cellOf (b := w.heap.size + 1) (by first | (simp; done) | (simp; omega))
  have y1 := e1.size
  go_wp2_with fail
  refine (eqFloat32S_ok [.slice pa5 (List.length a5) ca5] [.slice pqa5 (List.length a5) cqa5] a5 _ (Rep.ext (w := w) ?_ (ha5 : Rep w (.sl .flt) [.slice pa5 (List.length a5) ca5] a5)) (Rep.ext (w := w) ?_ (hqa5 : Rep w (.sl .flt) [.slice pqa5 (List.length a5) cqa5] a5)) hba5).mono ?_
  · (repeat (first | with_reducible exact Ext.refl _ | with_reducible assumption | ((with_reducible refine Ext.setCell ?_ ?_ _); rotate_left; focus (first | (simp; done) | (simp; omega))) | (with_reducible refine Ext.trans ?_ (Ext.alloc _ _)) | (with_reducible refine Ext.trans ?_ (Ext.drew _)) | (with_reducible refine Ext.trans ?_ (by with_reducible assumption))))
  · (repeat (first | with_reducible exact Ext.refl _ | with_reducible assumption | ((with_reducible refine Ext.setCell ?_ ?_ _); rotate_left; focus (first | (simp; done) | (simp; omega))) | (with_reducible refine Ext.trans ?_ (Ext.alloc _ _)) | (with_reducible refine Ext.trans ?_ (Ext.drew _)) | (with_reducible refine Ext.trans ?_ (by with_reducible assumption))))
  rintro e w2 ⟨rfl, e2⟩
  have x2_0 := e2.cellOf (b := w.heap.size) (by first | (simp; done) | (simp; omega) | (simp at y1 ⊢; omega) | (simp at y1; omega) | (simp at y1 ⊢; omega) | (simp at y1; omega))
  have x2_1 := e2.cellOf (b := w.heap.size + 1) (by first | (simp; done) | (simp; omega) | (simp at y1 ⊢; omega) | (simp at y1; omega) | (simp at y1 ⊢; omega) | (simp at y1; omega))
  have y2 := e2.size
  go_wp2
  go_ret
  refine ⟨rfl, ?_⟩
  (repeat (first | with_reducible exact Ext.refl _ | with_reducible assumption | ((with_reducible refine Ext.setCell ?_ ?_ _); rotate_left; focus (first | (simp; done) | (simp; omega))) | (with_reducible refine Ext.trans ?_ (Ext.alloc _ _)) | (with_reducible refine Ext.trans ?_ (Ext.drew _)) | (with_reducible refine Ext.trans ?_ (by with_reducible assumption))))

set_option maxRecDepth 100000 in
set_option maxHeartbeats 1000000 in
theorem szLayer_ok : SzOk 32 shLayer := by
  intro cs d left w hu hl0 hl1
  obtain ⟨a1, a2, a3, a4, a5, au⟩ := d
  obtain ⟨_, _, rfl, rfl, _, _, rfl, rfl, _, _, rfl, rfl, _, _, rfl, ha4, _, _, rfl, ha5, rfl⟩ := hu
  obtain ⟨pa4, ca4, rfl, hla4⟩ := rep_val ha4
  obtain ⟨pa5, ca5, rfl, hla5⟩ := rep_val ha5
  simp only [ofCs, Sh.agg, List.cons_append, List.nil_append, if_true]
  generalize hT : tot shLayer (a1, a2, a3, a4, a5, au) = T
  have HT := hid hT
  clear hT
  go_enter Try.func32, Try.ntmps32
  go_wp2_with fail
  refine (szFloat32S_ok [.slice pa4 (List.length a4) ca4] a4 left _ (Rep.ext (w := w) ?_ (ha4 : Rep w (.sl .flt) [.slice pa4 (List.length a4) ca4] a4)) (by omega) (by omega)).mono ?_
  · (repeat (first | with_reducible exact Ext.refl _ | with_reducible assumption | ((with_reducible refine Ext.setCell ?_ ?_ _); rotate_left; focus (first | (simp; done) | (simp; omega))) | (with_reducible refine Ext.trans ?_ (Ext.alloc _ _)) | (with_reducible refine Ext.trans ?_ (Ext.drew _)) | (with_reducible refine Ext.trans ?_ (by with_reducible assumption))))
  rintro e w1 ⟨⟨r1, rfl, hr1⟩, e1⟩
  have x1_0 := e1.cellOf (b := w.heap.size) (by first | (simp; done) | (simp; omega))
  have y1 := e1.size
  by_cases hn1 : r1 < 0
  · go_wp2
    go_ret
    refine ⟨⟨-1, rfl, .inl (by omega)⟩, ?_⟩
    (repeat (first | with_reducible exact Ext.refl _ | with_reducible assumption | ((with_reducible refine Ext.setCell ?_ ?_ _); rotate_left; focus (first | (simp; done) | (simp; omega))) | (with_reducible refine Ext.trans ?_ (Ext.alloc _ _)) | (with_reducible refine Ext.trans ?_ (Ext.drew _)) | (with_reducible refine Ext.trans ?_ (by with_reducible assumption))))
  have hq1 : r1 = left - (tot (.sl .flt) a4 : Int) := by rcases hr1 with h | h; exact absurd h hn1; exact h.1
  have Hq1 := hid hq1
  have hz1 : 0 ≤ r1 := by omega
  have ht1 : r1 ≤ 1048576 := by omega
  clear hr1 hq1
  go_wp2_with fail
  refine (szFloat32S_ok [.slice pa5 (List.length a5) ca5] a5 r1 _ (Rep.ext (w := w) ?_ (ha5 : Rep w (.sl .flt) [.slice pa5 (List.length a5) ca5] a5)) (by omega) (by omega)).mono ?_
  · (repeat (first | with_reducible exact Ext.refl _ | with_reducible assumption | ((with_reducible refine Ext.setCell ?_ ?_ _); rotate_left; focus (first | (simp; done) | (simp; omega))) | (with_reducible refine Ext.trans ?_ (Ext.alloc _ _)) | (with_reducible refine Ext.trans ?_ (Ext.drew _)) | (with_reducible refine Ext.trans ?_ (by with_reducible assumption))))
  rintro e w2 ⟨⟨r2, rfl, hr2⟩, e2⟩
  have x2_0 := e2.cellOf (b := w.heap.size) (by first | (simp; done) | (simp; omega) | (simp at y1 ⊢; omega) | (simp at y1; omega) | (simp at y1 ⊢; omega) | (simp at y1; omega))
  have y2 := e2.size
  by_cases hn2 : r2 < 0
  · go_wp2
    go_ret
    refine ⟨⟨-1, rfl, .inl (by omega)⟩, ?_⟩
    (repeat (first | with_reducible exact Ext.refl _ | with_reducible assumption | ((with_reducible refine Ext.setCell ?_ ?_ _); rotate_left; focus (first | (simp; done) | (simp; omega))) | (with_reducible refine Ext.trans ?_ (Ext.alloc _ _)) | (with_reducible refine Ext.trans ?_ (Ext.drew _)) | (with_reducible refine Ext.trans ?_ (by with_reducible assumption))))
  have hq2 : r2 = r1 - (tot (.sl .flt) a5 : Int) := by rcases hr2 with h | h; exact absurd h hn2; exact h.1
  have Hq2 := hid hq2
  have hz2 : 0 ≤ r2 := by omega
  have ht2 : r2 ≤ 1048576 := by omega
  clear hr2 hq2
  go_wp2
  go_ret
  refine ⟨⟨_, rfl, .inr ⟨?_, by omega⟩⟩, ?_⟩
  · have h0 := HT.out
    simp only [tot] at h0
    have h1 := Hq1.out
    simp only [tot] at h1
    have h2 := Hq2.out
    simp only [tot] at h2
    omega
  · (repeat (first | with_reducible exact Ext.refl _ | with_reducible assumption | ((with_reducible refine Ext.setCell ?_ ?_ _); rotate_left; focus (first | (simp; done) | (simp; omega))) | (with_reducible refine Ext.trans ?_ (Ext.alloc _ _)) | (with_reducible refine Ext.trans ?_ (Ext.drew _)) | (with_reducible refine Ext.trans ?_ (by with_reducible assumption))))

set_option maxRecDepth 100000 in
set_option maxHeartbeats 1000000 in
theorem toLayer_ok : ToOk 34 shLayer := by
  intro cs d w hu hn
  obtain ⟨a1, a2, a3, a4, a5, au⟩ := d
  obtain ⟨_, _, rfl, rfl, _, _, rfl, rfl, _, _, rfl, rfl, _, _, rfl, ha4, _, _, rfl, ha5, rfl⟩ := hu
  obtain ⟨pa4, ca4, rfl, hla4⟩ := rep_val ha4
  obtain ⟨pa5, ca5, rfl, hla5⟩ := rep_val ha5
  have hba4 : tot (.sl .flt) a4 ≤ 1048576 := by simp only [tot] at hn ⊢; omega
  have hba5 : tot (.sl .flt) a5 ≤ 1048576 := by simp only [tot] at hn ⊢; omega
  simp only [ofCs, Sh.agg, List.cons_append, List.nil_append, if_true]
  go_enter Try.func34, Try.ntmps34
  go_wp2_with fail
  refine (toFloat32S_ok [.slice pa4 (List.length a4) ca4] a4 _ (Rep.ext (w := w) ?_ (ha4 : Rep w (.sl .flt) [.slice pa4 (List.length a4) ca4] a4)) hba4).mono ?_
  · (repeat (first | with_reducible exact Ext.refl _ | with_reducible assumption | ((with_reducible refine Ext.setCell ?_ ?_ _); rotate_left; focus (first | (simp; done) | (simp; omega))) | (with_reducible refine Ext.trans ?_ (Ext.alloc _ _)) | (with_reducible refine Ext.trans ?_ (Ext.drew _)) | (with_reducible refine Ext.trans ?_ (by with_reducible assumption))))
  rintro e w1 ⟨cs1, bs1, rfl, owna4, nd1, lo1, e1⟩
  obtain ⟨pqa4, cqa4, rfl, glqa4⟩ := rep_val owna4.rep
  have hqa4 := owna4.rep
  simp only [ofCs, Sh.agg, List.headD_cons, Bool.false_eq_true, if_false]
  have x1_0 := e1.cellOf (b := w.heap.size) (by first | (simp; done) | (simp; omega))
  have x1_1 := e1.cellOf (b := w.heap.size + 1) (by first | (simp; done) | (simp; omega))
  have x1_2 := e1.cellOf (b := w.heap.size + 2) (by first | (simp; done) | (simp; omega))
  have y1 := e1.size
  go_wp2_with fail
  refine (toFloat32S_ok [.slice pa5 (List.length a5) ca5] a5 _ (Rep.ext (w := w) ?_ (ha5 : Rep w (.sl .flt) [.slice pa5 (List.length a5) ca5] a5)) hba5).mono ?_
  · (repeat (first | with_reducible exact Ext.refl _ | with_reducible assumption | ((with_reducible refine Ext.setCell ?_ ?_ _); rotate_left; focus (first | (simp; done) | (simp; omega))) | (with_reducible refine Ext.trans ?_ (Ext.alloc _ _)) | (with_reducible refine Ext.trans ?_ (Ext.drew _)) | (with_reducible refine Ext.trans ?_ (by with_reducible assumption))))
  rintro e w2 ⟨cs2, bs2, rfl, owna5, nd2, lo2, e2⟩
  obtain ⟨pqa5, cqa5, rfl, glqa5⟩ := rep_val owna5.rep
  have hqa5 := owna5.rep
  simp only [ofCs, Sh.agg, List.headD_cons, Bool.false_eq_true, if_false]
  have x2_0 := e2.cellOf (b := w.heap.size) (by first | (simp; done) | (simp; omega) | (simp at y1 ⊢; omega) | (simp at y1; omega) | (simp at y1 ⊢; omega) | (simp at y1; omega))
  have x2_1 := e2.cellOf (b := w.heap.size + 1) (by first | (simp; done) | (simp; omega) | (simp at y1 ⊢; omega) | (simp at y1; omega) | (simp at y1 ⊢; omega) | (simp at y1; omega))
  have x2_2 := e2.cellOf (b := w.heap.size + 2) (by first | (simp; done) | (simp; omega) | (simp at y1 ⊢; omega) | (simp at y1; omega) | (simp at y1 ⊢; omega) | (simp at y1; omega))
  have y2 := e2.size
  go_wp2
  refine bodyPost_ret (v := .agg #[.int .i64 a1, .int .i64 a2, .int .i64 a3, .slice pqa4 (List.length a4) cqa4, .slice pqa5 (List.length a5) cqa5]) (by simp [results, Try.results34, go_sem, x1_0, x1_1, x1_2, x2_0, x2_1, x2_2, y1, y2]) rfl ?_
  generalize hW : World.setCell _ _ _ = W
  have eW : Ext w W := by subst hW; (repeat (first | with_reducible exact Ext.refl _ | with_reducible assumption | ((with_reducible refine Ext.setCell ?_ ?_ _); rotate_left; focus (first | (simp; done) | (simp; omega))) | (with_reducible refine Ext.trans ?_ (Ext.alloc _ _)) | (with_reducible refine Ext.trans ?_ (Ext.drew _)) | (with_reducible refine Ext.trans ?_ (by with_reducible assumption))))
  have ch1 : Chg (fun b => b < w.heap.size + 3) w1 W := by subst hW; (repeat (first | with_reducible exact Chg.refl _ _ | (with_reducible exact Chg.of_ext (by with_reducible assumption)) | with_reducible assumption | ((with_reducible refine Chg.setCell ?_ ?_ _); rotate_left; focus (first | (simp; done) | (simp; omega))) | (with_reducible refine Chg.alloc ?_ _) | (with_reducible refine Chg.drew ?_) | (with_reducible refine Chg.trans ?_ (Chg.of_ext (by with_reducible assumption)))))
  have owa4 : Own W (.sl .flt) [.slice pqa4 (List.length a4) cqa4] a4 bs1 := owna4.chg ch1 (fun b hb => by have := lo1 b hb; simp at this; omega)
  have ch2 : Chg (fun b => b < w.heap.size + 3) w2 W := by subst hW; (repeat (first | with_reducible exact Chg.refl _ _ | (with_reducible exact Chg.of_ext (by with_reducible assumption)) | with_reducible assumption | ((with_reducible refine Chg.setCell ?_ ?_ _); rotate_left; focus (first | (simp; done) | (simp; omega))) | (with_reducible refine Chg.alloc ?_ _) | (with_reducible refine Chg.drew ?_) | (with_reducible refine Chg.trans ?_ (Chg.of_ext (by with_reducible assumption)))))
  have owa5 : Own W (.sl .flt) [.slice pqa5 (List.length a5) cqa5] a5 bs2 := owna5.chg ch2 (fun b hb => by have := lo2 b hb; simp at this y1; omega)
  refine ⟨[.int .i64 a1, .int .i64 a2, .int .i64 a3, .slice pqa4 (List.length a4) cqa4, .slice pqa5 (List.length a5) cqa5], ([] ++ ([] ++ ([] ++ (bs1 ++ (bs2 ++ ([])))))), rfl, (⟨[.int .i64 a1], [.int .i64 a2, .int .i64 a3, .slice pqa4 (List.length a4) cqa4, .slice pqa5 (List.length a5) cqa5], [], ([] ++ ([] ++ (bs1 ++ (bs2 ++ ([]))))), rfl, ⟨rfl, rfl⟩, ⟨[.int .i64 a2], [.int .i64 a3, .slice pqa4 (List.length a4) cqa4, .slice pqa5 (List.length a5) cqa5], [], ([] ++ (bs1 ++ (bs2 ++ ([])))), rfl, ⟨rfl, rfl⟩, ⟨[.int .i64 a3], [.slice pqa4 (List.length a4) cqa4, .slice pqa5 (List.length a5) cqa5], [], (bs1 ++ (bs2 ++ ([]))), rfl, ⟨rfl, rfl⟩, ⟨[.slice pqa4 (List.length a4) cqa4], [.slice pqa5 (List.length a5) cqa5], bs1, (bs2 ++ ([])), rfl, owa4, ⟨[.slice pqa5 (List.length a5) cqa5], [], bs2, ([]), rfl, owa5, ⟨rfl, rfl⟩, rfl⟩, rfl⟩, rfl⟩, rfl⟩, rfl⟩ : Own W shLayer [.int .i64 a1, .int .i64 a2, .int .i64 a3, .slice pqa4 (List.length a4) cqa4, .slice pqa5 (List.length a5) cqa5] (a1, a2, a3, a4, a5, au) _), ?_, ?_, eW⟩
  · simp only [List.nil_append, List.append_nil]
    exact nodup_app2 w1.heap.size nd1 (nd2) (owna4.lt) (fun b hb => by (have := lo2 b hb; simp at this; omega))
  · intro b hb
    simp only [List.nil_append, List.append_nil, List.mem_append] at hb
    rcases hb with hb | hb
    · have := lo1 b hb; simp at this; omega
    · have := lo2 b hb; simp at this y1; omega

set_option maxRecDepth 100000 in
set_option maxHeartbeats 1000000 in
theorem markLayer_ok : MarkOk 39 shLayer := by
  intro cs d bs k w hu hnd hk0 hk
  obtain ⟨a1, a2, a3, a4, a5, au⟩ := d
  obtain ⟨_, _, _, _, rfl, ⟨rfl, rfl⟩, ⟨_, _, _, _, rfl, ⟨rfl, rfl⟩, ⟨_, _, _, _, rfl, ⟨rfl, rfl⟩, ⟨_, _, ba4, _, rfl, owa4, ⟨_, _, ba5, _, rfl, owa5, ⟨rfl, rfl⟩, rfl⟩, rfl⟩, rfl⟩, rfl⟩, rfl⟩ := hu
  obtain ⟨pa4, ca4, rfl, hla4⟩ := rep_val owa4.rep
  obtain ⟨pa5, ca5, rfl, hla5⟩ := rep_val owa5.rep
  simp only [List.nil_append, List.append_nil] at hnd
  simp only [ofCs, Sh.agg, List.cons_append, List.nil_append, if_true]
  have htot : tot shLayer (a1, a2, a3, a4, a5, au) = tot (.sl .flt) a4 + tot (.sl .flt) a5 := by simp only [tot]; omega
  rw [htot] at hk
  clear htot
  have B1 := mkV_bd (.sl .flt) (by decide) a4 k
  have B2 := mkV_bd (.sl .flt) (by decide) a5 (mkV (.sl .flt) a4 k).2
  obtain ⟨nd1, hnd1, ap1, aq1⟩ := nodup_split hnd
  have nd2 := hnd1
  have lt1 := owa4.lt
  have lt2 := owa5.lt
  go_enter Try.func39, Try.ntmps39
  go_wp2_with fail
  refine (markFloat32S_ok [.slice pa4 (List.length a4) ca4] a4 ba4 k _ (Own.ext (w := w) owa4 ?_) nd1 (by omega) (by omega)).mono ?_
  · (repeat (first | with_reducible exact Ext.refl _ | with_reducible assumption | ((with_reducible refine Ext.setCell ?_ ?_ _); rotate_left; focus (first | (simp; done) | (simp; omega))) | (with_reducible refine Ext.trans ?_ (Ext.alloc _ _)) | (with_reducible refine Ext.trans ?_ (Ext.drew _)) | (with_reducible refine Ext.trans ?_ (by with_reducible assumption))))
  rintro e w1 ⟨rfl, owa4_1, ch1⟩
  have x1_0 := ch1.cellOf (b := w.heap.size) (by first | (simp; done) | (simp; omega)) (fun h => by have := lt1 _ h; omega)
  have y1 := ch1.size
  have E0 := (fun W0 (_ : Chg (fun b => b ∈ ba4) W0 w1) (h : Ext w W0) => h) _ ch1 (by (repeat (first | with_reducible exact Ext.refl _ | with_reducible assumption | ((with_reducible refine Ext.setCell ?_ ?_ _); rotate_left; focus (first | (simp; done) | (simp; omega))) | (with_reducible refine Ext.trans ?_ (Ext.alloc _ _)) | (with_reducible refine Ext.trans ?_ (Ext.drew _)) | (with_reducible refine Ext.trans ?_ (by with_reducible assumption)))))
  have owa5_1 := (owa5.ext E0).chg ch1 (fun b hb h => aq1 b (by simp [hb]) h)
  go_wp2_with fail
  refine (markFloat32S_ok [.slice pa5 (List.length a5) ca5] a5 ba5 (mkV (.sl .flt) a4 k).2 _ (owa5_1) nd2 (by omega) (by omega)).mono ?_
  rintro e w2 ⟨rfl, owa5_2, ch2⟩
  have x2_0 := ch2.cellOf (b := w.heap.size) (by first | (simp; done) | (simp; omega) | (simp at y1 ⊢; omega) | (simp at y1; omega) | (simp at y1 ⊢; omega) | (simp at y1; omega)) (fun h => by have := lt2 _ h; omega)
  have y2 := ch2.size
  have owa4_2 := owa4_1.chg ch2 (fun b hb h => ap1 b hb (by simp [h]))
  go_wp2
  go_ret
  exact ⟨rfl, ⟨[.int .i64 a1], [.int .i64 a2, .int .i64 a3, .slice pa4 (List.length a4) ca4, .slice pa5 (List.length a5) ca5], [], ([] ++ ([] ++ (ba4 ++ (ba5 ++ ([]))))), rfl, ⟨rfl, rfl⟩, ⟨[.int .i64 a2], [.int .i64 a3, .slice pa4 (List.length a4) ca4, .slice pa5 (List.length a5) ca5], [], ([] ++ (ba4 ++ (ba5 ++ ([])))), rfl, ⟨rfl, rfl⟩, ⟨[.int .i64 a3], [.slice pa4 (List.length a4) ca4, .slice pa5 (List.length a5) ca5], [], (ba4 ++ (ba5 ++ ([]))), rfl, ⟨rfl, rfl⟩, ⟨[.slice pa4 (List.length a4) ca4], [.slice pa5 (List.length a5) ca5], ba4, (ba5 ++ ([])), rfl, owa4_2, ⟨[.slice pa5 (List.length a5) ca5], [], ba5, [], rfl, owa5_2, ⟨rfl, rfl⟩, rfl⟩, rfl⟩, rfl⟩, rfl⟩, rfl⟩, ((Chg.of_ext E0).trans (ch1.mono fun b hb => by simp [hb])).trans (ch2.mono fun b hb => by simp [hb])⟩

end Go.Proofs.Ytnlhahlegedlaaa
