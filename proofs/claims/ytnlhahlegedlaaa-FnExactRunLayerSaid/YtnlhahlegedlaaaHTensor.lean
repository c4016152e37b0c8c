/- The harness on structs: Tensor. -/
import Derived.Test.YtnlhahlegedlaaaPlain
import Derived.Test.YtnlhahlegedlaaaElem
namespace Go.Proofs.Ytnlhahlegedlaaa
set_option linter.unusedSimpArgs false
set_option linter.unusedVariables false
open Go.RowKit

abbrev shTensor : Sh := .pr .int (.pr .int (.pr (.sl .flt) (.un)))
theorem fo_implTensor_0 (q : Addr) (w : World) : (Instr.fieldAt 48 (.pointer (some q)) 0).run Try.prog w = .ok (.pointer (some (q.add 0))) w := by go_simp
theorem fo_implTensor_1 (q : Addr) (w : World) : (Instr.fieldAt 48 (.pointer (some q)) 1).run Try.prog w = .ok (.pointer (some (q.add 1))) w := by go_simp
theorem fo_implTensor_2 (q : Addr) (w : World) : (Instr.fieldAt 48 (.pointer (some q)) 2).run Try.prog w = .ok (.pointer (some (q.add 2))) w := by go_simp
instance elStTensorimpl : ElTy Try.prog 48 shTensor := ⟨by kernel_rfl, by kernel_rfl⟩
theorem fo_lawsTensor_0 (q : Addr) (w : World) : (Instr.fieldAt 58 (.pointer (some q)) 0).run Try.prog w = .ok (.pointer (some (q.add 0))) w := by go_simp
theorem fo_lawsTensor_1 (q : Addr) (w : World) : (Instr.fieldAt 58 (.pointer (some q)) 1).run Try.prog w = .ok (.pointer (some (q.add 1))) w := by go_simp
theorem fo_lawsTensor_2 (q : Addr) (w : World) : (Instr.fieldAt 58 (.pointer (some q)) 2).run Try.prog w = .ok (.pointer (some (q.add 2))) w := by go_simp
instance elStTensorlaws : ElTy Try.prog 58 shTensor := ⟨by kernel_rfl, by kernel_rfl⟩

set_option maxRecDepth 100000 in
set_option maxHeartbeats 1000000 in
theorem eqTensor_ok : EqOk 81 shTensor := by
  intro cs cs' d w hu hv hn
  obtain ⟨a1, a2, a3, au⟩ := d
  obtain ⟨_, _, rfl, rfl, _, _, rfl, rfl, _, _, rfl, ha3, rfl⟩ := hu
  obtain ⟨pa3, ca3, rfl, hla3⟩ := rep_val ha3
  obtain ⟨_, _, rfl, rfl, _, _, rfl, rfl, _, _, rfl, hqa3, rfl⟩ := hv
  obtain ⟨pqa3, cqa3, rfl, hlqa3⟩ := rep_val hqa3
  have hba3 : tot (.sl .flt) a3 ≤ 1048576 := by simp only [tot] at hn ⊢; omega
  simp only [ofCs, Sh.agg, List.cons_append, List.nil_append, if_true]
  go_enter Try.func81, Try.ntmps81
  go_wp2_with fail
  refine (eqFloat32S_ok [.slice pa3 (List.length a3) ca3] [.slice pqa3 (List.length a3) cqa3] a3 _ (Rep.ext (w := w) ?_ (ha3 : Rep w (.sl .flt) [.slice pa3 (List.length a3) ca3] a3)) (Rep.ext (w := w) ?_ (hqa3 : Rep w (.sl .flt) [.slice pqa3 (List.length a3) cqa3] a3)) hba3).mono ?_
  · (repeat (first | with_reducible exact Ext.refl _ | with_reducible assumption | ((with_reducible refine Ext.setCell ?_ ?_ _); rotate_left; focus (first | (simp; done) | (simp; omega))) | (with_reducible refine Ext.trans ?_ (Ext.alloc _ _)) | (with_reducible refine Ext.trans ?_ (Ext.drew _)) | (with_reducible refine Ext.trans ?_ (by with_reducible assumption))))
  · (repeat (first | with_reducible exact Ext.refl _ | with_reducible assumption | ((with_reducible refine Ext.setCell ?_ ?_ _); rotate_left; focus (first | (simp; done) | (simp; omega))) | (with_reducible refine Ext.trans ?_ (Ext.alloc _ _)) | (with_reducible refine Ext.trans ?_ (Ext.drew _)) | (with_reducible refine Ext.trans ?_ (by with_reducible assumption))))
  rintro e w1 ⟨rfl, e1⟩
  have x1_0 := e1.cellOf (b := w.heap.size) (by first | (simp; done) | (simp; omega))
  have x1_1 := e1.cellOf (b := w.heap.size + 1) (by first | (simp; done) | (simp; omega))
  have y1 := e1.size
  go_wp2
  go_ret
  refine ⟨rfl, ?_⟩
  (repeat (first | with_reducible exact Ext.refl _ | with_reducible assumption | ((with_reducible refine Ext.setCell ?_ ?_ _); rotate_left; focus (first | (simp; done) | (simp; omega))) | (with_reducible refine Ext.trans ?_ (Ext.alloc _ _)) | (with_reducible refine Ext.trans ?_ (Ext.drew _)) | (with_reducible refine Ext.trans ?_ (by with_reducible assumption))))

set_option maxRecDepth 100000 in
set_option maxHeartbeats 1000000 in
theorem szTensor_ok : SzOk 78 shTensor := by
  intro cs d left w hu hl0 hl1
  obtain ⟨a1, a2, a3, au⟩ := d
  obtain ⟨_, _, rfl, rfl, _, _, rfl, rfl, _, _, rfl, ha3, rfl⟩ := hu
  obtain ⟨pa3, ca3, rfl, hla3⟩ := rep_val ha3
  simp only [ofCs, Sh.agg, List.cons_append, List.nil_append, if_true]
  generalize hT : tot shTensor (a1, a2, a3, au) = T
  have HT := hid hT
  clear hT
  go_enter Try.func78, Try.ntmps78
  go_wp2_with fail
  refine (szFloat32S_ok [.slice pa3 (List.length a3) ca3] a3 left _ (Rep.ext (w := w) ?_ (ha3 : Rep w (.sl .flt) [.slice pa3 (List.length a3) ca3] a3)) (by omega) (by omega)).mono ?_
  · (repeat (first | with_reducible exact Ext.refl _ | with_reducible assumption | ((with_reducible refine Ext.setCell ?_ ?_ _); rotate_left; focus (first | (simp; done) | (simp; omega))) | (with_reducible refine Ext.trans ?_ (Ext.alloc _ _)) | (with_reducible refine Ext.trans ?_ (Ext.drew _)) | (with_reducible refine Ext.trans ?_ (by with_reducible assumption))))
  rintro e w1 ⟨⟨r1, rfl, hr1⟩, e1⟩
  have x1_0 := e1.cellOf (b := w.heap.size) (by first | (simp; done) | (simp; omega))
  have y1 := e1.size
  by_cases hn1 : r1 < 0
  · go_wp2
    go_ret
    refine ⟨⟨-1, rfl, .inl (by omega)⟩, ?_⟩
    (repeat (first | with_reducible exact Ext.refl _ | with_reducible assumption | ((with_reducible refine Ext.setCell ?_ ?_ _); rotate_left; focus (first | (simp; done) | (simp; omega))) | (with_reducible refine Ext.trans ?_ (Ext.alloc _ _)) | (with_reducible refine Ext.trans ?_ (Ext.drew _)) | (with_reducible refine Ext.trans ?_ (by with_reducible assumption))))
  have hq1 : r1 = left - (tot (.sl .flt) a3 : Int) := by rcases hr1 with h | h; exact absurd h hn1; exact h.1
  have Hq1 := hid hq1
  have hz1 : 0 ≤ r1 := by omega
  have ht1 : r1 ≤ 1048576 := by omega
  clear hr1 hq1
  go_wp2
  go_ret
  refine ⟨⟨_, rfl, .inr ⟨?_, by omega⟩⟩, ?_⟩
  · have h0 := HT.out
    simp only [tot] at h0
    have h1 := Hq1.out
    simp only [tot] at h1
    omega
  · (repeat (first | with_reducible exact Ext.refl _ | with_reducible assumption | ((with_reducible refine Ext.setCell ?_ ?_ _); rotate_left; focus (first | (simp; done) | (simp; omega))) | (with_reducible refine Ext.trans ?_ (Ext.alloc _ _)) | (with_reducible refine Ext.trans ?_ (Ext.drew _)) | (with_reducible refine Ext.trans ?_ (by with_reducible assumption))))

set_option maxRecDepth 100000 in
set_option maxHeartbeats 1000000 in
theorem toTensor_ok : ToOk 80 shTensor := by
  intro cs d w hu hn
  obtain ⟨a1, a2, a3, au⟩ := d
  obtain ⟨_, _, rfl, rfl, _, _, rfl, rfl, _, _, rfl, ha3, rfl⟩ := hu
  obtain ⟨pa3, ca3, rfl, hla3⟩ := rep_val ha3
  have hba3 : tot (.sl .flt) a3 ≤ 1048576 := by simp only [tot] at hn ⊢; omega
  simp only [ofCs, Sh.agg, List.cons_append, List.nil_append, if_true]
  go_enter Try.func80, Try.ntmps80
  go_wp2_with fail
  refine (toFloat32S_ok [.slice pa3 (List.length a3) ca3] a3 _ (Rep.ext (w := w) ?_ (ha3 : Rep w (.sl .flt) [.slice pa3 (List.length a3) ca3] a3)) hba3).mono ?_
  · (repeat (first | with_reducible exact Ext.refl _ | with_reducible assumption | ((with_reducible refine Ext.setCell ?_ ?_ _); rotate_left; focus (first | (simp; done) | (simp; omega))) | (with_reducible refine Ext.trans ?_ (Ext.alloc _ _)) | (with_reducible refine Ext.trans ?_ (Ext.drew _)) | (with_reducible refine Ext.trans ?_ (by with_reducible assumption))))
  rintro e w1 ⟨cs1, bs1, rfl, owna3, nd1, lo1, e1⟩
  obtain ⟨pqa3, cqa3, rfl, glqa3⟩ := rep_val owna3.rep
  have hqa3 := owna3.rep
  simp only [ofCs, Sh.agg, List.headD_cons, Bool.false_eq_true, if_false]
  have x1_0 := e1.cellOf (b := w.heap.size) (by first | (simp; done) | (simp; omega))
  have x1_1 := e1.cellOf (b := w.heap.size + 1) (by first | (simp; done) | (simp; omega))
  have x1_2 := e1.cellOf (b := w.heap.size + 2) (by first | (simp; done) | (simp; omega))
  have y1 := e1.size
  go_wp2
  refine bodyPost_ret (v := .agg #[.int .i64 a1, .int .i64 a2, .slice pqa3 (List.length a3) cqa3]) (by simp [results, Try.results80, go_sem, x1_0, x1_1, x1_2, y1]) rfl ?_
  generalize hW : World.setCell _ _ _ = W
  have eW : Ext w W := by subst hW; (repeat (first | with_reducible exact Ext.refl _ | with_reducible assumption | ((with_reducible refine Ext.setCell ?_ ?_ _); rotate_left; focus (first | (simp; done) | (simp; omega))) | (with_reducible refine Ext.trans ?_ (Ext.alloc _ _)) | (with_reducible refine Ext.trans ?_ (Ext.drew _)) | (with_reducible refine Ext.trans ?_ (by with_reducible assumption))))
  have ch1 : Chg (fun b => b < w.heap.size + 3) w1 W := by subst hW; (repeat (first | with_reducible exact Chg.refl _ _ | (with_reducible exact Chg.of_ext (by with_reducible assumption)) | with_reducible assumption | ((with_reducible refine Chg.setCell ?_ ?_ _); rotate_left; focus (first | (simp; done) | (simp; omega))) | (with_reducible refine Chg.alloc ?_ _) | (with_reducible refine Chg.drew ?_) | (with_reducible refine Chg.trans ?_ (Chg.of_ext (by with_reducible assumption)))))
  have owa3 : Own W (.sl .flt) [.slice pqa3 (List.length a3) cqa3] a3 bs1 := owna3.chg ch1 (fun b hb => by have := lo1 b hb; simp at this; omega)
  refine ⟨[.int .i64 a1, .int .i64 a2, .slice pqa3 (List.length a3) cqa3], ([] ++ ([] ++ (bs1 ++ ([])))), rfl, (⟨[.int .i64 a1], [.int .i64 a2, .slice pqa3 (List.length a3) cqa3], [], ([] ++ (bs1 ++ ([]))), rfl, ⟨rfl, rfl⟩, ⟨[.int .i64 a2], [.slice pqa3 (List.length a3) cqa3], [], (bs1 ++ ([])), rfl, ⟨rfl, rfl⟩, ⟨[.slice pqa3 (List.length a3) cqa3], [], bs1, ([]), rfl, owa3, ⟨rfl, rfl⟩, rfl⟩, rfl⟩, rfl⟩ : Own W shTensor [.int .i64 a1, .int .i64 a2, .slice pqa3 (List.length a3) cqa3] (a1, a2, a3, au) _), ?_, ?_, eW⟩
  · simp only [List.nil_append, List.append_nil]
    exact nd1
  · intro b hb
    simp only [List.nil_append, List.append_nil, List.mem_append] at hb
    have := lo1 b hb; simp at this; omega

set_option maxRecDepth 100000 in
set_option maxHeartbeats 1000000 in
theorem markTensor_ok : MarkOk 82 shTensor := by
  intro cs d bs k w hu hnd hk0 hk
  obtain ⟨a1, a2, a3, au⟩ := d
  obtain ⟨_, _, _, _, rfl, ⟨rfl, rfl⟩, ⟨_, _, _, _, rfl, ⟨rfl, rfl⟩, ⟨_, _, ba3, _, rfl, owa3, ⟨rfl, rfl⟩, rfl⟩, rfl⟩, rfl⟩ := hu
  obtain ⟨pa3, ca3, rfl, hla3⟩ := rep_val owa3.rep
  simp only [List.nil_append, List.append_nil] at hnd
  simp only [ofCs, Sh.agg, List.cons_append, List.nil_append, if_true]
  have htot : tot shTensor (a1, a2, a3, au) = tot (.sl .flt) a3 := by simp only [tot]; omega
  rw [htot] at hk
  clear htot
  have B1 := mkV_bd (.sl .flt) (by decide) a3 k
  have nd1 := hnd
  have lt1 := owa3.lt
  go_enter Try.func82, Try.ntmps82
  go_wp2_with fail
  refine (markFloat32S_ok [.slice pa3 (List.length a3) ca3] a3 ba3 k _ (Own.ext (w := w) owa3 ?_) nd1 (by omega) (by omega)).mono ?_
  · (repeat (first | with_reducible exact Ext.refl _ | with_reducible assumption | ((with_reducible refine Ext.setCell ?_ ?_ _); rotate_left; focus (first | (simp; done) | (simp; omega))) | (with_reducible refine Ext.trans ?_ (Ext.alloc _ _)) | (with_reducible refine Ext.trans ?_ (Ext.drew _)) | (with_reducible refine Ext.trans ?_ (by with_reducible assumption))))
  rintro e w1 ⟨rfl, owa3_1, ch1⟩
  have x1_0 := ch1.cellOf (b := w.heap.size) (by first | (simp; done) | (simp; omega)) (fun h => by have := lt1 _ h; omega)
  have y1 := ch1.size
  have E0 := (fun W0 (_ : Chg (fun b => b ∈ ba3) W0 w1) (h : Ext w W0) => h) _ ch1 (by (repeat (first | with_reducible exact Ext.refl _ | with_reducible assumption | ((with_reducible refine Ext.setCell ?_ ?_ _); rotate_left; focus (first | (simp; done) | (simp; omega))) | (with_reducible refine Ext.trans ?_ (Ext.alloc _ _)) | (with_reducible refine Ext.trans ?_ (Ext.drew _)) | (with_reducible refine Ext.trans ?_ (by with_reducible assumption)))))
  go_wp2
  go_ret
  exact ⟨rfl, ⟨[.int .i64 a1], [.int .i64 a2, .slice pa3 (List.length a3) ca3], [], ([] ++ (ba3 ++ ([]))), rfl, ⟨rfl, rfl⟩, ⟨[.int .i64 a2], [.slice pa3 (List.length a3) ca3], [], (ba3 ++ ([])), rfl, ⟨rfl, rfl⟩, ⟨[.slice pa3 (List.length a3) ca3], [], ba3, [], rfl, owa3_1, ⟨rfl, rfl⟩, rfl⟩, rfl⟩, rfl⟩, (Chg.of_ext E0).trans (ch1.mono fun b hb => by simp [hb])⟩

set_option maxRecDepth 100000 in
set_option maxHeartbeats 1000000 in
theorem heldTensor_ok : HeldOk 83 shTensor := by
  intro cs d k w hu hk0 hk
  obtain ⟨a1, a2, a3, au⟩ := d
  have hu0 : Rep w shTensor cs (a1, a2, (mkV (.sl .flt) a3 k).1, au) := hu
  clear hu
  obtain ⟨_, _, rfl, rfl, _, _, rfl, rfl, _, _, rfl, ha3, rfl⟩ := hu0
  obtain ⟨pza3, cza3, rfl, hlza3⟩ := rep_val ha3
  simp only [ofCs, Sh.agg, List.cons_append, List.nil_append, if_true]
  have htot : tot shTensor (a1, a2, a3, au) = tot (.sl .flt) a3 := by simp only [tot]; omega
  rw [htot] at hk
  clear htot
  have B1 := mkV_bd (.sl .flt) (by decide) a3 k
  have hz1 : 0 ≤ (mkV (.sl .flt) a3 k).2 := by omega
  go_enter Try.func83, Try.ntmps83
  go_wp2_with fail
  refine (heldFloat32S_ok [.slice pza3 (List.length (mkV (.sl .flt) a3 k).1) cza3] a3 k _ (Rep.ext (w := w) ?_ ha3) (by omega) (by omega)).mono ?_
  · (repeat (first | with_reducible exact Ext.refl _ | with_reducible assumption | ((with_reducible refine Ext.setCell ?_ ?_ _); rotate_left; focus (first | (simp; done) | (simp; omega))) | (with_reducible refine Ext.trans ?_ (Ext.alloc _ _)) | (with_reducible refine Ext.trans ?_ (Ext.drew _)) | (with_reducible refine Ext.trans ?_ (by with_reducible assumption))))
  rintro e w1 ⟨rfl, e1⟩
  have x1_0 := e1.cellOf (b := w.heap.size) (by first | (simp; done) | (simp; omega))
  have y1 := e1.size
  go_wp2
  go_ret
  refine ⟨rfl, ?_⟩
  (repeat (first | with_reducible exact Ext.refl _ | with_reducible assumption | ((with_reducible refine Ext.setCell ?_ ?_ _); rotate_left; focus (first | (simp; done) | (simp; omega))) | (with_reducible refine Ext.trans ?_ (Ext.alloc _ _)) | (with_reducible refine Ext.trans ?_ (Ext.drew _)) | (with_reducible refine Ext.trans ?_ (by with_reducible assumption))))
end Go.Proofs.Ytnlhahlegedlaaa
