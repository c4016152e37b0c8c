/- NewLab of the program. -/
import Derived.Test.YtbdcjhhphkckcaaNewL
import Derived.Test.YtbdcjhhphkckcaaPick3
namespace Go.Proofs.Ytbdcjhhphkckcaa.lNewLab
set_option linter.unusedSimpArgs false
set_option linter.unusedVariables false
open Go.RowKit

def lay0 : shLayer.T := (0, 1, 1, [0], [0], ())
def opt0 : shOptimizer.T := (0, 1056964608, 0, 0, 0, ())
def tra0 : shTrainState.T := (([lay0], ()), [], 0, 0, 1065353216, ())
def lab0 : shLab.T := (opt0, ((1, 1, [0], ()), (1, 1, [0], ()), ()), tra0, ())
theorem rep_lay0 {w : World} {a b : Nat} (h1 : Cs w (some ⟨a, 0, none⟩) [.float .f32 0]) (h2 : Cs w (some ⟨b, 0, none⟩) [.float .f32 0]) : Rep w shLayer [.int .i64 0, .int .i64 1, .int .i64 1, .slice (some ⟨a, 0, none⟩) 1 1, .slice (some ⟨b, 0, none⟩) 1 1] lay0 :=
  ⟨[.int .i64 0], _, rfl, rfl, [.int .i64 1], _, rfl, rfl, [.int .i64 1], _, rfl, rfl, [.slice (some ⟨a, 0, none⟩) 1 1], _, rfl, rep_flts.2 ⟨_, 1, _, rfl, h1, f32_one, by decide, by decide⟩, [.slice (some ⟨b, 0, none⟩) 1 1], _, rfl, rep_flts.2 ⟨_, 1, _, rfl, h2, f32_one, by decide, by decide⟩, rfl⟩
theorem rep_mod0 {w : World} {a b c : Nat} (h1 : Cs w (some ⟨a, 0, none⟩) [.float .f32 0]) (h2 : Cs w (some ⟨b, 0, none⟩) [.float .f32 0]) (h3 : Cs w (some ⟨c, 0, none⟩) [.int .i64 0, .int .i64 1, .int .i64 1, .slice (some ⟨a, 0, none⟩) 1 1, .slice (some ⟨b, 0, none⟩) 1 1]) : Rep w shModel [.slice (some ⟨c, 0, none⟩) 1 1] (([lay0], ()) : shModel.T) :=
  ⟨[.slice (some ⟨c, 0, none⟩) 1 1], [], rfl, ⟨some ⟨c, 0, none⟩, 1, [_], rfl, by simpa using h3, by decide, by decide, .cons (rep_lay0 h1 h2) .nil⟩, rfl⟩
theorem own_opt0 (w : World) : Own w shOptimizer [.int .i64 0, .float .f32 1056964608, .float .f32 0, .float .f32 0, .float .f32 0] opt0 [] := by
  have e0 : cn .f32 0 = 0 := by decide +kernel
  have e1 : cn .f32 1056964608 = 1056964608 := by decide +kernel
  exact ⟨[.int .i64 0], _, [], [], rfl, ⟨rfl, rfl⟩, ⟨[.float .f32 1056964608], _, [], [], rfl, ⟨⟨_, rfl, e1⟩, rfl⟩, ⟨[.float .f32 0], _, [], [], rfl, ⟨⟨_, rfl, e0⟩, rfl⟩, ⟨[.float .f32 0], _, [], [], rfl, ⟨⟨_, rfl, e0⟩, rfl⟩, ⟨[.float .f32 0], [], [], [], rfl, ⟨⟨_, rfl, e0⟩, rfl⟩, ⟨rfl, rfl⟩, rfl⟩, rfl⟩, rfl⟩, rfl⟩, rfl⟩
theorem rep_opt0 (w : World) : Rep w shOptimizer [.int .i64 0, .float .f32 1056964608, .float .f32 0, .float .f32 0, .float .f32 0] opt0 := (own_opt0 w).rep
theorem fit0 : Fit shModel (([lay0], ()) : shModel.T) := by
  refine ⟨fun x hx => ?_, trivial⟩
  have hx : x = lay0 := by simpa using hx
  subst hx
  refine ⟨by show (-9223372036854775808 : Int) ≤ 0 ∧ (0 : Int) ≤ 9223372036854775807; omega, by show (-9223372036854775808 : Int) ≤ 1 ∧ (1 : Int) ≤ 9223372036854775807; omega, by show (-9223372036854775808 : Int) ≤ 1 ∧ (1 : Int) ≤ 9223372036854775807; omega, fun y hy => ?_, fun y hy => ?_, trivial⟩
  · have hy : y = 0 := by simpa [lay0] using hy
    subst hy; show 0 < 4294967296; decide
  · have hy : y = 0 := by simpa [lay0] using hy
    subst hy; show 0 < 4294967296; decide
theorem fitO : Fit shOptimizer opt0 := by
  refine ⟨by show (-9223372036854775808 : Int) ≤ 0 ∧ (0 : Int) ≤ 9223372036854775807; omega, by show 1056964608 < 4294967296; decide, by show 0 < 4294967296; decide, by show 0 < 4294967296; decide, by show 0 < 4294967296; decide, trivial⟩
theorem res0 : lNewTraining.res (([lay0], ()) : shModel.T) opt0 0 = (tra0, true) := by
  have h : lNewTraining.okN (([lay0], ()) : shModel.T) opt0 0 := by decide +kernel
  unfold lNewTraining.res
  rw [if_pos h]
  rfl
theorem own_lab {w : World} {q1 q2 pm ps : Option Addr} {n1 k1 n2 k2 nm km ns ks ub : Nat} {b1 b2 b3 : List Nat} (h1 : Own w (.sl .flt) [.slice q1 n1 k1] [0] b1) (h2 : Own w (.sl .flt) [.slice q2 n2 k2] [0] b2) (h3 : Own w shTrainState [.slice pm nm km, .slice ps ns ks, .int .i64 0, .int .i64 0, .float .f32 ub] tra0 b3) (e1 : n1 = 1) (e2 : n2 = 1) :
    Own w shLab [.int .i64 0, .float .f32 1056964608, .float .f32 0, .float .f32 0, .float .f32 0, .int .i64 1, .int .i64 1, .slice q1 n1 k1, .int .i64 1, .int .i64 1, .slice q2 n2 k2, .slice pm nm km, .slice ps ns ks, .int .i64 0, .int .i64 0, .float .f32 ub] lab0 ((b1 ++ b2) ++ b3) :=
  ⟨[.int .i64 0, .float .f32 1056964608, .float .f32 0, .float .f32 0, .float .f32 0], _, [], _, rfl, own_opt0 w, ⟨[.int .i64 1, .int .i64 1, .slice q1 n1 k1, .int .i64 1, .int .i64 1, .slice q2 n2 k2], _, b1 ++ b2, b3, rfl, lPickRows.own_exa (own_ten (by rw [e1]; rfl) h1) (own_ten (by rw [e2]; rfl) h2), ⟨_, [], b3, [], by rw [List.append_nil], h3, ⟨rfl, rfl⟩, by simp⟩, rfl⟩, rfl⟩
theorem tra0_cells {w : World} {cs : List Value} {bs : List Nat} (h : Own w shTrainState cs tra0 bs) : ∃ pm nm km ps ns ks ub, cs = [.slice pm nm km, .slice ps ns ks, .int .i64 0, .int .i64 0, .float .f32 ub] := by
  obtain ⟨v1, v2, b, rfl, h1, h2, _⟩ := tra_cells h.rep (by
    refine ⟨fit0, fun x hx => by simp [tra0] at hx, by show (-9223372036854775808 : Int) ≤ 0 ∧ (0 : Int) ≤ 9223372036854775807; omega, by show (-9223372036854775808 : Int) ≤ 0 ∧ (0 : Int) ≤ 9223372036854775807; omega, by show 1065353216 < 4294967296; decide, trivial⟩)
  obtain ⟨pm, km, g1, _⟩ := rep_val h1
  obtain ⟨ps, ks, g2, _⟩ := rep_val h2
  simp only [List.cons.injEq, and_true] at g1 g2
  rw [g1, g2]
  exact ⟨_, _, _, _, _, _, b, rfl⟩
set_option maxRecDepth 100000 in
set_option maxHeartbeats 4000000 in
theorem impl_ok (w : World) : Calls Try.prog 26 #[] w (RetOwn w shLab lab0) := by
  obtain ⟨Wa, hWa⟩ : ∃ Wa, Wa = w.alloc (.cells #[.int .i64 0, .float .f32 0, .float .f32 0, .float .f32 0, .float .f32 0, .int .i64 0, .int .i64 0, .slice none 0 0, .int .i64 0, .int .i64 0, .slice none 0 0, .slice none 0 0, .slice none 0 0, .int .i64 0, .int .i64 0, .float .f32 0] 50) := ⟨_, rfl⟩
  have ea : Ext w Wa := by subst hWa; exact Ext.alloc _ _
  have sa : Wa.heap.size = w.heap.size + 1 := by simp [hWa]
  have ba : HB Wa w.heap.size #[.int .i64 0, .float .f32 0, .float .f32 0, .float .f32 0, .float .f32 0, .int .i64 0, .int .i64 0, .slice none 0 0, .int .i64 0, .int .i64 0, .slice none 0 0, .slice none 0 0, .slice none 0 0, .int .i64 0, .int .i64 0, .float .f32 0] 50 := by rw [hWa]; exact heap_alloc_new w _
  obtain ⟨Wb, hWb⟩ : ∃ Wb, Wb = (Wa.alloc (.cells #[.int .i64 0, .float .f32 1056964608, .float .f32 0, .float .f32 0, .float .f32 0] 40)).alloc (.cells #[.float .f32 0] 22) := ⟨_, rfl⟩
  obtain ⟨eb, sb, b1, b2⟩ := box2 hWb
  rw [sa] at b1 b2
  obtain ⟨Wc, hWc⟩ : ∃ Wc, Wc = (Wb.alloc (.cells #[.float .f32 0] 22)).alloc (.cells #[.int .i64 0, .int .i64 1, .int .i64 1, .slice (some ⟨w.heap.size + 1 + 1, 0, none⟩) 1 1, .slice (some ⟨w.heap.size + 1 + 1 + 1, 0, none⟩) 1 1] 98) := ⟨_, rfl⟩
  obtain ⟨ec, sc, b3, b4⟩ := box2 hWc
  rw [sb, sa] at b3 b4
  have b1 : HB Wb (w.heap.size + 1) #[.int .i64 0, .float .f32 1056964608, .float .f32 0, .float .f32 0, .float .f32 0] 40 := b1
  have b2 : HB Wb (w.heap.size + 1 + 1) #[.float .f32 0] 22 := b2
  have b3 : HB Wc (w.heap.size + 1 + 1 + 1) #[.float .f32 0] 22 := b3
  have b4 : HB Wc (w.heap.size + 1 + 1 + 1 + 1) #[.int .i64 0, .int .i64 1, .int .i64 1, .slice (some ⟨w.heap.size + 1 + 1, 0, none⟩) 1 1, .slice (some ⟨w.heap.size + 1 + 1 + 1, 0, none⟩) 1 1] 98 := b4
  have E0 := ea.trans (eb.trans ec)
  have T := hid (lNewTraining.impl_ok [.slice (some ⟨w.heap.size + 1 + 1 + 1 + 1, 0, none⟩) 1 1] ([lay0], ()) [.int .i64 0, .float .f32 1056964608, .float .f32 0, .float .f32 0, .float .f32 0] opt0 0 Wc (rep_mod0 (cs_heap (b2.ext ec)) (cs_heap b3) (cs_heap b4)) (rep_opt0 Wc) fit0 fitO (by show (-9223372036854775808 : Int) ≤ 0 ∧ (0 : Int) ≤ 9223372036854775807; omega))
  rw [res0] at T
  have ba := ba.ext (eb.trans ec)
  have b1 := b1.ext ec
  obtain ⟨F, hF⟩ : ∃ F : Option Tmp → World → World → Value → Prop, F = fun _ w0 W u => ∃ q k, u = .agg #[.int .i64 1, .int .i64 1, .slice q 1 k] ∧ IsOwnY [22] w0.heap.size (.sl .flt) W [.slice q 1 k] [0] := ⟨_, rfl⟩
  have HF := hid hF
  clear hF b2 b3 b4
  go_enter Try.func26, Try.ntmps26
  go_wp2_with fail
  rw [← hWa, ← hWb, ← hWc]
  clear hWa hWb hWc
  refine T.out.mono ?_
  rintro e w1 ⟨cs1, bs1, rfl, ow1, nd1, lo1, _, e1⟩
  obtain ⟨pm, nm, km, ps, ns, ks, ub, rfl⟩ := tra0_cells ow1
  rw [show ofCs shTrainState [.slice pm nm km, .slice ps ns ks, .int .i64 0, .int .i64 0, .float .f32 ub] = .agg #[.slice pm nm km, .slice ps ns ks, .int .i64 0, .int .i64 0, .float .f32 ub] from rfl]
  go_wp2
  have hn := HB.new w1 #[.slice pm nm km, .slice ps ns ks, .int .i64 0, .int .i64 0, .float .f32 ub] 48
  have en := Ext.alloc w1 (.cells #[.slice pm nm km, .slice ps ns ks, .int .i64 0, .int .i64 0, .float .f32 ub] 48)
  generalize hW3 : w1.alloc (.cells #[.slice pm nm km, .slice ps ns ks, .int .i64 0, .int .i64 0, .float .f32 ub] 48) = w3 at *
  clear hW3
  have hD := e1.trans (en.trans (Ext.drew w3))
  have d1 := b1.ext hD
  have d2 := hn.ext (Ext.drew w3)
  have y0 := d1.cell 0 rfl; have y1 := d1.cell 1 rfl; have y2 := d1.cell 2 rfl; have y3 := d1.cell 3 rfl; have y4 := d1.cell 4 rfl
  have z0 := d2.cell 0 rfl; have z1 := d2.cell 1 rfl; have z2 := d2.cell 2 rfl; have z3 := d2.cell 3 rfl; have z4 := d2.cell 4 rfl
  refine wp_region_yt 5 (F := F) (by kernel_rfl) (by kernel_rfl) (by kernel_rfl) (by kernel_rfl) (by kernel_rfl) ?_
  intro wf hwf
  simp only [List.take_succ_cons, List.take_zero, List.drop_succ_cons, List.drop_zero]
  repeat (first
    | (refine x_skip rfl ?_; simp only [Act.put, ev_tmp, List.setIfInBounds_toArray, List.set_cons_succ, List.set_cons_zero, List.getD_cons_succ, List.getD_cons_zero])
    | (refine x_mv rfl rfl rfl ?_; simp only [Act.put, ev_tmp, List.setIfInBounds_toArray, List.set_cons_succ, List.set_cons_zero, List.getD_cons_succ, List.getD_cons_zero])
    | (refine x_as rfl rfl rfl ?_; simp only [Act.put, ev_tmp, List.setIfInBounds_toArray, List.set_cons_succ, List.set_cons_zero, List.getD_cons_succ, List.getD_cons_zero])
    | ((with_reducible show wpX _ _ _ _ _ _ (Oper.mk _ (Op.call _) _ _ _ _ :: _) _); refine y_callK (f := 82) (args := #[.int .i64 1, .int .i64 1, .float .f32 0]) rfl rfl Try.func82 rfl (by kernel_rfl) ?_ ?_ ?_; (focus (simp [Act.eval]; done)); (focus (intro w1 hw1 hK; exact (by rw [HF.out]; exact (filled_any w1).mono fun e w3 h => by obtain ⟨q, k, g1, g2, g3⟩ := lPickRows.ret_isY h; exact ⟨_, g1, g2, q, k, rfl, g3⟩))); rintro u wa wb e0 hK e3 e4 hu; simp only [HF.out] at hu; obtain ⟨qb, kb, rfl, o2⟩ := hu; obtain ⟨v0, v3', f0, f1, f2, f3⟩ := knownC_call hK (j := 1) (d := 16) (by kernel_rfl) rfl rfl rfl rfl Try.func82 rfl (by kernel_rfl) (by simp); rw [HF.out] at f3; obtain ⟨qc, kc, hqc, o1⟩ := f3; have hqd : Value.agg #[.int .i64 1, .int .i64 1, .slice qa 1 ka] = .agg #[.int .i64 1, .int .i64 1, .slice qc 1 kc] := hqc; simp only [Value.agg.injEq, Array.mk.injEq, List.cons.injEq, Value.slice.injEq, and_true, true_and] at hqd; obtain ⟨rfl, rfl⟩ := hqd; simp only [Act.put, ev_tmp, List.setIfInBounds_toArray, List.set_cons_succ, List.set_cons_zero, List.getD_cons_succ, List.getD_cons_zero])
    | ((with_reducible show wpX _ _ _ _ _ _ (Oper.mk _ (Op.call _) _ _ _ _ :: _) _); refine y_callK (f := 82) (args := #[.int .i64 1, .int .i64 1, .float .f32 0]) rfl rfl Try.func82 rfl (by kernel_rfl) ?_ ?_ ?_; (focus (simp [Act.eval]; done)); (focus (intro w1 hw1 hK; exact (by rw [HF.out]; exact (filled_any w1).mono fun e w3 h => by obtain ⟨q, k, g1, g2, g3⟩ := lPickRows.ret_isY h; exact ⟨_, g1, g2, q, k, rfl, g3⟩))); rintro u wa wb e0 hK e3 e4 hu; simp only [HF.out] at hu; obtain ⟨qa, ka, rfl, _⟩ := hu; simp only [Act.put, ev_tmp, List.setIfInBounds_toArray, List.set_cons_succ, List.set_cons_zero, List.getD_cons_succ, List.getD_cons_zero])
    | (refine x_run rfl fun K hK w1 hw1 => ?_; have k0 := hw1.cell (y0); have k1 := hw1.cell (y1); have k2 := hw1.cell (y2); have k3 := hw1.cell (y3); have k4 := hw1.cell (y4); have k5 := hw1.cell (z0); have k6 := hw1.cell (z1); have k7 := hw1.cell (z2); have k8 := hw1.cell (z3); have k9 := hw1.cell (z4); go_simp; refine hK _ ?_; clear hK K k0 k1 k2 k3 k4 k5 k6 k7 k8 k9 hw1 w1))
  refine x_nil ?_
  obtain ⟨b1', p1', p2', p3', _⟩ := o1
  obtain ⟨b2', s1', s2', s3', _⟩ := o2
  have p7 := p1'.lt
  have ow1lt := ow1.lt
  have r1 := p1'.ext ((f2.trans e3).trans e4)
  have r2 := s1'.ext e4
  have eX := en.trans ((Ext.drew w3).trans hwf)
  have r3 := ow1.ext eX
  have eW := hD.trans hwf
  have f9 := ba.ext eW
  have n0 := f9.cell 0 rfl; have n1 := f9.cell 1 rfl; have n2 := f9.cell 2 rfl; have n3 := f9.cell 3 rfl; have n4 := f9.cell 4 rfl; have n5 := f9.cell 5 rfl; have n6 := f9.cell 6 rfl; have n7 := f9.cell 7 rfl
  have n8 := f9.cell 8 rfl; have n9 := f9.cell 9 rfl; have n10 := f9.cell 10 rfl; have n11 := f9.cell 11 rfl; have n12 := f9.cell 12 rfl; have n13 := f9.cell 13 rfl; have n14 := f9.cell 14 rfl; have n15 := f9.cell 15 rfl
  have m0 := f9.froz 0; have m1 := f9.froz 1; have m2 := f9.froz 2; have m3 := f9.froz 3; have m4 := f9.froz 4; have m5 := f9.froz 5; have m6 := f9.froz 6; have m7 := f9.froz 7
  have m8 := f9.froz 8; have m9 := f9.froz 9; have m10 := f9.froz 10; have m11 := f9.froz 11; have m12 := f9.froz 12; have m13 := f9.froz 13; have m14 := f9.froz 14; have m15 := f9.froz 15
  have q1' := f0.size
  have q2' := e0.size
  have q3' := (en.trans (Ext.drew w3)).size
  have q4' := f2.size
  have q5' := ec.size
  have q6' := eb.size
  have q7' := e1.size
  have l1 : ∀ b ∈ b1', w1.heap.size ≤ b := fun b hb => by have := p3' b hb; omega
  have l2 : ∀ b ∈ b2', w1.heap.size ≤ b := fun b hb => by have := s3' b hb; omega
  have hlo : ∀ b ∈ (b1' ++ b2') ++ bs1, w.heap.size + 1 ≤ b := fun b hb => by
    rcases List.mem_append.1 hb with h | h
    · rcases List.mem_append.1 h with h | h
      · have := l1 b h; omega
      · have := l2 b h; omega
    · have := lo1 b h; omega
  have hnd0 := nodup_app p2' s2' (B := wa.heap.size) (fun x hx => by have := p7 x hx; omega) (fun x hx => s3' x hx)
  have hnd : ((b1' ++ b2') ++ bs1).Nodup := by
    rw [List.nodup_append]
    refine ⟨hnd0, nd1, fun x hx y hy he => ?_⟩
    subst he
    have h1 := ow1lt x hy
    rcases List.mem_append.1 hx with h | h
    · have := l1 x h; omega
    · have := l2 x h; omega
  have OL := own_lab r1 r2 r3 rfl rfl
  clear p1' s1' p2' s2' p3' s3' p7 r1 r2 r3 y0 y1 y2 y3 y4 z0 z1 z2 z3 z4 d1 d2 T l1 l2 ow1 nd1 lo1 hnd0
  go_wp2
  refine bodyPost_ret (v := .agg #[.int .i64 0, .float .f32 1056964608, .float .f32 0, .float .f32 0, .float .f32 0, .int .i64 1, .int .i64 1, .slice qa 1 ka, .int .i64 1, .int .i64 1, .slice qb 1 kb, .slice pm nm km, .slice ps ns ks, .int .i64 0, .int .i64 0, .float .f32 ub]) (by simp [results, Try.results26, go_sem, n0, n1, n2, n3, n4, n5, n6, n7, n8, n9, n10, n11, n12, n13, n14, n15, m0, m1, m2, m3, m4, m5, m6, m7, m8, m9, m10, m11, m12, m13, m14, m15]) rfl ?_
  generalize hWf : World.setCell _ _ _ = WF
  have ch : Chg (fun b => b = w.heap.size) wf WF := by subst hWf; (repeat (first | with_reducible exact Chg.refl _ _ | (with_reducible exact Chg.of_ext (by with_reducible assumption)) | with_reducible assumption | ((with_reducible refine Chg.setCell ?_ ?_ _); rotate_left; focus (first | (simp; done) | (simp; omega))) | (with_reducible refine Chg.alloc ?_ _) | (with_reducible refine Chg.drew ?_) | (with_reducible refine Chg.trans ?_ (Chg.of_ext (by with_reducible assumption)))))
  clear hWf
  exact ⟨_, _, rfl, OL.chg ch (fun b hb h => by have := hlo b hb; omega), hnd, fun b hb => by have := hlo b hb; omega, (E0.trans eW).chg ch (fun b hb => by omega)⟩
end Go.Proofs.Ytbdcjhhphkckcaa.lNewLab
