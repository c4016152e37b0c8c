/- NewTraining of the reference. -/
import Derived.Test.YtbdcjhhphkckcaaNewT
namespace Go.Proofs.Ytbdcjhhphkckcaa.lNewTraining
set_option linter.unusedSimpArgs false
set_option linter.unusedVariables false
open Go.RowKit

theorem vt_spec {k : Int} {q qs : Option Addr} {kq ks sl n : Nat} {l : List shLayer.T} {a : Int} {w : World} (bo b1 : Nat) (hk : inB k 0 4 = true) (hm : modB l = true) (hf : Fit (.sl shLayer) l) (o1 : Rep w (.sl shLayer) [.slice q n kq] l) (o2 : Rep w (.sl (.sl .flt)) [.slice qs sl ks] (emptyF k (parF l).length))
    (go : w.cell? ⟨bo, 0, none⟩ = some (.int .i64 k)) (g0 : w.cell? ⟨b1, 0, none⟩ = some (.slice q n kq)) (g1 : w.cell? ⟨b1, 1, none⟩ = some (.slice qs sl ks)) (g2 : w.cell? ⟨b1, 2, none⟩ = some (.int .i64 0)) (g3 : w.cell? ⟨b1, 3, none⟩ = some (.int .i64 a)) :
    Calls Try.prog 70 #[.pointer (some ⟨bo, 0, none⟩), .pointer (some ⟨b1, 0, none⟩)] w (RetB w (inB a 0 2147483647 && decide ((parF l).length ≤ 256))) := by
  obtain ⟨p1, c1, css, e1, L1⟩ := lays_of o1 hf
  obtain ⟨p2, c2, us, e2, S1⟩ := slts_of o2 (fit_empty _ _)
  rw [← vt_empty hk hm]
  rw [e1] at g0
  rw [e2] at g1
  exact l07Is_any bo b1 k p1 p2 _ c1 _ c2 0 a css us l _ w L1 S1 go g0 g1 g2 g3
set_option maxRecDepth 100000 in
set_option maxHeartbeats 4000000 in
theorem spec_ok (cs0 : List Value) (D0 : shModel.T) (cs1 : List Value) (D1 : shOptimizer.T) (a2 : Int) (w : World) (h0 : Rep w shModel cs0 D0) (h1 : Rep w shOptimizer cs1 D1) (f0 : Fit shModel D0) (_ : Fit shOptimizer D1) (_ : Fit .int a2) : Calls Try.prog 16 #[ofCs shModel cs0, ofCs shOptimizer cs1, .int .i64 a2] w (OutT w 48 shTrainState (res D0 D1 a2)) := by
  obtain ⟨L0, u0⟩ := D0
  obtain ⟨c0, c1, rfl, k0, rfl⟩ := h0
  obtain ⟨p, c, rfl, _⟩ := rep_val k0
  obtain ⟨p', c', css, he0, L⟩ := lays_of k0 f0.1
  cases he0
  obtain ⟨g1, g2, g3, g4, rfl⟩ := lValidTraining.opt_cells h1
  obtain ⟨k, o2⟩ := D1
  have hfit : Fit (.sl shLayer) L0 := f0.1
  simp only [ofCs, Sh.agg, if_true, List.append_nil]
  obtain ⟨W0, hW0⟩ : ∃ W0, W0 = ((w.alloc (.cells #[.slice p L0.length c] 46)).alloc (.cells #[.int .i64 k, .float .f32 g1, .float .f32 g2, .float .f32 g3, .float .f32 g4] 40)).alloc (.cells #[.slice none 0 0, .slice none 0 0, .int .i64 0, .int .i64 0, .float .f32 0] 48) := ⟨_, rfl⟩
  obtain ⟨E0, s0, b0, b1, b2⟩ := box3 hW0
  have b0 : HB W0 w.heap.size #[.slice p L0.length c] 46 := b0
  have b1 : HB W0 (w.heap.size + 1) #[.int .i64 k, .float .f32 g1, .float .f32 g2, .float .f32 g3, .float .f32 g4] 40 := b1
  have b2 : HB W0 (w.heap.size + 1 + 1) #[.slice none 0 0, .slice none 0 0, .int .i64 0, .int .i64 0, .float .f32 0] 48 := b2
  have A := hid (fun W (h : Ext W0 W) => l03Is_any (sp := none) w.heap.size 0 p L0.length c L0 css W ((b0.ext h).cell 0 rfl) L.len L.le (L.cs.ext (E0.trans h)) (L.all.imp fun _ _ => Rep.ext (E0.trans h)) L.size L.cnt)
  have B := hid (fun W (h : Ext W0 W) => l05Is_any (sp := none) (w.heap.size + 1) 0 k W ((b1.ext h).cell 0 rfl))
  clear k0 h1
  cases hb0 : modB L0
  · rw [res_no (fun h => by have := h.1; dsimp only at this; rw [hb0] at this; cases this)]
    rw [hb0] at A
    clear L f0 b0 b1 hb0 hfit
    generalize L0.length = n0 at *
    go_enter Try.func16, Try.ntmps16
    go_wp2_with fail
    rw [← hW0]
    clear hW0
    refine (A.out _ (Ext.refl _)).mono ?_
    rintro e w1 ⟨rfl, e1⟩
    have f1 := b2.ext e1
    have n1 := f1.cell 0 rfl; have n2 := f1.cell 1 rfl; have n3 := f1.cell 2 rfl; have n4 := f1.cell 3 rfl; have n5 := f1.cell 4 rfl
    have m1 := f1.froz 0; have m2 := f1.froz 1; have m3 := f1.froz 2; have m4 := f1.froz 3; have m5 := f1.froz 4
    go_wp2
    refine bodyPost_ret (v := .tuple #[.agg #[.slice none 0 0, .slice none 0 0, .int .i64 0, .int .i64 0, .float .f32 0], .bool false]) (by simp [results, Try.results16, go_sem, n1, n2, n3, n4, n5, m1, m2, m3, m4, m5]) rfl ?_
    exact out_no rfl (by have := E0.trans e1; (repeat (first | with_reducible exact Ext.refl _ | with_reducible assumption | ((with_reducible refine Ext.setCell ?_ ?_ _); rotate_left; focus (first | (simp; done) | (simp; omega))) | (with_reducible refine Ext.trans ?_ (Ext.alloc _ _)) | (with_reducible refine Ext.trans ?_ (Ext.drew _)) | (with_reducible refine Ext.trans ?_ (by with_reducible assumption)))))
  rw [hb0] at A
  have hM := modOk hb0
  have hS := small_of hM
  have hN9 := modB_par hb0
  cases hk : inB k 0 4
  · rw [res_no (fun h => by have := h.2.1; dsimp only at this; rw [hk] at this; cases this)]
    rw [hk] at B
    clear L f0 b0 b1 hb0 hfit hM hS hk
    generalize L0.length = n0 at *
    go_enter Try.func16, Try.ntmps16
    go_wp2_with fail
    rw [← hW0]
    clear hW0
    refine (A.out _ (Ext.refl _)).mono ?_
    rintro e w1 ⟨rfl, e1⟩
    have f1 := b2.ext e1
    have n1 := f1.cell 0 rfl; have n2 := f1.cell 1 rfl; have n3 := f1.cell 2 rfl; have n4 := f1.cell 3 rfl; have n5 := f1.cell 4 rfl
    have m1 := f1.froz 0; have m2 := f1.froz 1; have m3 := f1.froz 2; have m4 := f1.froz 3; have m5 := f1.froz 4
    go_wp2_with (go_at_call 66; refine (B.out _ e1).mono ?_; rintro e w2 ⟨rfl, rfl⟩)
    refine bodyPost_ret (v := .tuple #[.agg #[.slice none 0 0, .slice none 0 0, .int .i64 0, .int .i64 0, .float .f32 0], .bool false]) (by simp [results, Try.results16, go_sem, n1, n2, n3, n4, n5, m1, m2, m3, m4, m5]) rfl ?_
    exact out_no rfl (by have := E0.trans e1; (repeat (first | with_reducible exact Ext.refl _ | with_reducible assumption | ((with_reducible refine Ext.setCell ?_ ?_ _); rotate_left; focus (first | (simp; done) | (simp; omega))) | (with_reducible refine Ext.trans ?_ (Ext.alloc _ _)) | (with_reducible refine Ext.trans ?_ (Ext.drew _)) | (with_reducible refine Ext.trans ?_ (by with_reducible assumption)))))
  rw [hk] at B
  have P := hid (fun W (h : Ext W0 W) => (l03Params_any (sp := none) w.heap.size 0 p L0.length c L0 css W ((b0.ext h).cell 0 rfl) L.len L.le (L.cs.ext (E0.trans h)) (L.all.imp fun _ _ => Rep.ext (E0.trans h)) L.size L.cnt (by omega)).mono fun e w3 h3 => h3.is)
  have CM := hid (fun W (h : Ext W0 W) => l07Own_any (sp := none) w.heap.size 0 p L0.length c css L0 W (L.ext (E0.trans h)) hS ((b0.ext h).cell 0 rfl))
  have ES := hid (fun W (h : Ext W0 W) => l05Empty_any (sp := none) (w.heap.size + 1) 0 k (parF L0).length W (by omega) ((b1.ext h).cell 0 rfl))
  have VT := hid (fun W (h : Ext W0 W) (b8 : Nat) (q qs : Option Addr) (kq ks sl : Nat) o1 o2 k0 k1 k2 k3 => vt_spec (q := q) (qs := qs) (kq := kq) (ks := ks) (sl := sl) (n := L0.length) (a := a2) (w := W) (w.heap.size + 1) b8 hk hb0 hfit o1 o2 ((b1.ext h).cell 0 rfl) k0 k1 k2 k3)
  have HNo := hid (fun (h : (inB a2 0 2147483647 && decide ((parF L0).length ≤ 256)) = false) => show res (L0, u0) (k, o2) a2 = (noT, false) from res_no (fun hh => by have h2 := hh.2.2.2; have h3 := hh.2.2.1; dsimp only at h3; rw [h2, decide_eq_true h3] at h; cases h))
  have HYes := hid (fun (h : (inB a2 0 2147483647 && decide ((parF L0).length ≤ 256)) = true) => show res (L0, u0) (k, o2) a2 = (((L0, ()), emptyF k (parF L0).length, 0, a2, 1065353216, ()), true) from by
    rw [Bool.and_eq_true, decide_eq_true_eq] at h
    unfold res; rw [if_pos ⟨hb0, hk, h.2, h.1⟩])
  clear L f0 hb0 hfit hM hS hk
  generalize res (L0, u0) (k, o2) a2 = rs at *
  generalize emptyF k (parF L0).length = slots at *
  generalize (inB a2 0 2147483647 && decide ((parF L0).length ≤ 256)) = ib at *
  generalize (parF L0) = pl at *
  generalize L0.length = n0 at *
  generalize hNN : pl.length = N at *
  have HN := hid hNN
  clear hNN
  generalize slotN k = sl at *
  go_enter Try.func16, Try.ntmps16
  go_wp2_with fail
  rw [← hW0]
  clear hW0
  refine (A.out _ (Ext.refl _)).mono ?_
  rintro e w1 ⟨rfl, e1⟩
  go_wp2_with fail
  refine (B.out _ e1).mono ?_
  rintro e w2 ⟨rfl, rfl⟩
  go_wp2_with fail
  refine (CM.out _ e1).mono ?_
  rintro e w5 ⟨q5, k5, rfl, om, e5⟩
  have OM := hid om
  clear om
  go_wp2_with fail
  have hb8 := HB.new w5 #[.slice q5 n0 k5, .slice none 0 0, .int .i64 0, .int .i64 a2, .float .f32 1065353216] 48
  have E6 := Ext.alloc w5 (.cells #[.slice q5 n0 k5, .slice none 0 0, .int .i64 0, .int .i64 a2, .float .f32 1065353216] 48)
  generalize hW6 : w5.alloc (.cells #[.slice q5 n0 k5, .slice none 0 0, .int .i64 0, .int .i64 a2, .float .f32 1065353216] 48) = w6 at *
  clear hW6
  have e6 := e1.trans (e5.trans E6)
  refine (P.out _ e6).mono ?_
  rintro e w7 ⟨u7, rfl, e7, q7, k7, vs7, rfl, _, _⟩
  rw [HN.out]
  go_wp2_with fail
  refine (ES.out _ (e6.trans e7)).mono ?_
  rintro e w8 ⟨qs, ks, rfl, os, e8⟩
  have OS := hid os
  clear os
  have hb9 := (hb8.ext e7).ext e8
  have hlt5 := hb8.lt
  have y1 := hb9.cell 1 rfl
  have y2 := hb9.froz 1
  go_wp2_with fail
  have hb10 : HB (w8.setCell ⟨w5.heap.size, 1, none⟩ (.slice qs sl ks)) w5.heap.size #[.slice q5 n0 k5, .slice qs sl ks, .int .i64 0, .int .i64 a2, .float .f32 1065353216] 48 := hb9.set 1 (.slice qs sl ks)
  have ch9 := chg_cell w8 w5.heap.size 1 (.slice qs sl ks)
  generalize hW9 : w8.setCell ⟨w5.heap.size, 1, none⟩ (.slice qs sl ks) = w9 at *
  clear hW9 y1 y2
  have E9 : Ext w5 w9 := (E6.trans (e7.trans e8)).chg ch9 (fun b hb => by omega)
  have e9 := e1.trans (e5.trans E9)
  obtain ⟨bm, t1, m2, m3, t4⟩ := OM.out
  obtain ⟨bs, s1, s2, s3, s4⟩ := OS.out
  have mlt := t1.lt
  have q1' := e1.size
  have q2' := E6.size
  have q3' := e5.size
  have q4' := e7.size
  have m1 := t1.ext E9
  have m4 := t4.ext E9
  have r1 := s1.chg ch9 (fun b hb h => by have := s3 b hb; have h : b = _ := h; omega)
  have r4 := s4.chg ch9 (fun b hb h => by have := s3 b hb; have h : b = _ := h; omega)
  refine (VT.out _ e9 _ q5 qs k5 ks sl m1.rep r1.rep (hb10.cell 0 rfl) (hb10.cell 1 rfl) (hb10.cell 2 rfl) (hb10.cell 3 rfl)).mono ?_
  rintro e wz ⟨rfl, ez⟩
  have eW := e9.trans ez
  have f1 := b2.ext eW
  have n1 := f1.cell 0 rfl; have n2 := f1.cell 1 rfl; have n3 := f1.cell 2 rfl; have n4 := f1.cell 3 rfl; have n5 := f1.cell 4 rfl
  have x1 := f1.froz 0; have x2 := f1.froz 1; have x3 := f1.froz 2; have x4 := f1.froz 3; have x5 := f1.froz 4
  cases ib
  · have hno := HNo.out rfl
    subst hno
    go_wp2
    refine bodyPost_ret (v := .tuple #[.agg #[.slice none 0 0, .slice none 0 0, .int .i64 0, .int .i64 0, .float .f32 0], .bool false]) (by simp [results, Try.results16, go_sem, n1, n2, n3, n4, n5, x1, x2, x3, x4, x5]) rfl ?_
    exact out_no rfl (by have := E0.trans eW; (repeat (first | with_reducible exact Ext.refl _ | with_reducible assumption | ((with_reducible refine Ext.setCell ?_ ?_ _); rotate_left; focus (first | (simp; done) | (simp; omega))) | (with_reducible refine Ext.trans ?_ (Ext.alloc _ _)) | (with_reducible refine Ext.trans ?_ (Ext.drew _)) | (with_reducible refine Ext.trans ?_ (by with_reducible assumption)))))
  · have hyes := HYes.out rfl
    subst hyes
    have c7 := cs_heap (hb10.ext ez)
    have lo1 : ∀ b ∈ bm, W0.heap.size ≤ b := fun b hb => by have := m3 b hb; omega
    have lo2 : ∀ b ∈ bs, W0.heap.size ≤ b := fun b hb => by have := s3 b hb; omega
    have o1 := m1.ext ez
    have o2 := r1.ext ez
    have ty := ((m4.ext ez).mono (us := [98, 25, 22]) (by simp)).app ((r4.ext ez).mono (us := [98, 25, 22]) (by simp))
    have hnd : (bm ++ bs).Nodup := by
      rw [List.nodup_append]
      refine ⟨m2, s2, fun x hx y hy he => ?_⟩
      subst he
      have := mlt x hx; have := s3 x hy; omega
    clear HNo HYes VT CM P ES A B OM OS m1 m4 s1 s4 t1 t4 r1 r4
    go_wp2_with ((with_reducible show wpList _ _ _ (Oper.mk _ (Op.load _ _) _ _ _ _ :: _) _ _); refine wl_ldA (s := shTrainState) (cs := [.slice q5 n0 k5, .slice qs sl ks, .int .i64 0, .int .i64 a2, .float .f32 1065353216]) rfl rfl rfl c7 rfl ?_; rw [show ofCs shTrainState [.slice q5 n0 k5, .slice qs sl ks, .int .i64 0, .int .i64 a2, .float .f32 1065353216] = .agg #[.slice q5 n0 k5, .slice qs sl ks, .int .i64 0, .int .i64 a2, .float .f32 1065353216] from rfl])
    refine bodyPost_ret (v := .tuple #[.agg #[.slice q5 n0 k5, .slice qs sl ks, .int .i64 0, .int .i64 a2, .float .f32 1065353216], .bool true]) (by simp [results, Try.results16, go_sem, n1, n2, n3, n4, n5, x1, x2, x3, x4, x5]) rfl ?_
    generalize hWf : World.setCell _ _ _ = WF
    have ch : Chg (fun b => b = w.heap.size + 1 + 1) wz WF := by subst hWf; (repeat (first | with_reducible exact Chg.refl _ _ | (with_reducible exact Chg.of_ext (by with_reducible assumption)) | with_reducible assumption | ((with_reducible refine Chg.setCell ?_ ?_ _); rotate_left; focus (first | (simp; done) | (simp; omega))) | (with_reducible refine Chg.alloc ?_ _) | (with_reducible refine Chg.drew ?_) | (with_reducible refine Chg.trans ?_ (Chg.of_ext (by with_reducible assumption)))))
    clear hWf
    have ot := own_tra (o1.chg ch (fun b hb h => by have := lo1 b hb; omega)) (o2.chg ch (fun b hb h => by have := lo2 b hb; omega)) 0 a2 1065353216
    rw [show cn .f32 1065353216 = 1065353216 from by decide +kernel] at ot
    exact ⟨[.slice q5 n0 k5, .slice qs sl ks, .int .i64 0, .int .i64 a2, .float .f32 1065353216], bm ++ bs, rfl, ot, hnd, fun b hb => by
      rcases List.mem_append.1 hb with h | h
      · have := lo1 b h; omega
      · have := lo2 b h; omega, (ty.chg ch (fun b hb h => by
        rcases List.mem_append.1 hb with h' | h'
        · have := lo1 b h'; omega
        · have := lo2 b h'; omega)).no (by decide), (E0.trans eW).chg ch (fun b hb => by omega)⟩
end Go.Proofs.Ytbdcjhhphkckcaa.lNewTraining
