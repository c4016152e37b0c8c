/- Rows picked, by the program and by the reference. -/
import Derived.Test.YtbdcjhhphkckcaaPick
namespace Go.Proofs.Ytbdcjhhphkckcaa
set_option linter.unusedSimpArgs false
set_option linter.unusedVariables false
open Go.RowKit

set_option maxRecDepth 100000 in
set_option maxHeartbeats 4000000 in
theorem picked_any (q0 p3 : Option Addr) (R C cp m c3 : Nat) (rows : List Int) (us : List Value) (xs : List Nat) (w : World) (hR1 : R ≤ 16) (hC : C ≤ 16) (hxs : xs.length = R * C) (hcp : R * C ≤ cp) (hcm : cp ≤ maxLen) (hp : Cs w q0 us) (hf : F32s us xs)
    (hm : rows.length = m) (hm16 : m ≤ 16) (hin : InR rows R) (hp3 : Cs w p3 (rows.map (Value.int .i64))) :
    Calls Try.prog 92 #[.agg #[.int .i64 R, .int .i64 C, .slice q0 (R * C) cp], .slice p3 m c3] w (RetTen w m C (pickF xs C rows m)) := by
  have hlen := pickF_len (C := C) hxs hin
  rw [hm] at hlen
  have Hlen := hid hlen
  have B := hid (fun i (hi : i < R) W (h : Ext w W) => row_any R C i (R * C) cp q0 W hi hR1 hC rfl hcp)
  have Hrow := hid (fun i (hi : i < R) W (h : Ext w W) => rep_row (hp.ext h) hf hxs hi hcp hcm)
  have Hrl := hid (fun i (hi : i < R) => rowT_len hxs hi)
  have Hs := hid (fun i (hi : i < m) => pickF_succ xs C (rows := rows) (i := i) (by rw [hm]; exact hi))
  have Hat := hid (fun i (hi : i < m) => hin.at (i := i) (by rw [hm]; exact hi))
  have Hg := hid (fun i (hi : i < m) => show (rows.map (Value.int .i64))[i]? = some (.int .i64 (rows.getD i 0)) from by simp [show i < rows.length by rw [hm]; exact hi])
  have Hml := hid (show (rows.map (Value.int .i64)).length = m from by rw [List.length_map]; exact hm)
  have hRC : R * C ≤ 256 := Nat.mul_le_mul hR1 hC
  clear hlen hp hf hxs hm hin
  generalize rows.map (Value.int .i64) = rv at *
  generalize R * C = kk at *
  obtain ⟨W0, hW0⟩ : ∃ W0, W0 = (w.alloc (.cells #[.int .i64 R, .int .i64 C, .slice q0 kk cp] 41)).alloc (.cells #[.int .i64 0, .int .i64 0, .slice none 0 0] 41) := ⟨_, rfl⟩
  obtain ⟨E0, s0, b0, b1⟩ := box2 hW0
  have t0 : W0.cell? ⟨w.heap.size, 0, none⟩ = some (.int .i64 R) := cell_of_heap b0 rfl
  have t1 : W0.cell? ⟨w.heap.size, 1, none⟩ = some (.int .i64 C) := cell_of_heap b0 rfl
  have t2 : W0.cell? ⟨w.heap.size, 2, none⟩ = some (.slice q0 kk cp) := cell_of_heap b0 rfl
  have z0 : W0.cell? ⟨w.heap.size + 1, 0, none⟩ = some (.int .i64 0) := cell_of_heap b1 rfl
  have z1 : W0.cell? ⟨w.heap.size + 1, 1, none⟩ = some (.int .i64 0) := cell_of_heap b1 rfl
  have z2 : W0.cell? ⟨w.heap.size + 1, 2, none⟩ = some (.slice none 0 0) := cell_of_heap b1 rfl
  have y0 := fun j => frozen_of_heap b1 (j := j)
  have hb3 : (W0.alloc (.cells #[.int .i64 m, .int .i64 C, .slice none 0 0] 41)).heap[w.heap.size + 1 + 1]? = some (.cells #[.int .i64 m, .int .i64 C, .slice none 0 0] 41) := by
    have := heap_alloc_new W0 (.cells #[.int .i64 m, .int .i64 C, .slice none 0 0] 41)
    rwa [s0] at this
  have e0 := Ext.alloc W0 (.cells #[.int .i64 m, .int .i64 C, .slice none 0 0] 41)
  clear b0 b1
  go_enter Try.func92, Try.ntmps92
  go_wp2
  rw [← hW0]
  clear hW0
  generalize hW1 : W0.alloc (.cells #[.int .i64 m, .int .i64 C, .slice none 0 0] 41) = W1 at *
  clear hW1
  go_loopw [15] (fun iv wr => ∃ (i : Nat) (v : Value) (vs : List Value), i ≤ m ∧ iv = .int .i64 i ∧ wr.heap[w.heap.size + 1 + 1]? = some (.cells #[.int .i64 m, .int .i64 C, v] 41) ∧ wr.ownsRow (w.heap.size + 2) 22 1 v (i * C) vs ∧ Hid (F32s vs (pickF xs C rows i)) ∧ Ext W0 wr) (fun iv _ => m - (intOf iv).toNat)
  case atStart => exact ⟨0, .slice none 0 0, [], by omega, rfl, hb3, ⟨by simp, .inl ⟨rfl, by simp⟩⟩, F32s.nil, e0⟩
  case round =>
    clear hb3 e0
    obtain ⟨i, v, vs, hi, rfl, hB, hown, HV, he⟩ := hrel
    obtain ⟨q6, c6, rfl⟩ := own_slice hown
    by_cases hlt : i < m
    · have hRm : i * C ≤ 256 := Nat.mul_le_mul (show i ≤ 16 by omega) hC
      obtain ⟨r, hr, hrR⟩ := Hat.out i hlt
      have hg := Hg.out i hlt
      have hs := Hs.out i hlt
      rw [hr] at hg hs
      rw [Int.toNat_natCast] at hs
      have Hgi := hid hg
      have Hsi := hid hs
      have Am := hid (show (i + 1) * C = i * C + C from by rw [Nat.add_mul, Nat.one_mul])
      have hk3 := hp3.ext (E0.trans he)
      have hz : w.heap.size + 1 + 1 < wr.heap.size := by
        rcases Nat.lt_or_ge (w.heap.size + 1 + 1) wr.heap.size with h' | h'
        · exact h'
        · simp [Array.getElem?_eq_none h'] at hB
      clear hg hs hr
      go_wp2_with ((with_reducible show wpList _ _ _ (Oper.mk _ (Op.indexAddr _ _ _) _ _ _ _ :: Oper.mk _ (Op.load _ _) _ _ _ _ :: _) _ _); refine wl_idxload rfl rfl rfl rfl (fun _ => rfl) rfl rfl hk3 Hml.out (by omega) (by omega) ?_; intro u hu; rw [Int.toNat_natCast] at hu; replace hu := Hgi.out.symm.trans hu; cases hu)
      have eD := he.trans (Ext.drew wr)
      have g0 := eD.cell t0
      have g1 := eD.cell t1
      have g2 := eD.cell t2
      have C1 := hid (fun W (h : Ext wr.drew W) => B.out r hrR W (E0.trans (eD.trans h)))
      have o1 : wr.drew.cell? ⟨w.heap.size + 1 + 1, 2, none⟩ = some (.slice q6 (i * C) c6) := (Ext.drew wr).cell (cell_of_heap hB rfl)
      have Hrl1 := hid (Hrl.out r hrR)
      have Hro := hid (fun W (h : Ext w W) => Hrow.out r hrR W h)
      generalize rowT xs C r = row at *
      generalize hrc : r * C = rC at *
      clear hrc
      obtain ⟨F, hF⟩ : ∃ F : Option Tmp → World → Value → Prop, F = fun _ _ u => u = .slice (subp q0 1 rC cp) C (cp - rC) := ⟨_, rfl⟩
      have HF := hid hF
      clear hF
      refine wp_region_xt 5 (F := F) (by kernel_rfl) (by kernel_rfl) (by kernel_rfl) (by kernel_rfl) (by kernel_rfl) ?_
      intro wf hwf
      simp only [List.take_succ_cons, List.take_zero, List.drop_succ_cons, List.drop_zero]
      repeat (first
        | (refine x_skip rfl ?_; simp only [Act.put, ev_tmp, List.setIfInBounds_toArray, List.set_cons_succ, List.set_cons_zero, List.getD_cons_succ, List.getD_cons_zero])
        | (refine x_mv rfl rfl rfl ?_; simp only [Act.put, ev_tmp, List.setIfInBounds_toArray, List.set_cons_succ, List.set_cons_zero, List.getD_cons_succ, List.getD_cons_zero])
        | (refine x_as rfl rfl rfl ?_; simp only [Act.put, ev_tmp, List.setIfInBounds_toArray, List.set_cons_succ, List.set_cons_zero, List.getD_cons_succ, List.getD_cons_zero])
        | ((with_reducible show wpX _ _ _ _ _ _ (Oper.mk _ (Op.call _) _ _ _ _ :: _) _); refine x_callf (f := 133) (args := #[.agg #[.int .i64 R, .int .i64 C, .slice q0 kk cp], .int .i64 r]) rfl rfl Try.func133 rfl (by kernel_rfl) ?_ ?_ ?_; (focus (simp [Act.eval]; done)); (focus (intro w1 hw1; exact (by rw [HF.out]; exact (C1.out w1 hw1).mono fun e w3 h => ⟨_, h.1, h.2, rfl⟩))); rintro u w3 e3 e4 hu; simp only [HF.out] at hu; subst hu; simp only [Act.put, ev_tmp, List.setIfInBounds_toArray, List.set_cons_succ, List.set_cons_zero, List.getD_cons_succ, List.getD_cons_zero])
        | (refine x_run rfl fun K hK w1 hw1 => ?_; have k0 := hw1.cell (o1); have k1 := hw1.cell (g0); have k2 := hw1.cell (g1); have k3 := hw1.cell (g2); go_simp; refine hK _ ?_; clear hK K k0 k1 k2 k3 hw1 w1))
      refine x_nil ?_
      have eW := (Ext.drew wr).trans hwf
      have l1 := he.trans eW
      obtain ⟨us5, hx5, hc5, hf5, hmc5⟩ := rep_flt1 (Hro.out wf (E0.trans l1))
      have hownH := own_ext hown eW
      have hBw : wf.heap[w.heap.size + 1 + 1]? = some (.cells #[.int .i64 m, .int .i64 C, .slice q6 (i * C) c6] 41) := by rw [eW.block _ hz]; exact hB
      have hzH : w.heap.size + 1 + 1 < wf.heap.size := Nat.lt_of_lt_of_le hz eW.size
      have hmm := hid (hf5.one)
      have htag := own_tag hownH hBw (by decide)
      have hCm := hid (show us5.length = C from by rw [hf5.1]; exact hx5)
      have hmc : C ≤ cp - rC := by rw [← hx5]; exact hmc5
      clear hx5 hmc5
      go_wp2_with ((with_reducible show wpList _ _ _ (Oper.mk _ (Op.call _) _ _ _ _ :: _) _ _); refine wl_appz rfl rfl rfl rfl hownH hc5 (by rw [Nat.mul_one]; exact hCm.out) hmc hmm.out (by unfold maxLen; omega) (by omega) (by omega) ?_; intro v9 w9 own9 g9; obtain ⟨q9, c9, rfl⟩ := own_slice own9; have blk := (g9.block _ hzH (fun hh => htag _ hh.symm rfl)).trans hBw; have l5 : w9.cell? ⟨w.heap.size + 1 + 1, 2, none⟩ = some (.slice q6 (i * C) c6) := cell_of_heap blk rfl; have l6 := frozen_of_heap blk (j := 2))
      go_roundw
      case rel =>
        have e9 : Ext W0 w9 := l1.grown g9 (fun k hk => by have := own_le hownH k hk; omega)
        have hchg : Chg (fun k => k = w.heap.size + 1 + 1) w9 (w9.setCell ⟨w.heap.size + 1 + 1, 2, none⟩ (.slice q9 (i * C + C) c9)) := by (repeat (first | with_reducible exact Chg.refl _ _ | (with_reducible exact Chg.of_ext (by with_reducible assumption)) | with_reducible assumption | ((with_reducible refine Chg.setCell ?_ ?_ _); rotate_left; focus (first | (simp; done) | (simp; omega))) | (with_reducible refine Chg.alloc ?_ _) | (with_reducible refine Chg.drew ?_) | (with_reducible refine Chg.trans ?_ (Chg.of_ext (by with_reducible assumption)))))
        have hF9 := HV.out.app hf5
        rw [← Hsi.out] at hF9
        have hst := heap_setCell (j := 2) (u := .slice q9 (i * C + C) c9) blk
        refine ⟨i + 1, .slice q9 (i * C + C) c9, vs ++ us5, by omega, by go_num, hst, ?_, hF9, e9.chg hchg (fun k hk => by omega)⟩
        rw [Am.out]
        exact own_chgK own9 hchg (own_tag own9 blk (by decide))
      case measure => simp [intOf]; omega
    · obtain rfl : i = m := by omega
      have n0 := he.cell z0
      have n1 := he.cell z1
      have n2 := he.cell z2
      have n3 := he.frozen (p := ⟨w.heap.size + 1, 0, none⟩) (by simp; omega) (y0 0)
      have n4 := he.frozen (p := ⟨w.heap.size + 1, 1, none⟩) (by simp; omega) (y0 1)
      have n5 := he.frozen (p := ⟨w.heap.size + 1, 2, none⟩) (by simp; omega) (y0 2)
      have k0 : wr.cell? ⟨w.heap.size + 1 + 1, 0, none⟩ = some (.int .i64 i) := cell_of_heap hB rfl
      have k1 : wr.cell? ⟨w.heap.size + 1 + 1, 1, none⟩ = some (.int .i64 C) := cell_of_heap hB rfl
      have k2 : wr.cell? ⟨w.heap.size + 1 + 1, 2, none⟩ = some (.slice q6 (i * C) c6) := cell_of_heap hB rfl
      clear z0 z1 z2 y0
      go_wp2
      refine bodyPost_ret (v := .agg #[.int .i64 i, .int .i64 C, .slice q6 (i * C) c6]) (by simp [results, Try.results92, go_sem, n0, n1, n2, n3, n4, n5]) rfl ?_
      exact RetTen.of (Hlen.out i (Nat.le_refl _)) (own_base (own_chgB (S := fun k => k = w.heap.size + 1) hown (by (repeat (first | with_reducible exact Chg.refl _ _ | (with_reducible exact Chg.of_ext (by with_reducible assumption)) | with_reducible assumption | ((with_reducible refine Chg.setCell ?_ ?_ _); rotate_left; focus (first | (simp; done) | (simp; omega))) | (with_reducible refine Chg.alloc ?_ _) | (with_reducible refine Chg.drew ?_) | (with_reducible refine Chg.trans ?_ (Chg.of_ext (by with_reducible assumption)))))) (fun k hk => by omega)) (by omega)) HV.out rfl (by have := E0.trans he; (repeat (first | with_reducible exact Ext.refl _ | with_reducible assumption | ((with_reducible refine Ext.setCell ?_ ?_ _); rotate_left; focus (first | (simp; done) | (simp; omega))) | (with_reducible refine Ext.trans ?_ (Ext.alloc _ _)) | (with_reducible refine Ext.trans ?_ (Ext.drew _)) | (with_reducible refine Ext.trans ?_ (by with_reducible assumption)))))
set_option maxRecDepth 100000 in
set_option maxHeartbeats 4000000 in
theorem l07Rows_any {sp : Option Nat} (bt ot : Nat) (q0 p3 : Option Addr) (R C cp m c3 : Nat) (rows : List Int) (us : List Value) (xs : List Nat) (w : World) (hR1 : R ≤ 16) (hC : C ≤ 16) (hxs : xs.length = R * C) (hcp : R * C ≤ cp) (hp : Cs w q0 us) (hf : F32s us xs)
    (hm : rows.length = m) (hm16 : m ≤ 16) (hin : InR rows R) (hp3 : Cs w p3 (rows.map (Value.int .i64))) (t1 : w.cell? ⟨bt, ot + 1, none⟩ = some (.int .i64 C)) (t2 : w.cell? ⟨bt, ot + 2, none⟩ = some (.slice q0 (R * C) cp)) :
    Calls Try.prog 86 #[.pointer (some ⟨bt, ot, sp⟩), .slice p3 m c3] w (RetTen w m C (pickF xs C rows m)) := by
  have hlen := pickF_len (C := C) hxs hin
  rw [hm] at hlen
  have Hlen := hid hlen
  have B := hid (fun i (hi : i < R) W (h : Ext w W) => l02Row_any (sp := sp) bt ot R C i (R * C) cp q0 us xs W hi hR1 hC rfl hcp (h.cell t1) (h.cell t2) hxs (hp.ext h) hf)
  have Hrl := hid (fun i (hi : i < R) => rowT_len hxs hi)
  have Hs := hid (fun i (hi : i < m) => pickF_succ xs C (rows := rows) (i := i) (by rw [hm]; exact hi))
  have Hat := hid (fun i (hi : i < m) => hin.at (i := i) (by rw [hm]; exact hi))
  have Hg := hid (fun i (hi : i < m) => show (rows.map (Value.int .i64))[i]? = some (.int .i64 (rows.getD i 0)) from by simp [show i < rows.length by rw [hm]; exact hi])
  have Hml := hid (show (rows.map (Value.int .i64)).length = m from by rw [List.length_map]; exact hm)
  clear hlen hp hf hxs hm hin t2 hcp
  generalize rows.map (Value.int .i64) = rv at *
  obtain ⟨W0, hW0⟩ : ∃ W0, W0 = w.alloc (.cells #[.int .i64 0, .int .i64 0, .slice none 0 0] 41) := ⟨_, rfl⟩
  have E0 : Ext w W0 := by subst hW0; exact Ext.alloc _ _
  have s0 : W0.heap.size = w.heap.size + 1 := by simp [hW0]
  have b0 : W0.heap[w.heap.size]? = some (.cells #[.int .i64 0, .int .i64 0, .slice none 0 0] 41) := by rw [hW0]; exact heap_alloc_new w _
  have z0 : W0.cell? ⟨w.heap.size, 0, none⟩ = some (.int .i64 0) := cell_of_heap b0 rfl
  have z1 : W0.cell? ⟨w.heap.size, 1, none⟩ = some (.int .i64 0) := cell_of_heap b0 rfl
  have z2 : W0.cell? ⟨w.heap.size, 2, none⟩ = some (.slice none 0 0) := cell_of_heap b0 rfl
  have y0 := fun j => frozen_of_heap b0 (j := j)
  have t1' := E0.cell t1
  clear b0 t1
  obtain ⟨W1, hW1⟩ : ∃ W1, W1 = (W0.alloc (.cells #[] 22)).alloc (.cells #[.int .i64 m, .int .i64 C, .slice (some ⟨w.heap.size + 1, 0, none⟩) 0 0] 41) := ⟨_, rfl⟩
  obtain ⟨E1, s1, _, hb3⟩ := box2 hW1
  rw [s0] at hb3
  have hst : W1.ownsRow (w.heap.size + 1) 22 1 (.slice (some ⟨w.heap.size + 1, 0, none⟩) 0 0) 0 [] := by
    have h1 := World.ownsRow_made (e := 22) (size := 1) W0 #[] 0 (Nat.le_refl _) (by decide) rfl
    rw [s0] at h1
    rw [hW1]
    exact own_ext h1 (Ext.alloc _ _)
  have t1a : (w.alloc (.cells #[.int .i64 0, .int .i64 0, .slice none 0 0] 41)).cell? ⟨bt, ot + 1, none⟩ = some (.int .i64 C) := by rw [← hW0]; exact t1'
  go_enter Try.func86, Try.ntmps86
  go_wp2
  rw [← hW0, ← hW1]
  clear hW1 hW0 t1a
  go_loopw [6] (fun iv wr => ∃ (i : Nat) (v : Value) (vs : List Value), i ≤ m ∧ iv = .int .i64 i ∧ wr.heap[w.heap.size + 1 + 1]? = some (.cells #[.int .i64 m, .int .i64 C, v] 41) ∧ wr.ownsRow (w.heap.size + 1) 22 1 v (i * C) vs ∧ Hid (F32s vs (pickF xs C rows i)) ∧ Ext W0 wr) (fun iv _ => m - (intOf iv).toNat)
  case atStart => exact ⟨0, .slice (some ⟨w.heap.size + 1, 0, none⟩) 0 0, [], by omega, rfl, hb3, by rw [Nat.zero_mul]; exact hst, F32s.nil, E1⟩
  case round =>
    clear hb3 E1 hst
    obtain ⟨i, v, vs, hi, rfl, hB, hown, HV, he⟩ := hrel
    obtain ⟨q6, c6, rfl⟩ := own_slice hown
    by_cases hlt : i < m
    · have hRm : i * C ≤ 256 := Nat.mul_le_mul (show i ≤ 16 by omega) hC
      obtain ⟨r, hr, hrR⟩ := Hat.out i hlt
      have hg := Hg.out i hlt
      have hs := Hs.out i hlt
      rw [hr] at hg hs
      rw [Int.toNat_natCast] at hs
      have Hgi := hid hg
      have Hsi := hid hs
      have Am := hid (show (i + 1) * C = i * C + C from by rw [Nat.add_mul, Nat.one_mul])
      have hz : w.heap.size + 1 + 1 < wr.heap.size := by
        rcases Nat.lt_or_ge (w.heap.size + 1 + 1) wr.heap.size with h' | h'
        · exact h'
        · simp [Array.getElem?_eq_none h'] at hB
      have eD := he.trans (Ext.drew wr)
      have hk3 := hp3.ext (E0.trans eD)
      have C1 := hid (fun W (h : Ext wr.drew W) => B.out r hrR W (E0.trans (eD.trans h)))
      have o1 : wr.drew.cell? ⟨w.heap.size + 1 + 1, 2, none⟩ = some (.slice q6 (i * C) c6) := (Ext.drew wr).cell (cell_of_heap hB rfl)
      have Hrl1 := hid (Hrl.out r hrR)
      have hwz : ∀ W, Ext wr.drew W → w.heap.size + 1 ≤ W.heap.size := fun W h => by have := h.size; have := he.size; simp at *; omega
      have Hwz := hid hwz
      generalize rowT xs C r = row at *
      obtain ⟨F, hF⟩ : ∃ F : Option Tmp → World → Value → Prop, F = fun _ w' u => IsFl (w.heap.size + 1) row w' u := ⟨_, rfl⟩
      have HF := hid hF
      clear hF hg hs hr hwz
      go_wp2
      refine wp_region_xt 8 (F := F) (by kernel_rfl) (by kernel_rfl) (by kernel_rfl) (by kernel_rfl) (by kernel_rfl) ?_
      intro wf hwf
      simp only [List.take_succ_cons, List.take_zero, List.drop_succ_cons, List.drop_zero]
      repeat (first
        | (refine x_skip rfl ?_; simp only [Act.put, ev_tmp, List.setIfInBounds_toArray, List.set_cons_succ, List.set_cons_zero, List.getD_cons_succ, List.getD_cons_zero])
        | (refine x_mv rfl rfl rfl ?_; simp only [Act.put, ev_tmp, List.setIfInBounds_toArray, List.set_cons_succ, List.set_cons_zero, List.getD_cons_succ, List.getD_cons_zero])
        | (refine x_as rfl rfl rfl ?_; simp only [Act.put, ev_tmp, List.setIfInBounds_toArray, List.set_cons_succ, List.set_cons_zero, List.getD_cons_succ, List.getD_cons_zero])
        | ((with_reducible show wpX _ _ _ _ _ _ (Oper.mk _ (Op.indexAddr _ _ _) _ _ _ _ :: Oper.mk _ (Op.load _ _) _ _ _ _ :: _) _); refine x_idxload rfl rfl (fun _ => rfl) rfl (fun _ => rfl) rfl rfl hk3 Hml.out (by omega) (by omega) ?_; intro u hu; rw [Int.toNat_natCast] at hu; replace hu := Hgi.out.symm.trans hu; cases hu; simp only [Act.put, ev_tmp, List.setIfInBounds_toArray, List.set_cons_succ, List.set_cons_zero, List.getD_cons_succ, List.getD_cons_zero])
        | ((with_reducible show wpX _ _ _ _ _ _ (Oper.mk _ (Op.call _) _ _ _ _ :: _) _); refine x_callf (f := 131) (args := #[.pointer (some ⟨bt, ot, sp⟩), .int .i64 r]) rfl rfl Try.func131 rfl (by kernel_rfl) ?_ ?_ ?_; (focus (simp [Act.eval]; done)); (focus (intro w1 hw1; exact (by rw [HF.out]; exact (C1.out w1 hw1).mono fun e w3 h => (h.is).elim fun v h => ⟨v, h.1, h.2.1, show IsFl (w.heap.size + 1) row w3 v from h.2.2.base (Hwz.out w1 hw1)⟩))); rintro u w3 e3 e4 hu; simp only [HF.out] at hu; have HU := hid (IsFl.ext hu e4); clear hu; simp only [Act.put, ev_tmp, List.setIfInBounds_toArray, List.set_cons_succ, List.set_cons_zero, List.getD_cons_succ, List.getD_cons_zero])
        | (refine x_run rfl fun K hK w1 hw1 => ?_; have k0 := hw1.cell (o1); go_simp; refine hK _ ?_; clear hK K k0 hw1 w1))
      refine x_nil ?_
      obtain ⟨q8, c8, us8, rfl, ho8, hf8⟩ := HU.out
      have hc8 := own_cap ho8
      rw [Hrl1.out] at hc8 ⊢
      have hp8 := own_Cs ho8
      have eW := (Ext.drew wr).trans hwf
      have hownH := own_ext hown eW
      have hBw : wf.heap[w.heap.size + 1 + 1]? = some (.cells #[.int .i64 m, .int .i64 C, .slice q6 (i * C) c6] 41) := by rw [eW.block _ hz]; exact hB
      have hzH : w.heap.size + 1 + 1 < wf.heap.size := Nat.lt_of_lt_of_le hz eW.size
      have hmm := hid (hf8.one)
      have htag := own_tag hownH hBw (by decide)
      have l1 := he.trans eW
      have hwz2 := Hwz.out _ hwf
      have hCm := hid (show us8.length = C from by rw [hf8.1]; exact Hrl1.out)
      clear HU ho8
      go_wp2_with ((with_reducible show wpList _ _ _ (Oper.mk _ (Op.call _) _ _ _ _ :: _) _ _); refine wl_appz rfl rfl rfl rfl hownH hp8 (by rw [Nat.mul_one]; exact hCm.out) hc8.1 hmm.out (by unfold maxLen; omega) (by omega) hwz2 ?_; intro v9 w9 own9 g9; obtain ⟨q9, c9, rfl⟩ := own_slice own9; have blk := (g9.block _ hzH (fun hh => htag _ hh.symm rfl)).trans hBw; have l5 : w9.cell? ⟨w.heap.size + 1 + 1, 2, none⟩ = some (.slice q6 (i * C) c6) := cell_of_heap blk rfl; have l6 := frozen_of_heap blk (j := 2))
      go_roundw
      case rel =>
        have e9 : Ext W0 w9 := l1.grown g9 (fun k hk => by have := own_le hownH k hk; omega)
        have hchg : Chg (fun k => k = w.heap.size + 1 + 1) w9 (w9.setCell ⟨w.heap.size + 1 + 1, 2, none⟩ (.slice q9 (i * C + C) c9)) := by (repeat (first | with_reducible exact Chg.refl _ _ | (with_reducible exact Chg.of_ext (by with_reducible assumption)) | with_reducible assumption | ((with_reducible refine Chg.setCell ?_ ?_ _); rotate_left; focus (first | (simp; done) | (simp; omega))) | (with_reducible refine Chg.alloc ?_ _) | (with_reducible refine Chg.drew ?_) | (with_reducible refine Chg.trans ?_ (Chg.of_ext (by with_reducible assumption)))))
        have hF9 := HV.out.app hf8
        rw [← Hsi.out] at hF9
        have hst := heap_setCell (j := 2) (u := .slice q9 (i * C + C) c9) blk
        refine ⟨i + 1, .slice q9 (i * C + C) c9, vs ++ us8, by omega, by go_num, hst, ?_, hF9, e9.chg hchg (fun k hk => by omega)⟩
        rw [Am.out]
        exact own_chgK own9 hchg (own_tag own9 blk (by decide))
      case measure => simp [intOf]; omega
    · obtain rfl : i = m := by omega
      have n0 := he.cell z0
      have n1 := he.cell z1
      have n2 := he.cell z2
      have n3 := he.frozen (p := ⟨w.heap.size, 0, none⟩) (by simp; omega) (y0 0)
      have n4 := he.frozen (p := ⟨w.heap.size, 1, none⟩) (by simp; omega) (y0 1)
      have n5 := he.frozen (p := ⟨w.heap.size, 2, none⟩) (by simp; omega) (y0 2)
      have k0 : wr.cell? ⟨w.heap.size + 1 + 1, 0, none⟩ = some (.int .i64 i) := cell_of_heap hB rfl
      have k1 : wr.cell? ⟨w.heap.size + 1 + 1, 1, none⟩ = some (.int .i64 C) := cell_of_heap hB rfl
      have k2 : wr.cell? ⟨w.heap.size + 1 + 1, 2, none⟩ = some (.slice q6 (i * C) c6) := cell_of_heap hB rfl
      clear z0 z1 z2 y0
      go_wp2
      refine bodyPost_ret (v := .agg #[.int .i64 i, .int .i64 C, .slice q6 (i * C) c6]) (by simp [results, Try.results86, go_sem, n0, n1, n2, n3, n4, n5]) rfl ?_
      exact RetTen.of (Hlen.out i (Nat.le_refl _)) (own_base (own_chgB (S := fun k => k = w.heap.size) hown (by (repeat (first | with_reducible exact Chg.refl _ _ | (with_reducible exact Chg.of_ext (by with_reducible assumption)) | with_reducible assumption | ((with_reducible refine Chg.setCell ?_ ?_ _); rotate_left; focus (first | (simp; done) | (simp; omega))) | (with_reducible refine Chg.alloc ?_ _) | (with_reducible refine Chg.drew ?_) | (with_reducible refine Chg.trans ?_ (Chg.of_ext (by with_reducible assumption)))))) (fun k hk => by omega)) (by omega)) HV.out rfl (by have := E0.trans he; (repeat (first | with_reducible exact Ext.refl _ | with_reducible assumption | ((with_reducible refine Ext.setCell ?_ ?_ _); rotate_left; focus (first | (simp; done) | (simp; omega))) | (with_reducible refine Ext.trans ?_ (Ext.alloc _ _)) | (with_reducible refine Ext.trans ?_ (Ext.drew _)) | (with_reducible refine Ext.trans ?_ (by with_reducible assumption)))))
end Go.Proofs.Ytbdcjhhphkckcaa
