/- RunModel. -/
import Derived.Test.YtlimabbeaimdgaaKf
namespace Go.Proofs.Ytlimabbeaimdgaa.lRunModel
set_option linter.unusedSimpArgs false
set_option linter.unusedVariables false
open Go.RowKit

theorem out_ten {w w' : World} {r c : Int} {xs : List Nat} {q : Option Addr} {cp n : Nat} {vs : List Value} {en : Ending} (hl : xs.length = n) (h : w'.ownsRow w.heap.size 49 1 (.slice q n cp) n vs) (hf : F32s vs xs)
    (he : en = .returned (.tuple #[.agg #[.int .i64 r, .int .i64 c, .slice q n cp], .bool true])) (hx : Ext w w') : OutOk w shTensor ((r, c, xs, ()), true) en w' := by
  obtain ⟨q', c', bs, h1, h2, h3, h4, _⟩ := retFl_thing2 hl (retFl_of hl h hf (e := .returned (.slice q n cp)) rfl hx)
  cases h1
  exact ⟨[.int .i64 r, .int .i64 c, .slice q n cp], bs, he, own_ten hl h2, h3, h4, hx⟩
theorem own_heap {w : World} {B te s n c : Nat} {q : Option Addr} {vs : List Value} (h : w.ownsRow B te s (.slice q n c) n vs) {t : TypeId} (hne : te ≠ t) : ∀ b ∈ blocksOf q, ∀ Z, w.heap[b]? ≠ some (.cells Z t) := by
  intro b hb Z he
  cases q with
  | none => simp [blocksOf] at hb
  | some a => simp [blocksOf] at hb; subst hb; exact own_tag h he hne _ rfl rfl
theorem outT_ten {w w' : World} {r c : Int} {xs : List Nat} {q : Option Addr} {cp n : Nat} {vs : List Value} {en : Ending} {t : TypeId} (hl : xs.length = n) (h : w'.ownsRow w.heap.size 49 1 (.slice q n cp) n vs) (hf : F32s vs xs) (hne : 49 ≠ t)
    (he : en = .returned (.tuple #[.agg #[.int .i64 r, .int .i64 c, .slice q n cp], .bool true])) (hx : Ext w w') : OutT w t shTensor ((r, c, xs, ()), true) en w' := by
  subst hl
  refine ⟨[.int .i64 r, .int .i64 c, .slice q xs.length cp], blocksOf q, he, own_ten rfl (own_flts.2 ⟨q, cp, vs, rfl, ownRow_of h, hf, (own_cap h).1, (own_cap h).2, rfl⟩), ?_, ?_, own_heap h hne, hx⟩
  · cases q <;> simp [blocksOf]
  · intro b hb
    cases q with
    | none => simp [blocksOf] at hb
    | some a => simp [blocksOf] at hb; subst hb; exact own_le h _ rfl
theorem outT_no_ten {w : World} {en : Ending} {w' : World} {t : TypeId} (h : en = .returned (.tuple #[.agg #[.int .i64 0, .int .i64 0, .slice none 0 0], .bool false])) (hx : Ext w w') : OutT w t shTensor ((0, 0, [], ()), false) en w' :=
  ⟨[.int .i64 0, .int .i64 0, .slice none 0 0], [], h, own_ten rfl own_nil, by simp, by simp, by simp, hx⟩
def res (d : shModel.T) (x : shTensor.T) : shTensor.T × Bool := if modB d.1 = true ∧ tenB x.1 x.2.1 (x.2.2.1 : List Nat).length = true ∧ x.2.1 = inL d.1 0 then ((x.1, outL d.1, rowsM d.1 x.2.2.1 x.2.1.toNat x.1.toNat, ()), true) else ((0, 0, [], ()), false)
theorem res_bd (d : shModel.T) (x : shTensor.T) (_ : tot shModel d ≤ 1048576) (_ : tot shTensor x ≤ 1048576) (_ : Fit shModel d) (_ : Fit shTensor x) : tot shTensor (res d x).1 ≤ 1048576 := by
  unfold res
  split
  · rename_i h
    obtain ⟨h1, h2, h3⟩ := h
    have hM := modOk h1
    obtain ⟨R, C, e1, e2, hR, hR1, hC, hC1, hn⟩ := tenB_of h2
    obtain ⟨m, hm, hm1, hm8⟩ := outL_nat hM
    have hl := rowsM_len (xs := x.2.2.1) (c := C) hM (by rw [← e2]; exact h3) hm hn R (Nat.le_refl _)
    have h4 := Nat.mul_le_mul hR1 hm8
    rw [e1, e2]
    simp only [Int.toNat_natCast]
    generalize rowsM d.1 x.2.2.1 C R = z at *
    have h5 : tot shTensor ((R : Int), outL d.1, z, ()) = tot (.sl .flt) z := by simp only [tot]; omega
    have h6 : tot shTensor ((R : Int), outL d.1, z, ()) ≤ 1048576 := by rw [h5, tot_flts]; omega
    exact h6
  · simp [tot]
set_option maxRecDepth 100000 in
set_option maxHeartbeats 4000000 in
theorem impl_ok (cs0 : List Value) (D0 : shModel.T) (cs1 : List Value) (D1 : shTensor.T) (w : World) (h0 : Rep w shModel cs0 D0) (h1 : Rep w shTensor cs1 D1) (f0 : Fit shModel D0) (_ : Fit shTensor D1) : Calls Try.prog 41 #[ofCs shModel cs0, ofCs shTensor cs1] w (OutT w 57 shTensor (res D0 D1)) := by
  obtain ⟨L0, u0⟩ := D0
  obtain ⟨c0, c1, rfl, k0, rfl⟩ := h0
  obtain ⟨p, c, rfl, _⟩ := rep_val k0
  obtain ⟨p', c', css, he0, L⟩ := lays_of k0 f0.1
  cases he0
  obtain ⟨q, cq, us, rfl, hp, hf, hcq, hcm⟩ := ten_vals h1
  obtain ⟨r, k, xs, _⟩ := D1
  dsimp only at hp hf hcq hcm ⊢
  simp only [ofCs, Sh.agg, if_true, List.append_nil]
  have hxm : xs.length ≤ maxLen := Nat.le_trans hcq hcm
  unfold res
  dsimp only
  obtain ⟨W0, hW0⟩ : ∃ W0, W0 = ((w.alloc (.cells #[.slice p L0.length c] 33)).alloc (.cells #[.int .i64 r, .int .i64 k, .slice q xs.length cq] 57)).alloc (.cells #[.int .i64 0, .int .i64 0, .slice none 0 0] 57) := ⟨_, rfl⟩
  obtain ⟨E0, s0, b0, b1, b2⟩ := box3 hW0
  have a0 : W0.cell? ⟨w.heap.size, 0, none⟩ = some (.slice p L0.length c) := cell_of_heap b0 rfl
  have t0 : W0.cell? ⟨w.heap.size + 1, 0, none⟩ = some (.int .i64 r) := cell_of_heap b1 rfl
  have t1 : W0.cell? ⟨w.heap.size + 1, 1, none⟩ = some (.int .i64 k) := cell_of_heap b1 rfl
  have t2 : W0.cell? ⟨w.heap.size + 1, 2, none⟩ = some (.slice q xs.length cq) := cell_of_heap b1 rfl
  have z0 : W0.cell? ⟨w.heap.size + 2, 0, none⟩ = some (.int .i64 0) := cell_of_heap b2 rfl
  have z1 : W0.cell? ⟨w.heap.size + 2, 1, none⟩ = some (.int .i64 0) := cell_of_heap b2 rfl
  have z2 : W0.cell? ⟨w.heap.size + 2, 2, none⟩ = some (.slice none 0 0) := cell_of_heap b2 rfl
  have y0 := fun j => frozen_of_heap b2 (j := j)
  clear b0 b1 b2
  have A := hid (fun W (h : Ext W0 W) => ValidModel_any p L0.length c L0 css W L.len L.le (L.cs.ext (E0.trans h)) (L.all.imp fun _ _ => Rep.ext (E0.trans h)) L.size L.cnt)
  have B := hid (fun W (h : Ext W0 W) => ValidTensor_any r k q xs.length cq W hxm)
  have D := hid (fun W (h : Ext W0 W) h1 => in_any p L0.length c css L0 W (L.ext (E0.trans h)) h1)
  have E := hid (fun W (h : Ext W0 W) hM (R C : Nat) (h1 : (C : Int) = inL L0 0) h2 h3 (h4 : xs.length = R * C) => runModel_any p q L0.length c cq R C css L0 us xs W (L.ext (E0.trans h)) hM h1 h2 h3 h4 (by rw [← h4]; exact hcq) hcm (hp.ext (E0.trans h)) hf)
  have hpos : modB L0 = true → 1 ≤ L0.length := fun h => (modOk h).pos
  have HX := hid (rfl : xs.length = xs.length)
  clear L k0 hp hf hcq hcm h1
  generalize hb1 : modB L0 = b1 at *
  generalize hb2 : tenB r k xs.length = b2 at *
  generalize hn : L0.length = n at *
  generalize hm : xs.length = m at *
  generalize hi : inL L0 0 = I at *
  have HN := hid hn
  have HM := hid hm
  have HI := hid hi
  have HB1 := hid hb1
  have HB2 := hid hb2
  clear hn hm hi hb1 hb2 hxm HX
  cases b1
  · rw [if_neg (by simp)]
    clear D E
    obtain ⟨F, hF⟩ : ∃ F : Option Tmp → World → Value → Prop, F = fun d _ u => match d with | some 7 => u = .bool false | some 11 => u = .bool b2 | _ => u = .int .i64 I := ⟨_, rfl⟩
    have HF := hid hF
    clear hF
    go_enter Try.func41, Try.ntmps41
    go_wp2
    rw [← hW0]
    clear hW0
    have eD := Ext.drew W0
    have d0 := eD.cell a0; have d1 := eD.cell t0; have d2 := eD.cell t1; have d3 := eD.cell t2
    refine wp_region_xall (F := F) (by kernel_rfl) (by kernel_rfl) (by kernel_rfl) ?_
    intro wf hwf
    repeat (first
      | (refine x_skip rfl ?_; simp only [Act.put, ev_tmp, List.setIfInBounds_toArray, List.set_cons_succ, List.set_cons_zero, List.getD_cons_succ, List.getD_cons_zero])
      | (refine x_mv rfl rfl rfl ?_; simp only [Act.put, ev_tmp, List.setIfInBounds_toArray, List.set_cons_succ, List.set_cons_zero, List.getD_cons_succ, List.getD_cons_zero])
      | (refine x_as rfl rfl rfl ?_; simp only [Act.put, ev_tmp, List.setIfInBounds_toArray, List.set_cons_succ, List.set_cons_zero, List.getD_cons_succ, List.getD_cons_zero])
      | ((with_reducible show wpX _ _ _ _ _ _ (Oper.mk _ (Op.call _) _ _ _ _ :: _) _); refine x_callf (f := 52) (args := #[.agg #[.slice p n c]]) rfl rfl Try.func52 rfl (by kernel_rfl) ?_ ?_ ?_; (focus (simp [Act.eval]; done)); (focus (intro w1 hw1; exact (by rw [HF.out]; exact (A.out w1 (eD.trans hw1)).mono fun e w3 h => ⟨_, h.1, h.2, rfl⟩))); rintro u w3 e3 e4 hu; simp only [HF.out] at hu; subst hu; simp only [Act.put, ev_tmp, List.setIfInBounds_toArray, List.set_cons_succ, List.set_cons_zero, List.getD_cons_succ, List.getD_cons_zero])
      | ((with_reducible show wpX _ _ _ _ _ _ (Oper.mk _ (Op.call _) _ _ _ _ :: _) _); refine x_callf (f := 99) (args := #[.agg #[.int .i64 r, .int .i64 k, .slice q m cq]]) rfl rfl Try.func99 rfl (by kernel_rfl) ?_ ?_ ?_; (focus (simp [Act.eval]; done)); (focus (intro w1 hw1; exact (by rw [HF.out]; exact (B.out w1 (eD.trans hw1)).mono fun e w3 h => ⟨_, h.1, h.2, rfl⟩))); rintro u w3 e3 e4 hu; simp only [HF.out] at hu; subst hu; simp only [Act.put, ev_tmp, List.setIfInBounds_toArray, List.set_cons_succ, List.set_cons_zero, List.getD_cons_succ, List.getD_cons_zero])
      | (refine x_run rfl fun K hK w1 hw1 => ?_; have k0 := hw1.cell (d0); have k1 := hw1.cell (d1); have k2 := hw1.cell (d2); have k3 := hw1.cell (d3); go_simp; refine hK _ ?_; clear hK K k0 k1 k2 k3 hw1 w1))
    refine x_nil ?_
    have eF := eD.trans hwf
    have n0 := eF.cell z0; have n1 := eF.cell z1; have n2 := eF.cell z2
    have n3 := eF.frozen (p := ⟨w.heap.size + 2, 0, none⟩) (by simp; omega) (y0 0)
    have n4 := eF.frozen (p := ⟨w.heap.size + 2, 1, none⟩) (by simp; omega) (y0 1)
    have n5 := eF.frozen (p := ⟨w.heap.size + 2, 2, none⟩) (by simp; omega) (y0 2)
    have m0 := eF.cell a0; have m1 := eF.cell t0; have m2 := eF.cell t1; have m3 := eF.cell t2
    clear z0 z1 z2 y0 a0 t0 t1 t2 d0 d1 d2 d3
    go_wp2
    refine bodyPost_ret (v := .tuple #[.agg #[.int .i64 0, .int .i64 0, .slice none 0 0], .bool false]) (by simp [results, Try.results41, go_sem, n0, n1, n2, n3, n4, n5]) rfl ?_
    exact outT_no_ten rfl (by have := E0.trans eF; (repeat (first | with_reducible exact Ext.refl _ | with_reducible assumption | ((with_reducible refine Ext.setCell ?_ ?_ _); rotate_left; focus (first | (simp; done) | (simp; omega))) | (with_reducible refine Ext.trans ?_ (Ext.alloc _ _)) | (with_reducible refine Ext.trans ?_ (Ext.drew _)) | (with_reducible refine Ext.trans ?_ (by with_reducible assumption)))))
  · cases b2
    · rw [if_neg (by simp)]
      clear D E
      obtain ⟨F, hF⟩ : ∃ F : Option Tmp → World → Value → Prop, F = fun d _ u => match d with | some 7 => u = .bool true | some 11 => u = .bool false | _ => u = .int .i64 I := ⟨_, rfl⟩
      have HF := hid hF
      clear hF
      go_enter Try.func41, Try.ntmps41
      go_wp2
      rw [← hW0]
      clear hW0
      have eD := Ext.drew W0
      have d0 := eD.cell a0; have d1 := eD.cell t0; have d2 := eD.cell t1; have d3 := eD.cell t2
      refine wp_region_xall (F := F) (by kernel_rfl) (by kernel_rfl) (by kernel_rfl) ?_
      intro wf hwf
      repeat (first
        | (refine x_skip rfl ?_; simp only [Act.put, ev_tmp, List.setIfInBounds_toArray, List.set_cons_succ, List.set_cons_zero, List.getD_cons_succ, List.getD_cons_zero])
        | (refine x_mv rfl rfl rfl ?_; simp only [Act.put, ev_tmp, List.setIfInBounds_toArray, List.set_cons_succ, List.set_cons_zero, List.getD_cons_succ, List.getD_cons_zero])
        | (refine x_as rfl rfl rfl ?_; simp only [Act.put, ev_tmp, List.setIfInBounds_toArray, List.set_cons_succ, List.set_cons_zero, List.getD_cons_succ, List.getD_cons_zero])
        | ((with_reducible show wpX _ _ _ _ _ _ (Oper.mk _ (Op.call _) _ _ _ _ :: _) _); refine x_callf (f := 52) (args := #[.agg #[.slice p n c]]) rfl rfl Try.func52 rfl (by kernel_rfl) ?_ ?_ ?_; (focus (simp [Act.eval]; done)); (focus (intro w1 hw1; exact (by rw [HF.out]; exact (A.out w1 (eD.trans hw1)).mono fun e w3 h => ⟨_, h.1, h.2, rfl⟩))); rintro u w3 e3 e4 hu; simp only [HF.out] at hu; subst hu; simp only [Act.put, ev_tmp, List.setIfInBounds_toArray, List.set_cons_succ, List.set_cons_zero, List.getD_cons_succ, List.getD_cons_zero])
        | ((with_reducible show wpX _ _ _ _ _ _ (Oper.mk _ (Op.call _) _ _ _ _ :: _) _); refine x_callf (f := 99) (args := #[.agg #[.int .i64 r, .int .i64 k, .slice q m cq]]) rfl rfl Try.func99 rfl (by kernel_rfl) ?_ ?_ ?_; (focus (simp [Act.eval]; done)); (focus (intro w1 hw1; exact (by rw [HF.out]; exact (B.out w1 (eD.trans hw1)).mono fun e w3 h => ⟨_, h.1, h.2, rfl⟩))); rintro u w3 e3 e4 hu; simp only [HF.out] at hu; subst hu; simp only [Act.put, ev_tmp, List.setIfInBounds_toArray, List.set_cons_succ, List.set_cons_zero, List.getD_cons_succ, List.getD_cons_zero])
        | (refine x_run rfl fun K hK w1 hw1 => ?_; have k0 := hw1.cell (d0); have k1 := hw1.cell (d1); have k2 := hw1.cell (d2); have k3 := hw1.cell (d3); go_simp; refine hK _ ?_; clear hK K k0 k1 k2 k3 hw1 w1))
      refine x_nil ?_
      have eF := eD.trans hwf
      have n0 := eF.cell z0; have n1 := eF.cell z1; have n2 := eF.cell z2
      have n3 := eF.frozen (p := ⟨w.heap.size + 2, 0, none⟩) (by simp; omega) (y0 0)
      have n4 := eF.frozen (p := ⟨w.heap.size + 2, 1, none⟩) (by simp; omega) (y0 1)
      have n5 := eF.frozen (p := ⟨w.heap.size + 2, 2, none⟩) (by simp; omega) (y0 2)
      have m0 := eF.cell a0; have m1 := eF.cell t0; have m2 := eF.cell t1; have m3 := eF.cell t2
      clear z0 z1 z2 y0 a0 t0 t1 t2 d0 d1 d2 d3
      go_wp2
      refine bodyPost_ret (v := .tuple #[.agg #[.int .i64 0, .int .i64 0, .slice none 0 0], .bool false]) (by simp [results, Try.results41, go_sem, n0, n1, n2, n3, n4, n5]) rfl ?_
      exact outT_no_ten rfl (by have := E0.trans eF; (repeat (first | with_reducible exact Ext.refl _ | with_reducible assumption | ((with_reducible refine Ext.setCell ?_ ?_ _); rotate_left; focus (first | (simp; done) | (simp; omega))) | (with_reducible refine Ext.trans ?_ (Ext.alloc _ _)) | (with_reducible refine Ext.trans ?_ (Ext.drew _)) | (with_reducible refine Ext.trans ?_ (by with_reducible assumption)))))
    · have h1n := hpos rfl
      have hM := modOk HB1.out
      have D2 := hid (fun W h => D.out W h h1n)
      obtain ⟨R, C, e1, e2, hR, hR1, hC, hC1, hmn⟩ := tenB_of HB2.out
      subst e1 e2
      by_cases hx : (C : Int) = I
      · rw [if_pos ⟨rfl, rfl, hx⟩]
        subst hx
        simp only [Int.toNat_natCast]
        have G := hid (fun W h => E.out W h hM R C rfl hR1 hC1 hmn)
        rw [← hmn] at G
        have Hmn := hid hmn
        have hK : (m : Int) ≤ 256 := by have := Nat.mul_le_mul hR1 hC1; omega
        clear D E hM h1n hmn
        generalize hI : (C : Int) = kk at *
        have HI2 := hid hI
        clear hI
        obtain ⟨F, hF⟩ : ∃ F : Option Tmp → World → Value → Prop, F = fun d _ u => match d with | some 7 => u = .bool true | some 11 => u = .bool true | _ => u = .int .i64 kk := ⟨_, rfl⟩
        have HF := hid hF
        clear hF
        go_enter Try.func41, Try.ntmps41
        go_wp2
        rw [← hW0]
        clear hW0
        have eD := Ext.drew W0
        have d0 := eD.cell a0; have d1 := eD.cell t0; have d2 := eD.cell t1; have d3 := eD.cell t2
        refine wp_region_xall (F := F) (by kernel_rfl) (by kernel_rfl) (by kernel_rfl) ?_
        intro wf hwf
        repeat (first
          | (refine x_skip rfl ?_; simp only [Act.put, ev_tmp, List.setIfInBounds_toArray, List.set_cons_succ, List.set_cons_zero, List.getD_cons_succ, List.getD_cons_zero])
          | (refine x_mv rfl rfl rfl ?_; simp only [Act.put, ev_tmp, List.setIfInBounds_toArray, List.set_cons_succ, List.set_cons_zero, List.getD_cons_succ, List.getD_cons_zero])
          | (refine x_as rfl rfl rfl ?_; simp only [Act.put, ev_tmp, List.setIfInBounds_toArray, List.set_cons_succ, List.set_cons_zero, List.getD_cons_succ, List.getD_cons_zero])
          | ((with_reducible show wpX _ _ _ _ _ _ (Oper.mk _ (Op.call _) _ _ _ _ :: _) _); refine x_callf (f := 52) (args := #[.agg #[.slice p n c]]) rfl rfl Try.func52 rfl (by kernel_rfl) ?_ ?_ ?_; (focus (simp [Act.eval]; done)); (focus (intro w1 hw1; exact (by rw [HF.out]; exact (A.out w1 (eD.trans hw1)).mono fun e w3 h => ⟨_, h.1, h.2, rfl⟩))); rintro u w3 e3 e4 hu; simp only [HF.out] at hu; subst hu; simp only [Act.put, ev_tmp, List.setIfInBounds_toArray, List.set_cons_succ, List.set_cons_zero, List.getD_cons_succ, List.getD_cons_zero])
          | ((with_reducible show wpX _ _ _ _ _ _ (Oper.mk _ (Op.call _) _ _ _ _ :: _) _); refine x_callf (f := 99) (args := #[.agg #[.int .i64 R, .int .i64 kk, .slice q m cq]]) rfl rfl Try.func99 rfl (by kernel_rfl) ?_ ?_ ?_; (focus (simp [Act.eval]; done)); (focus (intro w1 hw1; exact (by rw [HF.out]; exact (B.out w1 (eD.trans hw1)).mono fun e w3 h => ⟨_, h.1, h.2, rfl⟩))); rintro u w3 e3 e4 hu; simp only [HF.out] at hu; subst hu; simp only [Act.put, ev_tmp, List.setIfInBounds_toArray, List.set_cons_succ, List.set_cons_zero, List.getD_cons_succ, List.getD_cons_zero])
          | ((with_reducible show wpX _ _ _ _ _ _ (Oper.mk _ (Op.call _) _ _ _ _ :: _) _); refine x_callf (f := 100) (args := #[.agg #[.slice p n c]]) rfl rfl Try.func100 rfl (by kernel_rfl) ?_ ?_ ?_; (focus (simp [Act.eval]; done)); (focus (intro w1 hw1; exact (by rw [HF.out]; exact (D2.out w1 (eD.trans hw1)).mono fun e w3 h => ⟨_, h.1, h.2, rfl⟩))); rintro u w3 e3 e4 hu; simp only [HF.out] at hu; subst hu; simp only [Act.put, ev_tmp, List.setIfInBounds_toArray, List.set_cons_succ, List.set_cons_zero, List.getD_cons_succ, List.getD_cons_zero])
          | (refine x_run rfl fun K hK w1 hw1 => ?_; have k0 := hw1.cell (d0); have k1 := hw1.cell (d1); have k2 := hw1.cell (d2); have k3 := hw1.cell (d3); go_simp; refine hK _ ?_; clear hK K k0 k1 k2 k3 hw1 w1))
        refine x_nil ?_
        have eF := eD.trans hwf
        have n0 := eF.cell z0; have n1 := eF.cell z1; have n2 := eF.cell z2
        have n3 := eF.frozen (p := ⟨w.heap.size + 2, 0, none⟩) (by simp; omega) (y0 0)
        have n4 := eF.frozen (p := ⟨w.heap.size + 2, 1, none⟩) (by simp; omega) (y0 1)
        have n5 := eF.frozen (p := ⟨w.heap.size + 2, 2, none⟩) (by simp; omega) (y0 2)
        have m0 := eF.cell a0; have m1 := eF.cell t0; have m2 := eF.cell t1; have m3 := eF.cell t2
        clear a0 t0 t1 t2 d0 d1 d2 d3 A B D2
        go_wp2_with fail
        refine (G.out _ eF).mono ?_
        rintro e w4 ⟨q4, cp4, vs4, rfl, own4, hf4, e4'⟩
        generalize rowsM L0 xs C R = z at *
        generalize hz : z.length = zl at *
        have HZ := hid hz
        clear hz
        have hz2 : w.heap.size + 2 < wf.heap.size := lt_of_cell n0
        have l0 := e4'.cell n0; have l1 := e4'.cell n1; have l2 := e4'.cell n2
        have l3 := e4'.frozen (p := ⟨w.heap.size + 2, 0, none⟩) hz2 n3
        have l4 := e4'.frozen (p := ⟨w.heap.size + 2, 1, none⟩) hz2 n4
        have l5 := e4'.frozen (p := ⟨w.heap.size + 2, 2, none⟩) hz2 n5
        have e5 := E0.trans (eF.trans e4')
        have s5 := eF.size
        clear n0 n1 n2 n3 n4 n5 z0 z1 z2 y0
        generalize outL L0 = oL at *
        go_wp2
        refine bodyPost_ret (v := .tuple #[.agg #[.int .i64 R, .int .i64 oL, .slice q4 zl cp4], .bool true]) (by simp [results, Try.results41, go_sem, l0, l1, l2, l3, l4, l5]) rfl ?_
        exact outT_ten HZ.out (own_base (own_chgB (S := fun k => k = w.heap.size + 2) own4 (by (repeat (first | with_reducible exact Chg.refl _ _ | (with_reducible exact Chg.of_ext (by with_reducible assumption)) | with_reducible assumption | ((with_reducible refine Chg.setCell ?_ ?_ _); rotate_left; focus (first | (simp; done) | (simp; omega))) | (with_reducible refine Chg.alloc ?_ _) | (with_reducible refine Chg.drew ?_) | (with_reducible refine Chg.trans ?_ (Chg.of_ext (by with_reducible assumption)))))) (fun k hk => by omega)) (by have := E0.size; omega)) hf4 (by decide) rfl (by (repeat (first | with_reducible exact Ext.refl _ | with_reducible assumption | ((with_reducible refine Ext.setCell ?_ ?_ _); rotate_left; focus (first | (simp; done) | (simp; omega))) | (with_reducible refine Ext.trans ?_ (Ext.alloc _ _)) | (with_reducible refine Ext.trans ?_ (Ext.drew _)) | (with_reducible refine Ext.trans ?_ (by with_reducible assumption)))))
      · rw [if_neg (fun h => hx h.2.2)]
        have hx2 : ((C : Int) != I) = true := bne_t hx
        clear E hM h1n hmn D hx
        generalize hI : (C : Int) = kk at *
        have HI2 := hid hI
        clear hI
        obtain ⟨F, hF⟩ : ∃ F : Option Tmp → World → Value → Prop, F = fun d _ u => match d with | some 7 => u = .bool true | some 11 => u = .bool true | _ => u = .int .i64 I := ⟨_, rfl⟩
        have HF := hid hF
        clear hF
        go_enter Try.func41, Try.ntmps41
        go_wp2
        rw [← hW0]
        clear hW0
        have eD := Ext.drew W0
        have d0 := eD.cell a0; have d1 := eD.cell t0; have d2 := eD.cell t1; have d3 := eD.cell t2
        refine wp_region_xall (F := F) (by kernel_rfl) (by kernel_rfl) (by kernel_rfl) ?_
        intro wf hwf
        repeat (first
          | (refine x_skip rfl ?_; simp only [Act.put, ev_tmp, List.setIfInBounds_toArray, List.set_cons_succ, List.set_cons_zero, List.getD_cons_succ, List.getD_cons_zero])
          | (refine x_mv rfl rfl rfl ?_; simp only [Act.put, ev_tmp, List.setIfInBounds_toArray, List.set_cons_succ, List.set_cons_zero, List.getD_cons_succ, List.getD_cons_zero])
          | (refine x_as rfl rfl rfl ?_; simp only [Act.put, ev_tmp, List.setIfInBounds_toArray, List.set_cons_succ, List.set_cons_zero, List.getD_cons_succ, List.getD_cons_zero])
          | ((with_reducible show wpX _ _ _ _ _ _ (Oper.mk _ (Op.call _) _ _ _ _ :: _) _); refine x_callf (f := 52) (args := #[.agg #[.slice p n c]]) rfl rfl Try.func52 rfl (by kernel_rfl) ?_ ?_ ?_; (focus (simp [Act.eval]; done)); (focus (intro w1 hw1; exact (by rw [HF.out]; exact (A.out w1 (eD.trans hw1)).mono fun e w3 h => ⟨_, h.1, h.2, rfl⟩))); rintro u w3 e3 e4 hu; simp only [HF.out] at hu; subst hu; simp only [Act.put, ev_tmp, List.setIfInBounds_toArray, List.set_cons_succ, List.set_cons_zero, List.getD_cons_succ, List.getD_cons_zero])
          | ((with_reducible show wpX _ _ _ _ _ _ (Oper.mk _ (Op.call _) _ _ _ _ :: _) _); refine x_callf (f := 99) (args := #[.agg #[.int .i64 R, .int .i64 kk, .slice q m cq]]) rfl rfl Try.func99 rfl (by kernel_rfl) ?_ ?_ ?_; (focus (simp [Act.eval]; done)); (focus (intro w1 hw1; exact (by rw [HF.out]; exact (B.out w1 (eD.trans hw1)).mono fun e w3 h => ⟨_, h.1, h.2, rfl⟩))); rintro u w3 e3 e4 hu; simp only [HF.out] at hu; subst hu; simp only [Act.put, ev_tmp, List.setIfInBounds_toArray, List.set_cons_succ, List.set_cons_zero, List.getD_cons_succ, List.getD_cons_zero])
          | ((with_reducible show wpX _ _ _ _ _ _ (Oper.mk _ (Op.call _) _ _ _ _ :: _) _); refine x_callf (f := 100) (args := #[.agg #[.slice p n c]]) rfl rfl Try.func100 rfl (by kernel_rfl) ?_ ?_ ?_; (focus (simp [Act.eval]; done)); (focus (intro w1 hw1; exact (by rw [HF.out]; exact (D2.out w1 (eD.trans hw1)).mono fun e w3 h => ⟨_, h.1, h.2, rfl⟩))); rintro u w3 e3 e4 hu; simp only [HF.out] at hu; subst hu; simp only [Act.put, ev_tmp, List.setIfInBounds_toArray, List.set_cons_succ, List.set_cons_zero, List.getD_cons_succ, List.getD_cons_zero])
          | (refine x_run rfl fun K hK w1 hw1 => ?_; have k0 := hw1.cell (d0); have k1 := hw1.cell (d1); have k2 := hw1.cell (d2); have k3 := hw1.cell (d3); go_simp; refine hK _ ?_; clear hK K k0 k1 k2 k3 hw1 w1))
        refine x_nil ?_
        have eF := eD.trans hwf
        have n0 := eF.cell z0; have n1 := eF.cell z1; have n2 := eF.cell z2
        have n3 := eF.frozen (p := ⟨w.heap.size + 2, 0, none⟩) (by simp; omega) (y0 0)
        have n4 := eF.frozen (p := ⟨w.heap.size + 2, 1, none⟩) (by simp; omega) (y0 1)
        have n5 := eF.frozen (p := ⟨w.heap.size + 2, 2, none⟩) (by simp; omega) (y0 2)
        have m0 := eF.cell a0; have m1 := eF.cell t0; have m2 := eF.cell t1; have m3 := eF.cell t2
        clear z0 z1 z2 y0 a0 t0 t1 t2 d0 d1 d2 d3
        go_wp2
        refine bodyPost_ret (v := .tuple #[.agg #[.int .i64 0, .int .i64 0, .slice none 0 0], .bool false]) (by simp [results, Try.results41, go_sem, n0, n1, n2, n3, n4, n5]) rfl ?_
        exact outT_no_ten rfl (by have := E0.trans eF; (repeat (first | with_reducible exact Ext.refl _ | with_reducible assumption | ((with_reducible refine Ext.setCell ?_ ?_ _); rotate_left; focus (first | (simp; done) | (simp; omega))) | (with_reducible refine Ext.trans ?_ (Ext.alloc _ _)) | (with_reducible refine Ext.trans ?_ (Ext.drew _)) | (with_reducible refine Ext.trans ?_ (by with_reducible assumption)))))
end Go.Proofs.Ytlimabbeaimdgaa.lRunModel
