/- NewTraining of the program. -/
import Derived.Test.YtbdcjhhphkckcaaNTr
import Derived.Test.YtbdcjhhphkckcaaSpl
import Derived.Test.YtbdcjhhphkckcaaGrowX
import Derived.Test.YtbdcjhhphkckcaaKf
namespace Go.Proofs.Ytbdcjhhphkckcaa.lNewTraining
set_option linter.unusedSimpArgs false
set_option linter.unusedVariables false
open Go.RowKit

theorem own_tra {w : World} {q q2 : Option Addr} {n k n2 k2 : Nat} {L : List shLayer.T} {S : List (List Nat)} {b1 b2 : List Nat} (h1 : Own w (.sl shLayer) [.slice q n k] L b1) (h2 : Own w (.sl (.sl .flt)) [.slice q2 n2 k2] S b2) (x3 x4 : Int) (f : Nat) :
    Own w shTrainState [.slice q n k, .slice q2 n2 k2, .int .i64 x3, .int .i64 x4, .float .f32 f] ((L, ()), S, x3, x4, cn .f32 f, ()) (b1 ++ b2) :=
  ⟨[.slice q n k], [.slice q2 n2 k2, .int .i64 x3, .int .i64 x4, .float .f32 f], b1, b2, rfl, ⟨[.slice q n k], [], b1, [], rfl, h1, ⟨rfl, rfl⟩, by simp⟩, ⟨[.slice q2 n2 k2], [.int .i64 x3, .int .i64 x4, .float .f32 f], b2, [], rfl, h2, ⟨[.int .i64 x3], [.int .i64 x4, .float .f32 f], [], [], rfl, ⟨rfl, rfl⟩, ⟨[.int .i64 x4], [.float .f32 f], [], [], rfl, ⟨rfl, rfl⟩, ⟨[.float .f32 f], [], [], [], rfl, ⟨⟨f, rfl, rfl⟩, rfl⟩, ⟨rfl, rfl⟩, rfl⟩, rfl⟩, rfl⟩, by simp⟩, rfl⟩
def noT : shTrainState.T := (([], ()), [], 0, 0, 0, ())
theorem out_no {w : World} {t : TypeId} {en : Ending} {w' : World} (h : en = .returned (.tuple #[.agg #[.slice none 0 0, .slice none 0 0, .int .i64 0, .int .i64 0, .float .f32 0], .bool false])) (hx : Ext w w') : OutT w t shTrainState (noT, false) en w' := by
  have h1 := own_tra (w := w') (L := []) (S := []) (q := none) (q2 := none) (n := 0) (k := 0) (n2 := 0) (k2 := 0) own_nil own_nil 0 0 0
  rw [show cn .f32 0 = 0 from by decide +kernel] at h1
  exact ⟨[.slice none 0 0, .slice none 0 0, .int .i64 0, .int .i64 0, .float .f32 0], [], h, h1, by simp, by simp, by simp, hx⟩
def okN (d : shModel.T) (o : shOptimizer.T) (a : Int) : Prop := modB d.1 = true ∧ inB o.1 0 4 = true ∧ (parF d.1).length ≤ 256 ∧ inB a 0 2147483647 = true
instance (d : shModel.T) (o : shOptimizer.T) (a : Int) : Decidable (okN d o a) := by unfold okN; infer_instance
def res (d : shModel.T) (o : shOptimizer.T) (a : Int) : shTrainState.T × Bool := if okN d o a then (((d.1, ()), emptyF o.1 (parF d.1).length, 0, a, 1065353216, ()), true) else (noT, false)
theorem res_no {d : shModel.T} {o : shOptimizer.T} {a : Int} (h : ¬ okN d o a) : res d o a = (noT, false) := by unfold res; rw [if_neg h]
theorem empty_len (k : Int) (N : Nat) : (emptyF k N).length = slotN k := by simp [emptyF]
theorem vt_empty {k : Int} {l : List shLayer.T} {a : Int} (hk : inB k 0 4 = true) (hm : modB l = true) : vtB k l (emptyF k (parF l).length) 0 a = (inB a 0 2147483647 && decide ((parF l).length ≤ 256)) := by
  unfold vtB
  rw [hk, hm, empty_len, show inB (0 : Int) 0 1000 = true from by decide, decide_eq_true (Eq.refl (slotN k))]
  have : (emptyF k (parF l).length).all (fun x => decide (x.length = (parF l).length)) = true := by
    rw [List.all_eq_true]
    intro x hx
    unfold emptyF at hx
    rw [List.eq_of_mem_replicate hx]
    simp
  rw [this]
  simp
theorem fit_empty (k : Int) (N : Nat) : Fit (.sl (.sl .flt)) (emptyF k N) := by
  intro x hx y hy
  unfold emptyF at hx
  rw [List.eq_of_mem_replicate hx] at hy
  rw [List.eq_of_mem_replicate hy]
  show 0 < 4294967296
  decide
theorem tot_zero (k : Int) (N : Nat) : tot (.sl (.sl .flt)) (emptyF k N) ≤ 2 + 2 * N := by
  have h2 := slotN_le k
  have : tot (.sl (.sl .flt)) (emptyF k N) = slotN k + slotN k * N := by
    unfold emptyF
    generalize slotN k = n
    induction n with
    | zero => simp [tot]
    | succ n ih =>
      simp only [tot, List.length_replicate, List.replicate_succ, List.length_cons, List.map_cons, List.sum_cons] at ih ⊢
      simp at ih ⊢
      rw [Nat.add_mul]
      omega
  rw [this]
  have := Nat.mul_le_mul_right N h2
  omega
theorem tot_par : ∀ (l : List shLayer.T), tot (.sl shLayer) l = l.length + (parF l).length
  | [] => rfl
  | d :: l => by
    have ih := tot_par l
    have h1 : tot (.sl shLayer) (d :: l) = l.length + 1 + (tot shLayer d + (l.map (tot shLayer)).sum) := rfl
    have h2 : tot (.sl shLayer) l = l.length + (l.map (tot shLayer)).sum := rfl
    have h3 : tot shLayer d = (d.2.2.2.1 : List Nat).length + (d.2.2.2.2.1 : List Nat).length := by
      have e1 := tot_flts d.2.2.2.1
      have e2 := tot_flts d.2.2.2.2.1
      have e3 : tot shLayer d = 0 + (0 + (0 + (tot (.sl .flt) d.2.2.2.1 + (tot (.sl .flt) d.2.2.2.2.1 + 0)))) := rfl
      rw [e3, e1, e2]; omega
    have h4 : (parF (d :: l)).length = (d.2.2.2.1 : List Nat).length + (d.2.2.2.2.1 : List Nat).length + (parF l).length := by
      unfold parF
      rw [List.flatMap_cons, List.length_append, List.length_append]
    rw [h1, h4, List.length_cons]
    omega
theorem res_bd (d : shModel.T) (o : shOptimizer.T) (a : Int) (h : tot shModel d ≤ 1048576) (_ : tot shOptimizer o ≤ 1048576) (_ : Fit shModel d) (_ : Fit shOptimizer o) (_ : Fit .int a) : tot shTrainState (res d o a).1 ≤ 1048576 := by
  unfold res
  split
  · rename_i hh
    have h2 : tot shModel d = tot (.sl shLayer) d.1 + 0 := rfl
    have h3 := tot_zero o.1 (parF d.1).length
    have h4 := hh.2.2.1
    have h5 : tot shTrainState ((d.1, ()), emptyF o.1 (parF d.1).length, 0, a, 1065353216, ()) = tot (.sl shLayer) d.1 + tot (.sl (.sl .flt)) (emptyF o.1 (parF d.1).length) := by simp only [tot]; omega
    show tot shTrainState ((d.1, ()), emptyF o.1 (parF d.1).length, 0, a, 1065353216, ()) ≤ 1048576
    rw [h5, tot_par]
    have h6 := (modOk hh.1).few
    omega
  · simp [noT, tot]
theorem vt_call {k : Int} {f1 f2 f3 f4 : Nat} {q qs : Option Addr} {kq ks sl n : Nat} {l : List shLayer.T} {a : Int} {ub : Nat} {w : World} (hk : inB k 0 4 = true) (hm : modB l = true) (hf : Fit (.sl shLayer) l) (o1 : Rep w (.sl shLayer) [.slice q n kq] l) (o2 : Rep w (.sl (.sl .flt)) [.slice qs sl ks] (emptyF k (parF l).length)) :
    Calls Try.prog 62 #[.agg #[.int .i64 k, .float .f32 f1, .float .f32 f2, .float .f32 f3, .float .f32 f4], .agg #[.slice q n kq, .slice qs sl ks, .int .i64 0, .int .i64 a, .float .f32 ub]] w (RetB w (inB a 0 2147483647 && decide ((parF l).length ≤ 256))) := by
  obtain ⟨p1, c1, css, e1, L1⟩ := lays_of o1 hf
  obtain ⟨p2, c2, us, e2, S1⟩ := slts_of o2 (fit_empty _ _)
  rw [← vt_empty hk hm]
  rw [e1, e2]
  exact ValidTraining_any k f1 f2 f3 f4 p1 p2 _ c1 _ c2 0 a ub css us l _ w L1 S1
set_option maxRecDepth 100000 in
set_option maxHeartbeats 4000000 in
theorem impl_ok (cs0 : List Value) (D0 : shModel.T) (cs1 : List Value) (D1 : shOptimizer.T) (a2 : Int) (w : World) (h0 : Rep w shModel cs0 D0) (h1 : Rep w shOptimizer cs1 D1) (f0 : Fit shModel D0) (_ : Fit shOptimizer D1) (_ : Fit .int a2) : Calls Try.prog 19 #[ofCs shModel cs0, ofCs shOptimizer cs1, .int .i64 a2] w (OutT w 48 shTrainState (res D0 D1 a2)) := by
  obtain ⟨L0, u0⟩ := D0
  obtain ⟨c0, c1, rfl, k0, rfl⟩ := h0
  obtain ⟨p, c, rfl, _⟩ := rep_val k0
  obtain ⟨p', c', css, he0, L⟩ := lays_of k0 f0.1
  cases he0
  obtain ⟨g1, g2, g3, g4, rfl⟩ := lValidTraining.opt_cells h1
  obtain ⟨k, o2⟩ := D1
  have hfit : Fit (.sl shLayer) L0 := f0.1
  simp only [ofCs, Sh.agg, if_true, List.append_nil]
  obtain ⟨W0, hW0⟩ : ∃ W0, W0 = ((w.alloc (.cells #[.slice p L0.length c] 46)).alloc (.cells #[.int .i64 k, .float .f32 g1, .float .f32 g2, .float .f32 g3, .float .f32 g4] 40)).alloc (.cells #[.slice none 0 0, .slice none 0 0, .int .i64 0, .int .i64 0, .float .f32 0] 48) := ⟨_, rfl⟩
  obtain ⟨E0, s0, b0, b1, b2⟩ := box3 hW0
  have b0 : HB W0 w.heap.size #[.slice p L0.length c] 46 := b0
  have b1 : HB W0 (w.heap.size + 1) #[.int .i64 k, .float .f32 g1, .float .f32 g2, .float .f32 g3, .float .f32 g4] 40 := b1
  have b2 : HB W0 (w.heap.size + 1 + 1) #[.slice none 0 0, .slice none 0 0, .int .i64 0, .int .i64 0, .float .f32 0] 48 := b2
  have A := hid (fun W (h : Ext W0 W) => ValidModel_any p L0.length c L0 css W L.len L.le (L.cs.ext (E0.trans h)) (L.all.imp fun _ _ => Rep.ext (E0.trans h)) L.size L.cnt)
  clear k0 h1
  cases hb0 : modB L0
  · rw [res_no (fun h => by have := h.1; dsimp only at this; rw [hb0] at this; cases this)]
    rw [hb0] at A
    clear L f0 b0 b1 hb0 hfit
    generalize L0.length = n0 at *
    go_enter Try.func19, Try.ntmps19
    go_wp2_with fail
    rw [← hW0]
    clear hW0
    refine (A.out _ (Ext.refl _)).mono ?_
    rintro e w1 ⟨rfl, e1⟩
    have f1 := b2.ext e1
    have n1 := f1.cell 0 rfl; have n2 := f1.cell 1 rfl; have n3 := f1.cell 2 rfl; have n4 := f1.cell 3 rfl; have n5 := f1.cell 4 rfl
    have m1 := f1.froz 0; have m2 := f1.froz 1; have m3 := f1.froz 2; have m4 := f1.froz 3; have m5 := f1.froz 4
    go_wp2
    refine bodyPost_ret (v := .tuple #[.agg #[.slice none 0 0, .slice none 0 0, .int .i64 0, .int .i64 0, .float .f32 0], .bool false]) (by simp [results, Try.results19, go_sem, n1, n2, n3, n4, n5, m1, m2, m3, m4, m5]) rfl ?_
    exact out_no rfl (by have := E0.trans e1; (repeat (first | with_reducible exact Ext.refl _ | with_reducible assumption | ((with_reducible refine Ext.setCell ?_ ?_ _); rotate_left; focus (first | (simp; done) | (simp; omega))) | (with_reducible refine Ext.trans ?_ (Ext.alloc _ _)) | (with_reducible refine Ext.trans ?_ (Ext.drew _)) | (with_reducible refine Ext.trans ?_ (by with_reducible assumption)))))
  rw [hb0] at A
  have hM := modOk hb0
  have hS := small_of hM
  have hN9 := modB_par hb0
  have P := hid (fun W (h : Ext W0 W) => (params_any p L0.length c L0 css W L.len L.le (L.cs.ext (E0.trans h)) (L.all.imp fun _ _ => Rep.ext (E0.trans h)) L.size L.cnt (by omega)).mono fun e w3 h3 => h3.is)
  have CM := hid (fun W (h : Ext W0 W) => copyModel_any p L0.length c css L0 W (L.ext (E0.trans h)) hS)
  cases hes : (inB k 0 4 && decide ((parF L0).length ≤ 256))
  · have hbad : ¬ okN (L0, u0) (k, o2) a2 := fun h => by
      have h2 := h.2.1; have h3 := h.2.2.1
      dsimp only at h2 h3
      rw [h2, decide_eq_true h3] at hes; cases hes
    rw [res_no hbad]
    have ES := hid (fun W => EmptySlots_no k g1 g2 g3 g4 (parF L0).length W hes)
    clear L f0 hb0 hfit hM hS hes hbad
    generalize (parF L0) = pl at *
    generalize L0.length = n0 at *
    generalize hNN : pl.length = N at *
    have HN := hid hNN
    clear hNN
    obtain ⟨F, hF⟩ : ∃ F : Option Tmp → World → Value → Prop, F = fun d W u => match d with | some 18 => ∃ q k, u = .slice q N k | _ => u = .tuple #[.slice none 0 0, .bool false] := ⟨_, rfl⟩
    have HF := hid hF
    clear hF
    go_enter Try.func19, Try.ntmps19
    go_wp2_with fail
    rw [← hW0]
    clear hW0
    refine (A.out _ (Ext.refl _)).mono ?_
    rintro e w1 ⟨rfl, e1⟩
    go_wp2
    have hD := e1.trans (Ext.drew w1)
    have d0 := b0.ext hD
    have d1 := b1.ext hD
    have y0 := d0.cell 0 rfl
    have z0 := d1.cell 0 rfl; have z1 := d1.cell 1 rfl; have z2 := d1.cell 2 rfl; have z3 := d1.cell 3 rfl; have z4 := d1.cell 4 rfl
    refine wp_region_xall (F := F) (by kernel_rfl) (by kernel_rfl) (by kernel_rfl) ?_
    intro wf hwf
    repeat (first
      | (refine x_skip rfl ?_; simp only [Act.put, ev_tmp, List.setIfInBounds_toArray, List.set_cons_succ, List.set_cons_zero, List.getD_cons_succ, List.getD_cons_zero])
      | (refine x_mv rfl rfl rfl ?_; simp only [Act.put, ev_tmp, List.setIfInBounds_toArray, List.set_cons_succ, List.set_cons_zero, List.getD_cons_succ, List.getD_cons_zero])
      | (refine x_as rfl rfl rfl ?_; simp only [Act.put, ev_tmp, List.setIfInBounds_toArray, List.set_cons_succ, List.set_cons_zero, List.getD_cons_succ, List.getD_cons_zero])
      | ((with_reducible show wpX _ _ _ _ _ _ (Oper.mk _ (Op.call _) _ _ _ _ :: _) _); refine x_callf (f := 74) (args := #[.agg #[.slice p n0 c]]) rfl rfl Try.func74 rfl (by kernel_rfl) ?_ ?_ ?_; (focus (simp [Act.eval]; done)); (focus (intro w1 hw1; exact (by rw [HF.out]; exact (P.out w1 (hD.trans hw1)).mono fun e w3 ⟨u, h1, h2, h3⟩ => ⟨u, h1, h2, by obtain ⟨q, k, vs, g1, _, _⟩ := h3; exact ⟨q, k, by rw [g1, HN.out]⟩⟩))); rintro u w3 e3 e4 hu; simp only [HF.out] at hu; obtain ⟨q8, k8, rfl⟩ := hu; simp only [Act.put, ev_tmp, List.setIfInBounds_toArray, List.set_cons_succ, List.set_cons_zero, List.getD_cons_succ, List.getD_cons_zero])
      | ((with_reducible show wpX _ _ _ _ _ _ (Oper.mk _ (Op.call _) _ _ _ _ :: _) _); refine x_callf (f := 73) (args := #[.agg #[.int .i64 k, .float .f32 g1, .float .f32 g2, .float .f32 g3, .float .f32 g4], .int .i64 N]) rfl rfl Try.func73 rfl (by kernel_rfl) ?_ ?_ ?_; (focus (simp [Act.eval]; done)); (focus (intro w1 hw1; exact (by rw [HF.out]; exact (ES.out w1).mono fun e w3 h => ⟨_, h.1, h.2, rfl⟩))); rintro u w3 e3 e4 hu; simp only [HF.out] at hu; subst hu; simp only [Act.put, ev_tmp, List.setIfInBounds_toArray, List.set_cons_succ, List.set_cons_zero, List.getD_cons_succ, List.getD_cons_zero])
      | (refine x_run rfl fun K hK w1 hw1 => ?_; have k0 := hw1.cell (y0); have k1 := hw1.cell (z0); have k2 := hw1.cell (z1); have k3 := hw1.cell (z2); have k4 := hw1.cell (z3); have k5 := hw1.cell (z4); go_simp; refine hK _ ?_; clear hK K k0 k1 k2 k3 k4 k5 hw1 w1))
    refine x_nil ?_
    have eF := hD.trans hwf
    have d2 := b0.ext eF
    have y2 := d2.cell 0 rfl
    clear y0 z0 z1 z2 z3 z4 d0 d1
    go_wp2_with fail
    refine (CM.out _ eF).mono ?_
    rintro e w5 ⟨q5, k5, rfl, _, e5⟩
    go_wp2_with ((with_reducible show wpList _ _ _ (Oper.mk _ (Op.store _ _ _) _ _ _ _ :: _) _ _); refine wl_stA (s := shTrainState) (cs := [.slice q5 n0 k5, .slice none 0 0, .int .i64 0, .int .i64 a2, .float .f32 1065353216]) rfl rfl rfl rfl (heap_alloc_new _ _) rfl rfl (by simp [Value.oneCell']) (by decide) ?_; intro w6 c6 ch6; have E6 : Ext w5 w6 := (Ext.alloc _ _).chg ch6 (fun b hb => by subst hb; exact Nat.le_refl _); clear ch6; have f1 := b2.ext (eF.trans (e5.trans E6)); have n1 := f1.cell 0 rfl; have n2 := f1.cell 1 rfl; have n3 := f1.cell 2 rfl; have n4 := f1.cell 3 rfl; have n5 := f1.cell 4 rfl; have m1 := f1.froz 0; have m2 := f1.froz 1; have m3 := f1.froz 2; have m4 := f1.froz 3; have m5 := f1.froz 4)
    refine bodyPost_ret (v := .tuple #[.agg #[.slice none 0 0, .slice none 0 0, .int .i64 0, .int .i64 0, .float .f32 0], .bool false]) (by simp [results, Try.results19, go_sem, n1, n2, n3, n4, n5, m1, m2, m3, m4, m5]) rfl ?_
    exact out_no rfl (by have := E0.trans (eF.trans (e5.trans E6)); (repeat (first | with_reducible exact Ext.refl _ | with_reducible assumption | ((with_reducible refine Ext.setCell ?_ ?_ _); rotate_left; focus (first | (simp; done) | (simp; omega))) | (with_reducible refine Ext.trans ?_ (Ext.alloc _ _)) | (with_reducible refine Ext.trans ?_ (Ext.drew _)) | (with_reducible refine Ext.trans ?_ (by with_reducible assumption)))))
  have hk : inB k 0 4 = true := by rw [Bool.and_eq_true] at hes; exact hes.1
  have hNn : (parF L0).length ≤ 256 := by rw [Bool.and_eq_true, decide_eq_true_eq] at hes; exact hes.2
  have ES := hid (fun W => EmptySlots_yes k g1 g2 g3 g4 (parF L0).length W hk hNn)
  have VT := hid (fun W (q qs : Option Addr) (kq ks sl : Nat) (ub : Nat) o1 o2 => vt_call (f1 := g1) (f2 := g2) (f3 := g3) (f4 := g4) (q := q) (qs := qs) (kq := kq) (ks := ks) (sl := sl) (n := L0.length) (a := a2) (ub := ub) (w := W) hk hb0 hfit o1 o2)
  rw [show (inB a2 0 2147483647 && decide ((parF L0).length ≤ 256)) = inB a2 0 2147483647 from by rw [decide_eq_true hNn, Bool.and_true]] at VT
  have HNo := hid (fun (h : inB a2 0 2147483647 = false) => show res (L0, u0) (k, o2) a2 = (noT, false) from res_no (fun hh => by have h2 := hh.2.2.2; rw [h] at h2; cases h2))
  have HYes := hid (fun (h : inB a2 0 2147483647 = true) => show res (L0, u0) (k, o2) a2 = (((L0, ()), emptyF k (parF L0).length, 0, a2, 1065353216, ()), true) from by unfold res; rw [if_pos ⟨hb0, hk, hNn, h⟩])
  clear L f0 hb0 hfit hM hS hes hk
  generalize res (L0, u0) (k, o2) a2 = rs at *
  generalize emptyF k (parF L0).length = slots at *
  generalize (parF L0) = pl at *
  generalize L0.length = n0 at *
  generalize hNN : pl.length = N at *
  have HN := hid hNN
  clear hNN
  generalize slotN k = sl at *
  generalize inB a2 0 2147483647 = ib at *
  obtain ⟨F, hF⟩ : ∃ F : Option Tmp → World → Value → Prop, F = fun d W u => match d with | some 18 => ∃ q k, u = .slice q N k | _ => ∃ q c, u = .tuple #[.slice q sl c, .bool true] ∧ IsOwnY [25, 22] W0.heap.size (.sl (.sl .flt)) W [.slice q sl c] slots := ⟨_, rfl⟩
  have HF := hid hF
  clear hF
  go_enter Try.func19, Try.ntmps19
  go_wp2_with fail
  rw [← hW0]
  clear hW0
  refine (A.out _ (Ext.refl _)).mono ?_
  rintro e w1 ⟨rfl, e1⟩
  go_wp2
  have hD := e1.trans (Ext.drew w1)
  have d0 := b0.ext hD
  have d1 := b1.ext hD
  have y0 := d0.cell 0 rfl
  have z0 := d1.cell 0 rfl; have z1 := d1.cell 1 rfl; have z2 := d1.cell 2 rfl; have z3 := d1.cell 3 rfl; have z4 := d1.cell 4 rfl
  refine wp_region_xall (F := F) (by kernel_rfl) (by kernel_rfl) (by kernel_rfl) ?_
  intro wf hwf
  repeat (first
    | (refine x_skip rfl ?_; simp only [Act.put, ev_tmp, List.setIfInBounds_toArray, List.set_cons_succ, List.set_cons_zero, List.getD_cons_succ, List.getD_cons_zero])
    | (refine x_mv rfl rfl rfl ?_; simp only [Act.put, ev_tmp, List.setIfInBounds_toArray, List.set_cons_succ, List.set_cons_zero, List.getD_cons_succ, List.getD_cons_zero])
    | (refine x_as rfl rfl rfl ?_; simp only [Act.put, ev_tmp, List.setIfInBounds_toArray, List.set_cons_succ, List.set_cons_zero, List.getD_cons_succ, List.getD_cons_zero])
    | ((with_reducible show wpX _ _ _ _ _ _ (Oper.mk _ (Op.call _) _ _ _ _ :: _) _); refine x_callf (f := 74) (args := #[.agg #[.slice p n0 c]]) rfl rfl Try.func74 rfl (by kernel_rfl) ?_ ?_ ?_; (focus (simp [Act.eval]; done)); (focus (intro w1 hw1; exact (by rw [HF.out]; exact (P.out w1 (hD.trans hw1)).mono fun e w3 ⟨u, h1, h2, h3⟩ => ⟨u, h1, h2, by obtain ⟨q, k, vs, g1, _, _⟩ := h3; exact ⟨q, k, by rw [g1, HN.out]⟩⟩))); rintro u w3 e3 e4 hu; simp only [HF.out] at hu; obtain ⟨q8, k8, rfl⟩ := hu; simp only [Act.put, ev_tmp, List.setIfInBounds_toArray, List.set_cons_succ, List.set_cons_zero, List.getD_cons_succ, List.getD_cons_zero])
    | ((with_reducible show wpX _ _ _ _ _ _ (Oper.mk _ (Op.call _) _ _ _ _ :: _) _); refine x_callf (f := 73) (args := #[.agg #[.int .i64 k, .float .f32 g1, .float .f32 g2, .float .f32 g3, .float .f32 g4], .int .i64 N]) rfl rfl Try.func73 rfl (by kernel_rfl) ?_ ?_ ?_; (focus (simp [Act.eval]; done)); (focus (intro w1 hw1; exact (by rw [HF.out]; exact (ES.out w1).mono fun e w3 ⟨q, c, h1, h2, h3⟩ => ⟨_, h1, h3, q, c, rfl, h2.base (hD.trans hw1).size⟩))); rintro u w3 e3 e4 hu; simp only [HF.out] at hu; obtain ⟨qs, ks, rfl, os⟩ := hu; have OS := hid (os.ext e4); clear os; simp only [Act.put, ev_tmp, List.setIfInBounds_toArray, List.set_cons_succ, List.set_cons_zero, List.getD_cons_succ, List.getD_cons_zero])
    | (refine x_run rfl fun K hK w1 hw1 => ?_; have k0 := hw1.cell (y0); have k1 := hw1.cell (z0); have k2 := hw1.cell (z1); have k3 := hw1.cell (z2); have k4 := hw1.cell (z3); have k5 := hw1.cell (z4); go_simp; refine hK _ ?_; clear hK K k0 k1 k2 k3 k4 k5 hw1 w1))
  refine x_nil ?_
  have eF := hD.trans hwf
  have d2 := b0.ext eF
  have y2 := d2.cell 0 rfl
  clear y0 z0 z1 z2 z3 z4 d0 d1 hD hwf
  go_wp2_with fail
  refine (CM.out _ eF).mono ?_
  rintro e w5 ⟨q5, k5, rfl, om, e5⟩
  have OM := hid om
  clear om
  go_wp2_with (first | ((with_reducible show wpList _ _ _ (Oper.mk _ (Op.store _ _ _) _ _ _ _ :: _) _ _); refine wl_stA (s := shTrainState) (cs := [.slice q5 n0 k5, .slice qs sl ks, .int .i64 0, .int .i64 a2, .float .f32 1065353216]) rfl rfl rfl rfl (heap_alloc_new _ _) rfl rfl (by simp [Value.oneCell']) (by decide) ?_; intro w6 c6 ch6; have E6 : Ext w5 w6 := (Ext.alloc _ _).chg ch6 (fun b hb => by subst hb; exact Nat.le_refl _); clear ch6; have d6 := cs_heap (b1.ext (eF.trans (e5.trans E6)))) | ((with_reducible show wpList _ _ _ (Oper.mk _ (Op.load _ _) _ _ _ _ :: _) _ _); refine wl_ldAw (s := shOptimizer) (cs := [.int .i64 k, .float .f32 g1, .float .f32 g2, .float .f32 g3, .float .f32 g4]) (by first | rfl | (go_simp; done) | (go_simp; omega)) rfl rfl d6 rfl ?_) | ((with_reducible show wpList _ _ _ (Oper.mk _ (Op.load _ _) _ _ _ _ :: _) _ _); refine wl_ldAw (s := shTrainState) (cs := [.slice q5 n0 k5, .slice qs sl ks, .int .i64 0, .int .i64 a2, .float .f32 1065353216]) (by first | rfl | (go_simp; done) | (go_simp; omega)) rfl rfl c6 rfl ?_))
  have om6 := OM.out.ext E6
  obtain ⟨bm, m1, m2, m3, m4⟩ := om6
  obtain ⟨bs, t1, s2, s3, t4⟩ := OS.out
  have slt := t1.lt
  have s1 := t1.ext (e5.trans E6)
  have s4 := t4.ext (e5.trans E6)
  refine (VT.out _ q5 qs k5 ks sl _ m1.rep s1.rep).mono ?_
  rintro e w7 ⟨rfl, e7⟩
  have eW := eF.trans (e5.trans (E6.trans e7))
  have f1 := b2.ext eW
  have n1 := f1.cell 0 rfl; have n2 := f1.cell 1 rfl; have n3 := f1.cell 2 rfl; have n4 := f1.cell 3 rfl; have n5 := f1.cell 4 rfl
  have x1 := f1.froz 0; have x2 := f1.froz 1; have x3 := f1.froz 2; have x4 := f1.froz 3; have x5 := f1.froz 4
  cases ib
  · have hno := HNo.out rfl
    subst hno
    go_wp2
    refine bodyPost_ret (v := .tuple #[.agg #[.slice none 0 0, .slice none 0 0, .int .i64 0, .int .i64 0, .float .f32 0], .bool false]) (by simp [results, Try.results19, go_sem, n1, n2, n3, n4, n5, x1, x2, x3, x4, x5]) rfl ?_
    exact out_no rfl (by have := E0.trans eW; (repeat (first | with_reducible exact Ext.refl _ | with_reducible assumption | ((with_reducible refine Ext.setCell ?_ ?_ _); rotate_left; focus (first | (simp; done) | (simp; omega))) | (with_reducible refine Ext.trans ?_ (Ext.alloc _ _)) | (with_reducible refine Ext.trans ?_ (Ext.drew _)) | (with_reducible refine Ext.trans ?_ (by with_reducible assumption)))))
  · have hyes := HYes.out rfl
    subst hyes
    have c7 := c6.ext e7
    have q1' := eF.size
    have q2' := E6.size
    have q3' := e5.size
    have lo1 : ∀ b ∈ bm, W0.heap.size ≤ b := fun b hb => by have := m3 b hb; omega
    have r1 := m1.ext e7
    have r2 := s1.ext e7
    have ty := ((m4.ext e7).mono (us := [98, 25, 22]) (by simp)).app ((s4.ext e7).mono (us := [98, 25, 22]) (by simp))
    have hnd : (bm ++ bs).Nodup := by
      rw [List.nodup_append]
      refine ⟨m2, s2, fun x hx y hy he => ?_⟩
      subst he
      have := m3 x hx; have := slt x hy; omega
    clear HNo HYes VT CM P ES A OM OS m1 m4 s1 s4 t1 t4 d6 c6 y2 d2
    go_wp2_with ((with_reducible show wpList _ _ _ (Oper.mk _ (Op.load _ _) _ _ _ _ :: _) _ _); refine wl_ldA (s := shTrainState) (cs := [.slice q5 n0 k5, .slice qs sl ks, .int .i64 0, .int .i64 a2, .float .f32 1065353216]) rfl rfl rfl c7 rfl ?_; rw [show ofCs shTrainState [.slice q5 n0 k5, .slice qs sl ks, .int .i64 0, .int .i64 a2, .float .f32 1065353216] = .agg #[.slice q5 n0 k5, .slice qs sl ks, .int .i64 0, .int .i64 a2, .float .f32 1065353216] from rfl])
    refine bodyPost_ret (v := .tuple #[.agg #[.slice q5 n0 k5, .slice qs sl ks, .int .i64 0, .int .i64 a2, .float .f32 1065353216], .bool true]) (by simp [results, Try.results19, go_sem, n1, n2, n3, n4, n5, x1, x2, x3, x4, x5]) rfl ?_
    generalize hWf : World.setCell _ _ _ = WF
    have ch : Chg (fun b => b = w.heap.size + 1 + 1) w7 WF := by subst hWf; (repeat (first | with_reducible exact Chg.refl _ _ | (with_reducible exact Chg.of_ext (by with_reducible assumption)) | with_reducible assumption | ((with_reducible refine Chg.setCell ?_ ?_ _); rotate_left; focus (first | (simp; done) | (simp; omega))) | (with_reducible refine Chg.alloc ?_ _) | (with_reducible refine Chg.drew ?_) | (with_reducible refine Chg.trans ?_ (Chg.of_ext (by with_reducible assumption)))))
    clear hWf
    have ot := own_tra (r1.chg ch (fun b hb h => by have := lo1 b hb; omega)) (r2.chg ch (fun b hb h => by have := s3 b hb; omega)) 0 a2 1065353216
    rw [show cn .f32 1065353216 = 1065353216 from by decide +kernel] at ot
    exact ⟨[.slice q5 n0 k5, .slice qs sl ks, .int .i64 0, .int .i64 a2, .float .f32 1065353216], bm ++ bs, rfl, ot, hnd, fun b hb => by
      rcases List.mem_append.1 hb with h | h
      · have := lo1 b h; omega
      · have := s3 b h; omega, (ty.chg ch (fun b hb h => by
        rcases List.mem_append.1 hb with h' | h'
        · have := lo1 b h'; omega
        · have := s3 b h'; omega)).no (by decide), (E0.trans eW).chg ch (fun b hb => by omega)⟩
end Go.Proofs.Ytbdcjhhphkckcaa.lNewTraining
