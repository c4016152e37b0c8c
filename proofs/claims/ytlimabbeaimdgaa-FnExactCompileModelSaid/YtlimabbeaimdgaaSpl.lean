/- SplitModel. -/
import Derived.Test.YtlimabbeaimdgaaCpyS
import Derived.Test.YtlimabbeaimdgaaKf
namespace Go.Proofs.Ytlimabbeaimdgaa
set_option linter.unusedSimpArgs false
set_option linter.unusedVariables false
open Go.RowKit

theorem small_of {L : List shLayer.T} (h : ModOk L) : Small L := by
  refine ⟨by have := h.few; omega, fun d hd => ?_⟩
  obtain ⟨i, hi, rfl⟩ := List.mem_iff_getElem.1 hd
  have hl := h.lay i hi
  unfold layD layB at hl
  simp only [Bool.and_eq_true, decide_eq_true_eq, inB_true, Bool.or_eq_true] at hl
  obtain ⟨h1, h2, h3, h4, h5, h6⟩ := hl
  have hm := mul_bd h2 h3
  unfold wCnt at h5
  unfold bCnt at h6
  refine ⟨?_, ?_⟩
  · split at h5
    · omega
    · split at h5
      · omega
      · split at h5 <;> omega
  · split at h6
    · omega
    · split at h6
      · omega
      · split at h6 <;> omega
theorem small_take {L : List shLayer.T} (h : Small L) (k : Nat) : Small (L.take k) := ⟨by rw [List.length_take]; have := h.1; omega, fun d hd => h.2 d (List.mem_of_mem_take hd)⟩
theorem small_drop {L : List shLayer.T} (h : Small L) (k : Nat) : Small (L.drop k) := ⟨by rw [List.length_drop]; have := h.1; omega, fun d hd => h.2 d (List.mem_of_mem_drop hd)⟩
theorem lays_sub {w : World} {p : Option Addr} {n c a b : Nat} {css : List (List Value)} {L : List shLayer.T} (h : Lays w p n css L) (hc : n ≤ c) (h1 : a ≤ b) (h2 : b ≤ n) : Lays w (subp p shLayer.sz a c) (b - a) ((css.take b).drop a) ((L.take b).drop a) := by
  refine ⟨?_, ?_, fun x hx => h.size x (List.mem_of_mem_take (List.mem_of_mem_drop hx)), fun x hx => h.one x (List.mem_of_mem_take (List.mem_of_mem_drop hx)), ?_, ?_, fun x hx => h.fit x (List.mem_of_mem_take (List.mem_of_mem_drop hx)), by have := h.le; omega⟩
  · have h3 := h.cs.sub (s := 5) (l := a) (hi := b) (c := c) h1 (by omega)
    have hs : ∀ x ∈ css, x.length = 5 := h.size
    have e1 : css.flatten.take (b * 5) = (css.take b).flatten := by
      have h4 : (css.take b).flatten.length = b * 5 := by
        rw [flat_len' (fun x hx => hs x (List.mem_of_mem_take hx)), List.length_take, h.cnt, Nat.min_eq_left h2]
      conv => lhs; rw [← List.take_append_drop b css, List.flatten_append]
      rw [← h4, List.take_left]
    have e2 : (css.take b).flatten.drop (a * 5) = ((css.take b).drop a).flatten := by
      have h4 : ((css.take b).take a).flatten.length = a * 5 := by
        rw [flat_len' (fun x hx => hs x (List.mem_of_mem_take (List.mem_of_mem_take hx))), List.length_take, List.length_take, h.cnt]
        congr 1; omega
      conv => lhs; rw [← List.take_append_drop a (css.take b), List.flatten_append]
      rw [← h4, List.drop_left]
    rw [e1, e2] at h3
    exact h3
  · have : ∀ {us : List (List Value)} {bs : List shLayer.T}, All2 (Rep w shLayer) us bs → All2 (Rep w shLayer) ((us.take b).drop a) ((bs.take b).drop a) := by
      intro us bs hu
      refine All2.of_get (by rw [List.length_drop, List.length_drop, List.length_take, List.length_take, hu.length]) fun i x y hx hy => ?_
      rw [List.getElem?_drop, List.getElem?_take] at hx hy
      split at hx
      · rename_i hi
        rw [if_pos hi] at hy
        exact hu.toGet _ _ _ hx hy
      · cases hx
    exact this h.all
  · rw [List.length_drop, List.length_take, h.len, Nat.min_eq_left h2]
  · rw [List.length_drop, List.length_take, h.cnt, Nat.min_eq_left h2]
end Go.Proofs.Ytlimabbeaimdgaa
namespace Go.Proofs.Ytlimabbeaimdgaa.lSplitModel
open Go.RowKit
def okS (d : shModel.T) (a : Int) : Prop := modB d.1 = true ∧ inB a 1 ((d.1.length : Int) - 1) = true
instance (d : shModel.T) (a : Int) : Decidable (okS d a) := by unfold okS; infer_instance
def res (d : shModel.T) (a : Int) : shModel.T × shModel.T × Bool := if okS d a then ((d.1.take a.toNat, ()), (d.1.drop a.toNat, ()), true) else (([], ()), ([], ()), false)
theorem res_no {d : shModel.T} {a : Int} (h : ¬ okS d a) : res d a = (([], ()), ([], ()), false) := by unfold res; rw [if_neg h]
theorem tot_app {e : Sh} (l m : List e.T) : tot (.sl e) (l ++ m) = tot (.sl e) l + tot (.sl e) m := by
  simp only [tot, List.length_append, List.map_append, List.sum_append]; omega
theorem res_bd (d : shModel.T) (a : Int) (h : tot shModel d ≤ 1048576) (_ : Fit shModel d) (_ : Fit .int a) : tot shModel (res d a).1 ≤ 1048576 := by
  unfold res
  split
  · have h2 : tot shModel d = tot (.sl shLayer) d.1 + 0 := rfl
    have h3 : tot shModel (d.1.take a.toNat, ()) = tot (.sl shLayer) (d.1.take a.toNat) + 0 := rfl
    have h4 := tot_app (e := shLayer) (d.1.take a.toNat) (d.1.drop a.toNat)
    rw [List.take_append_drop] at h4
    show tot shModel (d.1.take a.toNat, ()) ≤ _
    omega
  · simp [tot]
theorem res_bd1 (d : shModel.T) (a : Int) (h : tot shModel d ≤ 1048576) (_ : Fit shModel d) (_ : Fit .int a) : tot shModel (res d a).2.1 ≤ 1048576 := by
  unfold res
  split
  · have h2 : tot shModel d = tot (.sl shLayer) d.1 + 0 := rfl
    have h3 : tot shModel (d.1.drop a.toNat, ()) = tot (.sl shLayer) (d.1.drop a.toNat) + 0 := rfl
    have h4 := tot_app (e := shLayer) (d.1.take a.toNat) (d.1.drop a.toNat)
    rw [List.take_append_drop] at h4
    show tot shModel (d.1.drop a.toNat, ()) ≤ _
    omega
  · simp [tot]
theorem own_mod {w : World} {q : Option Addr} {n k : Nat} {L : List shLayer.T} {bs : List Nat} (h : Own w (.sl shLayer) [.slice q n k] L bs) : Own w shModel [.slice q n k] (L, ()) bs := ⟨[.slice q n k], [], bs, [], rfl, h, ⟨rfl, rfl⟩, by simp⟩
theorem out2_no {w w' : World} {e : Ending} (h : e = .returned (.tuple #[.agg #[.slice none 0 0], .agg #[.slice none 0 0], .bool false])) (hx : Ext w w') : Out2 w shModel shModel (([], ()), ([], ()), false) e w' :=
  ⟨[.slice none 0 0], [], [.slice none 0 0], [], h, own_mod own_nil, own_mod own_nil, by simp, by simp, hx⟩
set_option maxRecDepth 100000 in
set_option maxHeartbeats 4000000 in
theorem impl_ok (cs0 : List Value) (D0 : shModel.T) (a : Int) (w : World) (h0 : Rep w shModel cs0 D0) (f0 : Fit shModel D0) (_ : Fit .int a) : Calls Try.prog 58 #[ofCs shModel cs0, .int .i64 a] w (Out2 w shModel shModel (res D0 a)) := by
  obtain ⟨L0, u0⟩ := D0
  obtain ⟨c0, c1, rfl, k0, rfl⟩ := h0
  obtain ⟨p, c, rfl, _⟩ := rep_val k0
  obtain ⟨p', c', css, he0, L⟩ := lays_of k0 f0.1
  cases he0
  have hnc : L0.length ≤ c := by
    obtain ⟨_, _, _, h1, _, h3, _⟩ := k0
    cases h1; exact h3
  simp only [ofCs, Sh.agg, if_true, List.append_nil]
  obtain ⟨W0, hW0⟩ : ∃ W0, W0 = ((w.alloc (.cells #[.slice p L0.length c] 33)).alloc (.cells #[.slice none 0 0] 33)).alloc (.cells #[.slice none 0 0] 33) := ⟨_, rfl⟩
  obtain ⟨E0, s0, b0, b1, b2⟩ := box3 hW0
  have a0 : W0.cell? ⟨w.heap.size, 0, none⟩ = some (.slice p L0.length c) := cell_of_heap b0 rfl
  have b1 : HB W0 (w.heap.size + 1) #[.slice none 0 0] 33 := b1
  have b2 : HB W0 (w.heap.size + 1 + 1) #[.slice none 0 0] 33 := b2
  have A := hid (fun W (h : Ext W0 W) => ValidModel_any p L0.length c L0 css W L.len L.le (L.cs.ext (E0.trans h)) (L.all.imp fun _ _ => Rep.ext (E0.trans h)) L.size L.cnt)
  have B := hid (fun W => within_any a 1 ((L0.length : Int) - 1) W)
  have hlm : L0.length ≤ maxLen := L.le
  unfold maxLen at hlm
  have q1 : IntKind.i64.wrap ((L0.length : Int) - 1) = (L0.length : Int) - 1 := wrap_in _ (by omega) (by omega)
  cases hb0 : modB L0
  · rw [res_no (fun h => by have := h.1; dsimp only at this; rw [hb0] at this; cases this)]
    rw [hb0] at A
    clear k0 L f0 B b0
    generalize L0.length = n0 at *
    go_enter Try.func58, Try.ntmps58
    go_wp2_with fail
    rw [← hW0]
    clear hW0
    refine (A.out _ (Ext.refl _)).mono ?_
    rintro e w1 ⟨rfl, e1⟩
    have g1 : w1.cell? ⟨w.heap.size + 1, 0, none⟩ = some (.slice none 0 0) := (b1.ext e1).cell 0 rfl
    have g2 : w1.cell? ⟨w.heap.size + 1 + 1, 0, none⟩ = some (.slice none 0 0) := (b2.ext e1).cell 0 rfl
    have g3 := (b1.ext e1).froz 0
    have g4 := (b2.ext e1).froz 0
    go_wp2
    refine bodyPost_ret (v := .tuple #[.agg #[.slice none 0 0], .agg #[.slice none 0 0], .bool false]) (by simp [results, Try.results58, go_sem, g1, g2, g3, g4]) rfl ?_
    exact out2_no rfl (by have := E0.trans e1; (repeat (first | with_reducible exact Ext.refl _ | with_reducible assumption | ((with_reducible refine Ext.setCell ?_ ?_ _); rotate_left; focus (first | (simp; done) | (simp; omega))) | (with_reducible refine Ext.trans ?_ (Ext.alloc _ _)) | (with_reducible refine Ext.trans ?_ (Ext.drew _)) | (with_reducible refine Ext.trans ?_ (by with_reducible assumption)))))
  rw [hb0] at A
  have hM := modOk hb0
  have hS := small_of hM
  cases hb1 : inB a 1 ((L0.length : Int) - 1)
  · rw [res_no (fun h => by have := h.2; dsimp only at this; rw [hb1] at this; cases this)]
    rw [hb1] at B
    have x0 := a0
    clear k0 L f0 b0 hM hS
    generalize L0.length = n0 at *
    go_enter Try.func58, Try.ntmps58
    go_wp2_with fail
    rw [← hW0]
    clear hW0
    refine (A.out _ (Ext.refl _)).mono ?_
    rintro e w1 ⟨rfl, e1⟩
    have x0 := e1.cell a0
    have g1 : w1.cell? ⟨w.heap.size + 1, 0, none⟩ = some (.slice none 0 0) := (b1.ext e1).cell 0 rfl
    have g2 : w1.cell? ⟨w.heap.size + 1 + 1, 0, none⟩ = some (.slice none 0 0) := (b2.ext e1).cell 0 rfl
    have g3 := (b1.ext e1).froz 0
    have g4 := (b2.ext e1).froz 0
    go_wp2_with (go_at_call 81; refine (B.out _).mono ?_; rintro e w2 ⟨rfl, rfl⟩)
    refine bodyPost_ret (v := .tuple #[.agg #[.slice none 0 0], .agg #[.slice none 0 0], .bool false]) (by simp [results, Try.results58, go_sem, g1, g2, g3, g4]) rfl ?_
    exact out2_no rfl (by have := E0.trans e1; (repeat (first | with_reducible exact Ext.refl _ | with_reducible assumption | ((with_reducible refine Ext.setCell ?_ ?_ _); rotate_left; focus (first | (simp; done) | (simp; omega))) | (with_reducible refine Ext.trans ?_ (Ext.alloc _ _)) | (with_reducible refine Ext.trans ?_ (Ext.drew _)) | (with_reducible refine Ext.trans ?_ (by with_reducible assumption)))))
  rw [hb1] at B
  have hok : okS (L0, u0) a := ⟨hb0, hb1⟩
  rw [inB_true] at hb1
  obtain ⟨A1, rfl⟩ := Int.eq_ofNat_of_zero_le (show 0 ≤ a by omega)
  have hres : res (L0, u0) (A1 : Int) = ((L0.take A1, ()), (L0.drop A1, ()), true) := by unfold res; rw [if_pos hok]; rfl
  rw [hres]
  have hA1 : A1 ≤ L0.length := by omega
  have G1 := hid (fun W (h : Ext W0 W) => copyModel_any (subp p shLayer.sz 0 c) (A1 - 0) (c - 0) _ _ W (lays_sub (L.ext (E0.trans h)) hnc (Nat.zero_le A1) hA1) (small_drop (small_take hS A1) 0))
  have G2 := hid (fun W (h : Ext W0 W) => copyModel_any (subp p shLayer.sz A1 c) (L0.length - A1) (c - A1) _ _ W (lays_sub (L.ext (E0.trans h)) hnc hA1 (Nat.le_refl _)) (small_drop (small_take hS L0.length) A1))
  rw [List.drop_zero, Nat.sub_zero, Nat.sub_zero] at G1
  rw [List.take_of_length_le (Nat.le_refl L0.length)] at G2
  clear k0 L f0 b0 hM hS hok hres hb0
  generalize L0.take A1 = P1 at *
  generalize L0.drop A1 = P2 at *
  generalize L0.length = n0 at *
  have ⟨m2, hm2⟩ : ∃ m, m = n0 - A1 := ⟨_, rfl⟩
  rw [← hm2] at G2
  have Hm2 := hid hm2
  clear hm2
  obtain ⟨F, hF⟩ : ∃ F : Option Tmp → World → World → Value → Prop, F = fun d w0 W u => match d with | some 26 => ∃ q k, u = .agg #[.slice q A1 k] ∧ IsOwnY [65, 49] w0.heap.size (.sl shLayer) W [.slice q A1 k] P1 | _ => ∃ q k, u = .agg #[.slice q m2 k] ∧ IsOwnY [65, 49] w0.heap.size (.sl shLayer) W [.slice q m2 k] P2 := ⟨_, rfl⟩
  have HF := hid hF
  clear hF
  go_enter Try.func58, Try.ntmps58
  go_wp2_with fail
  rw [← hW0]
  clear hW0
  refine (A.out _ (Ext.refl _)).mono ?_
  rintro e w1 ⟨rfl, e1⟩
  have x0 := e1.cell a0
  go_wp2_with (go_at_call 81; refine (B.out _).mono ?_; rintro e w2 ⟨rfl, rfl⟩)
  have hD := Ext.drew w1
  have y0 := hD.cell x0
  have hWD := e1.trans hD
  refine wp_region_yt 12 (F := F) (by kernel_rfl) (by kernel_rfl) (by kernel_rfl) (by kernel_rfl) (by kernel_rfl) ?_
  intro wf hwf
  simp only [List.take_succ_cons, List.take_zero, List.drop_succ_cons, List.drop_zero]
  repeat (first
    | (refine x_skip rfl ?_; simp only [Act.put, ev_tmp, List.setIfInBounds_toArray, List.set_cons_succ, List.set_cons_zero, List.getD_cons_succ, List.getD_cons_zero])
    | (refine x_mv rfl rfl rfl ?_; simp only [Act.put, ev_tmp, List.setIfInBounds_toArray, List.set_cons_succ, List.set_cons_zero, List.getD_cons_succ, List.getD_cons_zero])
    | (refine x_as rfl rfl rfl ?_; simp only [Act.put, ev_tmp, List.setIfInBounds_toArray, List.set_cons_succ, List.set_cons_zero, List.getD_cons_succ, List.getD_cons_zero])
    | ((with_reducible show wpX _ _ _ _ _ _ (Oper.mk _ (Op.slice _ _ _ _ _) _ _ _ _ :: _) _); refine x_sliceTo (u := A1) rfl rfl rfl rfl rfl (by omega) ?_; rw [Nat.sub_zero, Nat.sub_zero]; simp only [Act.put, ev_tmp, List.setIfInBounds_toArray, List.set_cons_succ, List.set_cons_zero, List.getD_cons_succ, List.getD_cons_zero])
    | ((with_reducible show wpX _ _ _ _ _ _ (Oper.mk _ (Op.slice _ _ _ _ _) _ _ _ _ :: _) _); refine x_sliceFrom (l := A1) rfl rfl rfl rfl rfl (by omega) (by omega) ?_; rw [← Hm2.out]; simp only [Act.put, ev_tmp, List.setIfInBounds_toArray, List.set_cons_succ, List.set_cons_zero, List.getD_cons_succ, List.getD_cons_zero])
    | ((with_reducible show wpX _ _ _ _ _ _ (Oper.mk _ (Op.call _) _ _ _ _ :: _) _); refine y_callK (f := 117) (args := #[.agg #[.slice (subp p shLayer.sz 0 c) A1 c]]) rfl rfl Try.func117 rfl (by kernel_rfl) ?_ ?_ ?_; (focus (simp [Act.eval]; done)); (focus (intro w1 hw1 hK; exact (by rw [HF.out]; exact (G1.out w1 (hWD.trans hw1)).mono fun e w3 ⟨q, k, g1, g2, g3⟩ => ⟨_, g1, g3, q, k, rfl, g2⟩))); rintro u wa wb e0 hK e3 e4 hu; simp only [HF.out] at hu; obtain ⟨qa, ka, rfl, _⟩ := hu; simp only [Act.put, ev_tmp, List.setIfInBounds_toArray, List.set_cons_succ, List.set_cons_zero, List.getD_cons_succ, List.getD_cons_zero])
    | ((with_reducible show wpX _ _ _ _ _ _ (Oper.mk _ (Op.call _) _ _ _ _ :: _) _); refine y_callK (f := 117) (args := #[.agg #[.slice (subp p shLayer.sz A1 c) m2 (c - A1)]]) rfl rfl Try.func117 rfl (by kernel_rfl) ?_ ?_ ?_; (focus (simp [Act.eval]; done)); (focus (intro w1 hw1 hK; exact (by rw [HF.out]; exact (G2.out w1 (hWD.trans hw1)).mono fun e w3 ⟨q, k, g1, g2, g3⟩ => ⟨_, g1, g3, q, k, rfl, g2⟩))); rintro u wa wb e0 hK e3 e4 hu; simp only [HF.out] at hu; obtain ⟨qb, kb, rfl, o2⟩ := hu; obtain ⟨v0, v3, f0, f1, f2, f3⟩ := knownC_call hK (j := 5) (d := 26) (by kernel_rfl) rfl rfl rfl rfl Try.func117 rfl (by kernel_rfl) (by simp); rw [HF.out] at f3; obtain ⟨qc, kc, hqc, o1⟩ := f3; have hqd : Value.agg #[.slice qa A1 ka] = .agg #[.slice qc A1 kc] := hqc; simp only [Value.agg.injEq, Array.mk.injEq, List.cons.injEq, Value.slice.injEq, and_true, true_and] at hqd; obtain ⟨rfl, rfl⟩ := hqd; simp only [Act.put, ev_tmp, List.setIfInBounds_toArray, List.set_cons_succ, List.set_cons_zero, List.getD_cons_succ, List.getD_cons_zero])
    | (refine x_run rfl fun K hK w1 hw1 => ?_; have k0 := hw1.cell (y0); go_simp; refine hK _ ?_; clear hK K k0 hw1 w1))
  refine x_nil ?_
  obtain ⟨bs1, p1, p2, p3, _⟩ := o1
  obtain ⟨bs2, p4, p5, p6, _⟩ := o2
  have p7 := p1.lt
  have r1 := p1.ext ((f2.trans e3).trans e4)
  have r2 := p4.ext e4
  have s1 := f2.size
  have eW := (e1.trans hD).trans hwf
  have b3 := b1.ext eW
  have b4 := b2.ext eW
  have z1 : wf.cell? ⟨w.heap.size + 1, 0, none⟩ = some (.slice none 0 0) := b3.cell 0 rfl
  have z2 : wf.cell? ⟨w.heap.size + 1 + 1, 0, none⟩ = some (.slice none 0 0) := b4.cell 0 rfl
  have z3 := b3.froz 0
  have z4 := b4.froz 0
  go_wp2
  refine bodyPost_ret (v := .tuple #[.agg #[.slice qa A1 ka], .agg #[.slice qb m2 kb], .bool true]) (by simp [results, Try.results58, go_sem, z1, z2, z3, z4]) rfl ?_
  have ch := (chg_cell wf (w.heap.size + 1) 0 (.slice qa A1 ka)).mono (S' := fun k => k = w.heap.size + 1 ∨ k = w.heap.size + 1 + 1) (fun k h => .inl h)
  have ch2 := ch.trans ((chg_cell (wf.setCell ⟨w.heap.size + 1, 0, none⟩ (.slice qa A1 ka)) (w.heap.size + 1 + 1) 0 (.slice qb m2 kb)).mono (fun k h => .inr h))
  have q1 := f0.size
  have q2 := e0.size
  have q3 := e1.size
  have q4 := hD.size
  have lo1 : ∀ b ∈ bs1, W0.heap.size ≤ b := fun b hb => by have := p3 b hb; omega
  have lo2 : ∀ b ∈ bs2, W0.heap.size ≤ b := fun b hb => by have := p6 b hb; omega
  exact ⟨_, bs1, _, bs2, rfl, own_mod (r1.chg ch2 (fun b hb h => by have := lo1 b hb; omega)), own_mod (r2.chg ch2 (fun b hb h => by have := lo2 b hb; omega)), nodup_app p2 p5 (B := wa.heap.size) (fun x hx => by have := p7 x hx; omega) (fun x hx => p6 x hx), fun b hb => by
    rcases List.mem_append.1 hb with h | h
    · have := lo1 b h; omega
    · have := lo2 b h; omega, (E0.trans eW).chg ch2 (fun b hb => by omega)⟩
end Go.Proofs.Ytlimabbeaimdgaa.lSplitModel
