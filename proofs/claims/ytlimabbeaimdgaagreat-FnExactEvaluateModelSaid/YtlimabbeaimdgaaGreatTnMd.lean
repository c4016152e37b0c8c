/- The reference's tape of a model: what is looked at first. -/
import Derived.Test.YtlimabbeaimdgaaGreatZ24Evalua
import Derived.Test.YtlimabbeaimdgaaGreatTnXf
set_option linter.unusedSimpArgs false
set_option linter.unusedVariables false
namespace Go.Proofs.YtlimabbeaimdgaaGreat
open Go.RowKit
set_option maxRecDepth 100000 in
set_option maxHeartbeats 4000000 in
theorem l04Model_no {sm sx sy : Option Nat} (bm om bx ox bz oz : Nat) (p q q2 : Option Addr) (n c nx cx ny cy : Nat) (r k r2 k2 : Int) (css : List (List Value)) (L : List shLayer.T) (zb : Nat) (w : World) (m0 : w.cell? ⟨bm, om, sm⟩ = some (.slice p n c)) (x0 : w.cell? ⟨bx, ox, sx⟩ = some (.int .i64 r)) (x1 : w.cell? ⟨bx, ox + 1, none⟩ = some (.int .i64 k)) (x2 : w.cell? ⟨bx, ox + 2, none⟩ = some (.slice q nx cx)) (y0 : w.cell? ⟨bz, oz, sy⟩ = some (.int .i64 r2)) (y1 : w.cell? ⟨bz, oz + 1, none⟩ = some (.int .i64 k2)) (y2 : w.cell? ⟨bz, oz + 2, none⟩ = some (.slice q2 ny cy)) (hL : Lays w p n css L) (hnx : nx ≤ maxLen) (hny : ny ≤ maxLen) (hh : headB L r k nx r2 k2 ny = false) :
 Calls Tryz.prog 78 #[.pointer (some ⟨bm, om, sm⟩), .pointer (some ⟨bx, ox, sx⟩), .pointer (some ⟨bz, oz, sy⟩), .float .f32 zb] w fun e w' => (∃ u v, e = .returned (.tuple #[u, v, .bool false])) ∧ Ext w w' := by
 have hLl := hL.len
 have A1 := hid (fun W (h : Ext w W) => l03Is_any (sp := sm) bm om p n c L css W (h.cell m0) hLl hL.le (hL.cs.ext h) (hL.all.imp fun _ _ => Rep.ext h) hL.size hL.cnt)
 have A2 := hid (fun W (h : Ext w W) => l02Is_any (sp := sx) bx ox r k q nx cx W (h.cell x0) (h.cell x1) (h.cell x2) hnx)
 have A3 := hid (fun W (h : Ext w W) => l02Is_any (sp := sy) bz oz r2 k2 q2 ny cy W (h.cell y0) (h.cell y1) (h.cell y2) hny)
 have hpos : modB L = true → 1 ≤ n := fun h => by rw [← hLl]; exact (modOk h).pos
 unfold headB at hh
 have hle := hL.le
 unfold maxLen at hle
 generalize hb1 : modB L = vb1 at *
 generalize hb2 : tenB r k nx = vb2 at *
 generalize hb3 : tenB r2 k2 ny = vb3 at *
 clear hb1 hb2 hb3
 cases vb1
 · clear hh
   obtain ⟨F, hF⟩ : ∃ F : Option Tmp → World → Value → Prop, F = fun d _ u => match d with | some 21 => u = .bool false | some 25 => u = .bool vb2 | _ => u = .bool vb3 := ⟨_, rfl⟩
   have HF := hid hF
   clear hF
   go_enter Tryz.func78, Tryz.ntmps78
   go_wp2
   obtain ⟨W0, hW0⟩ : ∃ W0, W0 = (w.alloc (.cells #[] 79)).alloc (.cells #[] 2) := ⟨_, rfl⟩
   rw [← hW0]
   have E0 : Ext w W0 := by rw [hW0]; exact (Ext.alloc _ _).trans (Ext.alloc _ _)
   clear hW0
   have eD := Ext.drew W0
   have d0 := (E0.trans eD).cell m0
   have d1 := (E0.trans eD).cell x0; have d2 := (E0.trans eD).cell x1
   have d4 := (E0.trans eD).cell y0; have d5 := (E0.trans eD).cell y1
   refine wp_region_xall (F := F) (by kernel_rfl) (by kernel_rfl) (by kernel_rfl) ?_
   intro wf hwf
   repeat (first
    | (refine x_skip rfl ?_; simp only [Act.put, ev_tmp, pu1, pu2, pu3, pu4, pu5])
    | (refine x_mv rfl rfl rfl ?_; simp only [Act.put, ev_tmp, pu1, pu2, pu3, pu4, pu5])
    | (refine x_as rfl rfl rfl ?_; simp only [Act.put, ev_tmp, pu1, pu2, pu3, pu4, pu5])
    | ((with_reducible show wpX _ _ _ _ _ _ (Oper.mk _ (Op.call _) _ _ _ _ :: _) _); refine x_callf (f := 90) (args := #[.pointer (some ⟨bm, om, sm⟩)]) rfl rfl Tryz.func90 rfl (by kernel_rfl) ?_ ?_ ?_; (focus (simp [Act.eval]; done)); (focus (intro w1 hw1; exact (by rw [HF.out]; exact calls_retB (A1.out w1 ((E0.trans eD).trans hw1))))); rintro u w3 e3 e4 hu; simp only [HF.out] at hu; subst hu; simp only [Act.put, ev_tmp, pu1, pu2, pu3, pu4, pu5])
    | (refine x_run rfl fun K hK w1 hw1 => ?_; have k0 := hw1.cell (d0); have k1 := hw1.cell (d1); have k2 := hw1.cell (d2); have k3 := hw1.cell (d4); have k4 := hw1.cell (d5); go_simp; refine hK _ ?_; clear hK K k0 k1 k2 k3 k4 hw1 w1))
   refine x_nil ?_
   go_wp2
   refine bodyPost_ret (results_tmp3 (t := 8) (u := 9) (v := 10) (by kernel_rfl) _ _ _) rfl ?_
   exact ⟨⟨_, _, rfl⟩, (E0.trans eD).trans hwf⟩
 have h1n := hpos rfl
 clear hpos
 cases vb2
 · clear hh
   obtain ⟨F, hF⟩ : ∃ F : Option Tmp → World → Value → Prop, F = fun d _ u => match d with | some 21 => u = .bool true | some 25 => u = .bool false | _ => u = .bool vb3 := ⟨_, rfl⟩
   have HF := hid hF
   clear hF
   go_enter Tryz.func78, Tryz.ntmps78
   go_wp2
   obtain ⟨W0, hW0⟩ : ∃ W0, W0 = (w.alloc (.cells #[] 79)).alloc (.cells #[] 2) := ⟨_, rfl⟩
   rw [← hW0]
   have E0 : Ext w W0 := by rw [hW0]; exact (Ext.alloc _ _).trans (Ext.alloc _ _)
   clear hW0
   have eD := Ext.drew W0
   have d0 := (E0.trans eD).cell m0
   have d1 := (E0.trans eD).cell x0; have d2 := (E0.trans eD).cell x1
   have d4 := (E0.trans eD).cell y0; have d5 := (E0.trans eD).cell y1
   refine wp_region_xall (F := F) (by kernel_rfl) (by kernel_rfl) (by kernel_rfl) ?_
   intro wf hwf
   repeat (first
    | (refine x_skip rfl ?_; simp only [Act.put, ev_tmp, pu1, pu2, pu3, pu4, pu5])
    | (refine x_mv rfl rfl rfl ?_; simp only [Act.put, ev_tmp, pu1, pu2, pu3, pu4, pu5])
    | (refine x_as rfl rfl rfl ?_; simp only [Act.put, ev_tmp, pu1, pu2, pu3, pu4, pu5])
    | ((with_reducible show wpX _ _ _ _ _ _ (Oper.mk _ (Op.call _) _ _ _ _ :: _) _); refine x_callf (f := 90) (args := #[.pointer (some ⟨bm, om, sm⟩)]) rfl rfl Tryz.func90 rfl (by kernel_rfl) ?_ ?_ ?_; (focus (simp [Act.eval]; done)); (focus (intro w1 hw1; exact (by rw [HF.out]; exact calls_retB (A1.out w1 ((E0.trans eD).trans hw1))))); rintro u w3 e3 e4 hu; simp only [HF.out] at hu; subst hu; simp only [Act.put, ev_tmp, pu1, pu2, pu3, pu4, pu5])
    | ((with_reducible show wpX _ _ _ _ _ _ (Oper.mk _ (Op.call _) _ _ _ _ :: _) _); refine x_callf (f := 49) (args := #[.pointer (some ⟨bx, ox, sx⟩)]) rfl rfl Tryz.func49 rfl (by kernel_rfl) ?_ ?_ ?_; (focus (simp [Act.eval]; done)); (focus (intro w1 hw1; exact (by rw [HF.out]; exact calls_retB (A2.out w1 ((E0.trans eD).trans hw1))))); rintro u w3 e3 e4 hu; simp only [HF.out] at hu; subst hu; simp only [Act.put, ev_tmp, pu1, pu2, pu3, pu4, pu5])
    | (refine x_run rfl fun K hK w1 hw1 => ?_; have k0 := hw1.cell (d0); have k1 := hw1.cell (d1); have k2 := hw1.cell (d2); have k3 := hw1.cell (d4); have k4 := hw1.cell (d5); go_simp; refine hK _ ?_; clear hK K k0 k1 k2 k3 k4 hw1 w1))
   refine x_nil ?_
   go_wp2
   refine bodyPost_ret (results_tmp3 (t := 8) (u := 9) (v := 10) (by kernel_rfl) _ _ _) rfl ?_
   exact ⟨⟨_, _, rfl⟩, (E0.trans eD).trans hwf⟩
 cases vb3
 · clear hh
   obtain ⟨F, hF⟩ : ∃ F : Option Tmp → World → Value → Prop, F = fun d _ u => match d with | some 21 => u = .bool true | some 25 => u = .bool true | _ => u = .bool false := ⟨_, rfl⟩
   have HF := hid hF
   clear hF
   go_enter Tryz.func78, Tryz.ntmps78
   go_wp2
   obtain ⟨W0, hW0⟩ : ∃ W0, W0 = (w.alloc (.cells #[] 79)).alloc (.cells #[] 2) := ⟨_, rfl⟩
   rw [← hW0]
   have E0 : Ext w W0 := by rw [hW0]; exact (Ext.alloc _ _).trans (Ext.alloc _ _)
   clear hW0
   have eD := Ext.drew W0
   have d0 := (E0.trans eD).cell m0
   have d1 := (E0.trans eD).cell x0; have d2 := (E0.trans eD).cell x1
   have d4 := (E0.trans eD).cell y0; have d5 := (E0.trans eD).cell y1
   refine wp_region_xall (F := F) (by kernel_rfl) (by kernel_rfl) (by kernel_rfl) ?_
   intro wf hwf
   repeat (first
    | (refine x_skip rfl ?_; simp only [Act.put, ev_tmp, pu1, pu2, pu3, pu4, pu5])
    | (refine x_mv rfl rfl rfl ?_; simp only [Act.put, ev_tmp, pu1, pu2, pu3, pu4, pu5])
    | (refine x_as rfl rfl rfl ?_; simp only [Act.put, ev_tmp, pu1, pu2, pu3, pu4, pu5])
    | ((with_reducible show wpX _ _ _ _ _ _ (Oper.mk _ (Op.call _) _ _ _ _ :: _) _); refine x_callf (f := 90) (args := #[.pointer (some ⟨bm, om, sm⟩)]) rfl rfl Tryz.func90 rfl (by kernel_rfl) ?_ ?_ ?_; (focus (simp [Act.eval]; done)); (focus (intro w1 hw1; exact (by rw [HF.out]; exact calls_retB (A1.out w1 ((E0.trans eD).trans hw1))))); rintro u w3 e3 e4 hu; simp only [HF.out] at hu; subst hu; simp only [Act.put, ev_tmp, pu1, pu2, pu3, pu4, pu5])
    | ((with_reducible show wpX _ _ _ _ _ _ (Oper.mk _ (Op.call _) _ _ _ _ :: _) _); refine x_callf (f := 49) (args := #[.pointer (some ⟨bx, ox, sx⟩)]) rfl rfl Tryz.func49 rfl (by kernel_rfl) ?_ ?_ ?_; (focus (simp [Act.eval]; done)); (focus (intro w1 hw1; exact (by rw [HF.out]; exact calls_retB (A2.out w1 ((E0.trans eD).trans hw1))))); rintro u w3 e3 e4 hu; simp only [HF.out] at hu; subst hu; simp only [Act.put, ev_tmp, pu1, pu2, pu3, pu4, pu5])
    | ((with_reducible show wpX _ _ _ _ _ _ (Oper.mk _ (Op.call _) _ _ _ _ :: _) _); refine x_callf (f := 49) (args := #[.pointer (some ⟨bz, oz, sy⟩)]) rfl rfl Tryz.func49 rfl (by kernel_rfl) ?_ ?_ ?_; (focus (simp [Act.eval]; done)); (focus (intro w1 hw1; exact (by rw [HF.out]; exact calls_retB (A3.out w1 ((E0.trans eD).trans hw1))))); rintro u w3 e3 e4 hu; simp only [HF.out] at hu; subst hu; simp only [Act.put, ev_tmp, pu1, pu2, pu3, pu4, pu5])
    | (refine x_run rfl fun K hK w1 hw1 => ?_; have k0 := hw1.cell (d0); have k1 := hw1.cell (d1); have k2 := hw1.cell (d2); have k3 := hw1.cell (d4); have k4 := hw1.cell (d5); go_simp; refine hK _ ?_; clear hK K k0 k1 k2 k3 k4 hw1 w1))
   refine x_nil ?_
   go_wp2
   refine bodyPost_ret (results_tmp3 (t := 8) (u := 9) (v := 10) (by kernel_rfl) _ _ _) rfl ?_
   exact ⟨⟨_, _, rfl⟩, (E0.trans eD).trans hwf⟩
 obtain ⟨ci, ki, kj, _, _⟩ := hL.at (i := 0) (by omega)
 obtain ⟨co, ko, _, kp, k4⟩ := hL.at (i := n - 1) (by omega)
 rw [outL_eq hL.len] at kp
 have hwn : Hid (IntKind.i64.wrap ((n : Int) - 1) = ((n - 1 : Nat) : Int)) := hid ((wrap_in _ (by omega) (by omega)).trans (by omega))
 have KI := hid ki; have KJ := hid kj; have KO := hid ko; have KP := hid kp
 clear ki kj ko kp
 generalize hi : inL L 0 = I at *
 generalize ho : outL L = O at *
 clear hi ho hLl
 by_cases h4 : r = r2
 · have e4 : (r != r2) = false := by simp [h4]
   by_cases h5 : k = I
   · have e5 : (k != I) = false := by simp [h5]
     by_cases h6 : k2 = O
     · exfalso; subst h4 h5 h6; simp at hh
     · have e6 : (k2 != O) = true := by simpa using h6
       have H4 := hid h4; have H5 := hid h5; have H6 := hid h6
       clear hh h4 h5 h6
       obtain ⟨F, hF⟩ : ∃ F : Option Tmp → World → Value → Prop, F = fun d _ u => match d with | some 21 => u = .bool true | some 25 => u = .bool true | _ => u = .bool true := ⟨_, rfl⟩
       have HF := hid hF
       clear hF
       go_enter Tryz.func78, Tryz.ntmps78
       go_wp2
       obtain ⟨W0, hW0⟩ : ∃ W0, W0 = (w.alloc (.cells #[] 79)).alloc (.cells #[] 2) := ⟨_, rfl⟩
       rw [← hW0]
       have E0 : Ext w W0 := by rw [hW0]; exact (Ext.alloc _ _).trans (Ext.alloc _ _)
       clear hW0
       have eD := Ext.drew W0
       have d0 := (E0.trans eD).cell m0
       have d1 := (E0.trans eD).cell x0; have d2 := (E0.trans eD).cell x1
       have d4 := (E0.trans eD).cell y0; have d5 := (E0.trans eD).cell y1
       have l1 := hL.cs.ext (E0.trans eD); have l3 := hL.size; have l5 := hid hL.cnt
       refine wp_region_xall (F := F) (by kernel_rfl) (by kernel_rfl) (by kernel_rfl) ?_
       intro wf hwf
       repeat (first
        | (refine x_skip rfl ?_; simp only [Act.put, ev_tmp, pu1, pu2, pu3, pu4, pu5])
        | (refine x_mv rfl rfl rfl ?_; simp only [Act.put, ev_tmp, pu1, pu2, pu3, pu4, pu5])
        | (refine x_as rfl rfl rfl ?_; simp only [Act.put, ev_tmp, pu1, pu2, pu3, pu4, pu5])
        | ((with_reducible show wpX _ _ _ _ _ _ (Oper.mk _ (Op.call _) _ _ _ _ :: _) _); refine x_callf (f := 90) (args := #[.pointer (some ⟨bm, om, sm⟩)]) rfl rfl Tryz.func90 rfl (by kernel_rfl) ?_ ?_ ?_; (focus (simp [Act.eval]; done)); (focus (intro w1 hw1; exact (by rw [HF.out]; exact calls_retB (A1.out w1 ((E0.trans eD).trans hw1))))); rintro u w3 e3 e4 hu; simp only [HF.out] at hu; subst hu; simp only [Act.put, ev_tmp, pu1, pu2, pu3, pu4, pu5])
        | ((with_reducible show wpX _ _ _ _ _ _ (Oper.mk _ (Op.call _) _ _ _ _ :: _) _); refine x_callf (f := 49) (args := #[.pointer (some ⟨bx, ox, sx⟩)]) rfl rfl Tryz.func49 rfl (by kernel_rfl) ?_ ?_ ?_; (focus (simp [Act.eval]; done)); (focus (intro w1 hw1; exact (by rw [HF.out]; exact calls_retB (A2.out w1 ((E0.trans eD).trans hw1))))); rintro u w3 e3 e4 hu; simp only [HF.out] at hu; subst hu; simp only [Act.put, ev_tmp, pu1, pu2, pu3, pu4, pu5])
        | ((with_reducible show wpX _ _ _ _ _ _ (Oper.mk _ (Op.call _) _ _ _ _ :: _) _); refine x_callf (f := 49) (args := #[.pointer (some ⟨bz, oz, sy⟩)]) rfl rfl Tryz.func49 rfl (by kernel_rfl) ?_ ?_ ?_; (focus (simp [Act.eval]; done)); (focus (intro w1 hw1; exact (by rw [HF.out]; exact calls_retB (A3.out w1 ((E0.trans eD).trans hw1))))); rintro u w3 e3 e4 hu; simp only [HF.out] at hu; subst hu; simp only [Act.put, ev_tmp, pu1, pu2, pu3, pu4, pu5])
        | ((with_reducible show wpX _ _ _ _ _ _ (Oper.mk _ (Op.indexAddr _ _ _) _ _ _ _ :: Oper.mk _ (Op.fieldAddr _ _ _) _ _ _ _ :: Oper.mk _ (Op.load _ _) _ _ _ _ :: _) _); refine x_ldField (f := 1) (off := 1) (j := 0) rfl rfl (fun _ => rfl) rfl (fun _ _ => rfl) rfl (fun _ => rfl) (fun _ _ => rfl) fo_implLayer_1 rfl rfl rfl l1 l3 l5.out (by omega) k4 KI.out KJ.out ?_; simp only [Act.put, ev_tmp, pu1, pu2, pu3, pu4, pu5])
        | ((with_reducible show wpX _ _ _ _ _ _ (Oper.mk _ (Op.indexAddr _ _ _) _ _ _ _ :: Oper.mk _ (Op.fieldAddr _ _ _) _ _ _ _ :: Oper.mk _ (Op.load _ _) _ _ _ _ :: _) _); refine x_ldField (f := 2) (off := 2) (j := n - 1) rfl rfl (fun _ => rfl) rfl (fun _ _ => rfl) rfl (fun _ => rfl) (fun _ _ => rfl) fo_implLayer_2 rfl rfl (by first | omega | exact hwn.out) l1 l3 l5.out (by omega) k4 KO.out KP.out ?_; simp only [Act.put, ev_tmp, pu1, pu2, pu3, pu4, pu5])
        | (refine x_run rfl fun K hK w1 hw1 => ?_; have k0 := hw1.cell (d0); have k1 := hw1.cell (d1); have k2 := hw1.cell (d2); have k3 := hw1.cell (d4); have k4 := hw1.cell (d5); go_simp; refine hK _ ?_; clear hK K k0 k1 k2 k3 k4 hw1 w1))
       refine x_nil ?_
       go_wp2
       refine bodyPost_ret (results_tmp3 (t := 8) (u := 9) (v := 10) (by kernel_rfl) _ _ _) rfl ?_
       exact ⟨⟨_, _, rfl⟩, (E0.trans eD).trans hwf⟩
   · have e5 : (k != I) = true := by simpa using h5
     have H4 := hid h4; have H5 := hid h5
     clear hh h4 h5
     obtain ⟨F, hF⟩ : ∃ F : Option Tmp → World → Value → Prop, F = fun d _ u => match d with | some 21 => u = .bool true | some 25 => u = .bool true | _ => u = .bool true := ⟨_, rfl⟩
     have HF := hid hF
     clear hF
     go_enter Tryz.func78, Tryz.ntmps78
     go_wp2
     obtain ⟨W0, hW0⟩ : ∃ W0, W0 = (w.alloc (.cells #[] 79)).alloc (.cells #[] 2) := ⟨_, rfl⟩
     rw [← hW0]
     have E0 : Ext w W0 := by rw [hW0]; exact (Ext.alloc _ _).trans (Ext.alloc _ _)
     clear hW0
     have eD := Ext.drew W0
     have d0 := (E0.trans eD).cell m0
     have d1 := (E0.trans eD).cell x0; have d2 := (E0.trans eD).cell x1
     have d4 := (E0.trans eD).cell y0; have d5 := (E0.trans eD).cell y1
     have l1 := hL.cs.ext (E0.trans eD); have l3 := hL.size; have l5 := hid hL.cnt
     refine wp_region_xall (F := F) (by kernel_rfl) (by kernel_rfl) (by kernel_rfl) ?_
     intro wf hwf
     repeat (first
      | (refine x_skip rfl ?_; simp only [Act.put, ev_tmp, pu1, pu2, pu3, pu4, pu5])
      | (refine x_mv rfl rfl rfl ?_; simp only [Act.put, ev_tmp, pu1, pu2, pu3, pu4, pu5])
      | (refine x_as rfl rfl rfl ?_; simp only [Act.put, ev_tmp, pu1, pu2, pu3, pu4, pu5])
      | ((with_reducible show wpX _ _ _ _ _ _ (Oper.mk _ (Op.call _) _ _ _ _ :: _) _); refine x_callf (f := 90) (args := #[.pointer (some ⟨bm, om, sm⟩)]) rfl rfl Tryz.func90 rfl (by kernel_rfl) ?_ ?_ ?_; (focus (simp [Act.eval]; done)); (focus (intro w1 hw1; exact (by rw [HF.out]; exact calls_retB (A1.out w1 ((E0.trans eD).trans hw1))))); rintro u w3 e3 e4 hu; simp only [HF.out] at hu; subst hu; simp only [Act.put, ev_tmp, pu1, pu2, pu3, pu4, pu5])
      | ((with_reducible show wpX _ _ _ _ _ _ (Oper.mk _ (Op.call _) _ _ _ _ :: _) _); refine x_callf (f := 49) (args := #[.pointer (some ⟨bx, ox, sx⟩)]) rfl rfl Tryz.func49 rfl (by kernel_rfl) ?_ ?_ ?_; (focus (simp [Act.eval]; done)); (focus (intro w1 hw1; exact (by rw [HF.out]; exact calls_retB (A2.out w1 ((E0.trans eD).trans hw1))))); rintro u w3 e3 e4 hu; simp only [HF.out] at hu; subst hu; simp only [Act.put, ev_tmp, pu1, pu2, pu3, pu4, pu5])
      | ((with_reducible show wpX _ _ _ _ _ _ (Oper.mk _ (Op.call _) _ _ _ _ :: _) _); refine x_callf (f := 49) (args := #[.pointer (some ⟨bz, oz, sy⟩)]) rfl rfl Tryz.func49 rfl (by kernel_rfl) ?_ ?_ ?_; (focus (simp [Act.eval]; done)); (focus (intro w1 hw1; exact (by rw [HF.out]; exact calls_retB (A3.out w1 ((E0.trans eD).trans hw1))))); rintro u w3 e3 e4 hu; simp only [HF.out] at hu; subst hu; simp only [Act.put, ev_tmp, pu1, pu2, pu3, pu4, pu5])
      | ((with_reducible show wpX _ _ _ _ _ _ (Oper.mk _ (Op.indexAddr _ _ _) _ _ _ _ :: Oper.mk _ (Op.fieldAddr _ _ _) _ _ _ _ :: Oper.mk _ (Op.load _ _) _ _ _ _ :: _) _); refine x_ldField (f := 1) (off := 1) (j := 0) rfl rfl (fun _ => rfl) rfl (fun _ _ => rfl) rfl (fun _ => rfl) (fun _ _ => rfl) fo_implLayer_1 rfl rfl rfl l1 l3 l5.out (by omega) k4 KI.out KJ.out ?_; simp only [Act.put, ev_tmp, pu1, pu2, pu3, pu4, pu5])
      | (refine x_run rfl fun K hK w1 hw1 => ?_; have k0 := hw1.cell (d0); have k1 := hw1.cell (d1); have k2 := hw1.cell (d2); have k3 := hw1.cell (d4); have k4 := hw1.cell (d5); go_simp; refine hK _ ?_; clear hK K k0 k1 k2 k3 k4 hw1 w1))
     refine x_nil ?_
     go_wp2
     refine bodyPost_ret (results_tmp3 (t := 8) (u := 9) (v := 10) (by kernel_rfl) _ _ _) rfl ?_
     exact ⟨⟨_, _, rfl⟩, (E0.trans eD).trans hwf⟩
 · have e4 : (r != r2) = true := by simpa using h4
   have H4 := hid h4
   clear hh h4
   obtain ⟨F, hF⟩ : ∃ F : Option Tmp → World → Value → Prop, F = fun d _ u => match d with | some 21 => u = .bool true | some 25 => u = .bool true | _ => u = .bool true := ⟨_, rfl⟩
   have HF := hid hF
   clear hF
   go_enter Tryz.func78, Tryz.ntmps78
   go_wp2
   obtain ⟨W0, hW0⟩ : ∃ W0, W0 = (w.alloc (.cells #[] 79)).alloc (.cells #[] 2) := ⟨_, rfl⟩
   rw [← hW0]
   have E0 : Ext w W0 := by rw [hW0]; exact (Ext.alloc _ _).trans (Ext.alloc _ _)
   clear hW0
   have eD := Ext.drew W0
   have d0 := (E0.trans eD).cell m0
   have d1 := (E0.trans eD).cell x0; have d2 := (E0.trans eD).cell x1
   have d4 := (E0.trans eD).cell y0; have d5 := (E0.trans eD).cell y1
   refine wp_region_xall (F := F) (by kernel_rfl) (by kernel_rfl) (by kernel_rfl) ?_
   intro wf hwf
   repeat (first
    | (refine x_skip rfl ?_; simp only [Act.put, ev_tmp, pu1, pu2, pu3, pu4, pu5])
    | (refine x_mv rfl rfl rfl ?_; simp only [Act.put, ev_tmp, pu1, pu2, pu3, pu4, pu5])
    | (refine x_as rfl rfl rfl ?_; simp only [Act.put, ev_tmp, pu1, pu2, pu3, pu4, pu5])
    | ((with_reducible show wpX _ _ _ _ _ _ (Oper.mk _ (Op.call _) _ _ _ _ :: _) _); refine x_callf (f := 90) (args := #[.pointer (some ⟨bm, om, sm⟩)]) rfl rfl Tryz.func90 rfl (by kernel_rfl) ?_ ?_ ?_; (focus (simp [Act.eval]; done)); (focus (intro w1 hw1; exact (by rw [HF.out]; exact calls_retB (A1.out w1 ((E0.trans eD).trans hw1))))); rintro u w3 e3 e4 hu; simp only [HF.out] at hu; subst hu; simp only [Act.put, ev_tmp, pu1, pu2, pu3, pu4, pu5])
    | ((with_reducible show wpX _ _ _ _ _ _ (Oper.mk _ (Op.call _) _ _ _ _ :: _) _); refine x_callf (f := 49) (args := #[.pointer (some ⟨bx, ox, sx⟩)]) rfl rfl Tryz.func49 rfl (by kernel_rfl) ?_ ?_ ?_; (focus (simp [Act.eval]; done)); (focus (intro w1 hw1; exact (by rw [HF.out]; exact calls_retB (A2.out w1 ((E0.trans eD).trans hw1))))); rintro u w3 e3 e4 hu; simp only [HF.out] at hu; subst hu; simp only [Act.put, ev_tmp, pu1, pu2, pu3, pu4, pu5])
    | ((with_reducible show wpX _ _ _ _ _ _ (Oper.mk _ (Op.call _) _ _ _ _ :: _) _); refine x_callf (f := 49) (args := #[.pointer (some ⟨bz, oz, sy⟩)]) rfl rfl Tryz.func49 rfl (by kernel_rfl) ?_ ?_ ?_; (focus (simp [Act.eval]; done)); (focus (intro w1 hw1; exact (by rw [HF.out]; exact calls_retB (A3.out w1 ((E0.trans eD).trans hw1))))); rintro u w3 e3 e4 hu; simp only [HF.out] at hu; subst hu; simp only [Act.put, ev_tmp, pu1, pu2, pu3, pu4, pu5])
    | (refine x_run rfl fun K hK w1 hw1 => ?_; have k0 := hw1.cell (d0); have k1 := hw1.cell (d1); have k2 := hw1.cell (d2); have k3 := hw1.cell (d4); have k4 := hw1.cell (d5); go_simp; refine hK _ ?_; clear hK K k0 k1 k2 k3 k4 hw1 w1))
   refine x_nil ?_
   go_wp2
   refine bodyPost_ret (results_tmp3 (t := 8) (u := 9) (v := 10) (by kernel_rfl) _ _ _) rfl ?_
   exact ⟨⟨_, _, rfl⟩, (E0.trans eD).trans hwf⟩
end Go.Proofs.YtlimabbeaimdgaaGreat
