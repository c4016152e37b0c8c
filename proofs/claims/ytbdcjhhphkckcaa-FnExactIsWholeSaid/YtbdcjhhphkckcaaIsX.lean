/- IsWhole: the program's closure. -/
import Derived.Test.YtbdcjhhphkckcaaIsV
namespace Go.Proofs.Ytbdcjhhphkckcaa
set_option linter.unusedSimpArgs false
set_option linter.unusedVariables false
open Go.RowKit Go.Proofs.Ytbdcjhhphkckcaa.Ex

set_option maxRecDepth 100000 in
set_option maxHeartbeats 1000000 in
theorem wholeClos_any (b M : Nat) (q : Addr) (w : World) (hM : M ≤ 1000) (hq : w.cell? q = some (.int .i64 (M : Int))) : Calls Try.prog 115 #[.float .f32 b, .pointer (some q)] w (RetB w (!wB b M)) := by
  have C := hid (fun W => size_any b W)
  have d1 := (Ext.drew w).cell hq
  cases hl : leS b M
  · rw [wB_le hl]
    have H1 := hid (fun u (h : sizeR b u) => show (FloatKind.f32.format.order u (floatOfInt .f32 (M : Int)) == some .lt || FloatKind.f32.format.order u (floatOfInt .f32 (M : Int)) == some .eq) = false from by
      have := h M hM
      rw [hl] at this
      exact this)
    obtain ⟨F, hF⟩ : ∃ F : Option Tmp → World → Value → Prop, F = fun _ _ u => ∃ r, u = .float .f32 r ∧ (FloatKind.f32.format.order r (floatOfInt .f32 (M : Int)) == some .lt || FloatKind.f32.format.order r (floatOfInt .f32 (M : Int)) == some .eq) = false := ⟨_, rfl⟩
    have HF := hid hF
    clear hF hl hM hq
    go_enter Try.func115, Try.ntmps115
    go_wp2
    refine wp_region_xall (F := F) (by kernel_rfl) (by kernel_rfl) (by kernel_rfl) ?_
    intro wf hwf
    repeat (first
      | (refine x_skip rfl ?_; simp only [Act.put, ev_tmp, List.setIfInBounds_toArray, List.set_cons_succ, List.set_cons_zero, List.getD_cons_succ, List.getD_cons_zero])
      | (refine x_mv rfl rfl rfl ?_; simp only [Act.put, ev_tmp, List.setIfInBounds_toArray, List.set_cons_succ, List.set_cons_zero, List.getD_cons_succ, List.getD_cons_zero])
      | (refine x_as rfl rfl rfl ?_; simp only [Act.put, ev_tmp, List.setIfInBounds_toArray, List.set_cons_succ, List.set_cons_zero, List.getD_cons_succ, List.getD_cons_zero])
      | ((with_reducible show wpX _ _ _ _ _ _ (Oper.mk _ (Op.call _) _ _ _ _ :: _) _); refine x_callf (f := 116) (args := #[.float .f32 b]) rfl rfl Try.func116 rfl (by kernel_rfl) ?_ ?_ ?_; (focus (simp [Act.eval]; done)); (focus (intro w1 hw1; exact (by rw [HF.out]; exact (C.out w1).mono fun e w3 ⟨u, g1, g2, g3⟩ => ⟨_, g1, g3, u, rfl, H1.out u g2⟩))); rintro u w3 e3 e4 hu; simp only [HF.out] at hu; obtain ⟨r, rfl, hr⟩ := hu; simp only [Act.put, ev_tmp, List.setIfInBounds_toArray, List.set_cons_succ, List.set_cons_zero, List.getD_cons_succ, List.getD_cons_zero])
      | (refine x_run rfl fun K hK w1 hw1 => ?_; have k0 := hw1.cell (d1); go_simp; refine hK _ ?_; clear hK K k0 hw1 w1))
    refine x_nil ?_
    go_wp2
    go_ret
    exact ⟨rfl, (Ext.drew w).trans hwf⟩
  · have H1 := hid (fun u (h : sizeR b u) => show (FloatKind.f32.format.order u (floatOfInt .f32 (M : Int)) == some .lt || FloatKind.f32.format.order u (floatOfInt .f32 (M : Int)) == some .eq) = true from by
      have := h M hM
      rw [hl] at this
      exact this)
    obtain ⟨t1, t2⟩ := trunc_num hM hl
    have hn' : (FloatKind.f32.decode b).isNaN = false := by
      unfold leS at hl
      cases hd : FloatKind.f32.decode b with
      | nan s f => rw [hd] at hl; cases hl
      | infinity s => rfl
      | number s m e => rfl
    have HX := hid (fun r (h : cn .f64 r = fconv .f32 (cn .f32 b) .f64) => show r = fconv .f32 b .f64 from by rw [cn_not hn'] at h; exact cn_num h t1)
    have T := hid (fun W => Trunc_any (fconv .f32 b .f64) W t1)
    generalize wB b M = wb at *
    obtain ⟨F, hF⟩ : ∃ F : Option Tmp → World → Value → Prop, F = fun d _ u => match d with | some 5 => ∃ r, u = .float .f32 r ∧ (FloatKind.f32.format.order r (floatOfInt .f32 (M : Int)) == some .lt || FloatKind.f32.format.order r (floatOfInt .f32 (M : Int)) == some .eq) = true | _ => u = .float .f64 (truncB (fconv .f32 b .f64)) := ⟨_, rfl⟩
    have HF := hid hF
    have T2 := hid t2
    clear hF hl hM hq t1 t2 hn'
    go_enter Try.func115, Try.ntmps115
    go_wp2
    refine wp_region_xall (F := F) (by kernel_rfl) (by kernel_rfl) (by kernel_rfl) ?_
    intro wf hwf
    repeat (first
      | (refine x_skip rfl ?_; simp only [Act.put, ev_tmp, List.setIfInBounds_toArray, List.set_cons_succ, List.set_cons_zero, List.getD_cons_succ, List.getD_cons_zero])
      | (refine x_mv rfl rfl rfl ?_; simp only [Act.put, ev_tmp, List.setIfInBounds_toArray, List.set_cons_succ, List.set_cons_zero, List.getD_cons_succ, List.getD_cons_zero])
      | (refine x_as rfl rfl rfl ?_; simp only [Act.put, ev_tmp, List.setIfInBounds_toArray, List.set_cons_succ, List.set_cons_zero, List.getD_cons_succ, List.getD_cons_zero])
      | ((refine x_conv rfl rfl rfl (by rw [underlying_f32]; rfl) underlying_f64 (fover_widen _) ?_; intro r1 hr1; have h2 := HX.out r1 hr1; subst h2; clear hr1); simp only [Act.put, ev_tmp, List.setIfInBounds_toArray, List.set_cons_succ, List.set_cons_zero, List.getD_cons_succ, List.getD_cons_zero])
      | ((with_reducible show wpX _ _ _ _ _ _ (Oper.mk _ (Op.call _) _ _ _ _ :: _) _); refine x_callf (f := 117) (args := #[.float .f64 (fconv .f32 b .f64)]) rfl rfl Try.func117 rfl (by kernel_rfl) ?_ ?_ ?_; (focus (simp [Act.eval]; done)); (focus (intro w1 hw1; exact (by rw [HF.out]; exact (T.out w1).mono fun e w3 ⟨g1, g2⟩ => ⟨_, g1, by rw [g2]; exact Ext.refl _, rfl⟩))); rintro u w3 e3 e4 hu; simp only [HF.out] at hu; subst hu; simp only [Act.put, ev_tmp, List.setIfInBounds_toArray, List.set_cons_succ, List.set_cons_zero, List.getD_cons_succ, List.getD_cons_zero])
      | ((with_reducible show wpX _ _ _ _ _ _ (Oper.mk _ (Op.call _) _ _ _ _ :: _) _); refine x_callf (f := 116) (args := #[.float .f32 b]) rfl rfl Try.func116 rfl (by kernel_rfl) ?_ ?_ ?_; (focus (simp [Act.eval]; done)); (focus (intro w1 hw1; exact (by rw [HF.out]; exact (C.out w1).mono fun e w3 ⟨u, g1, g2, g3⟩ => ⟨_, g1, g3, u, rfl, H1.out u g2⟩))); rintro u w3 e3 e4 hu; simp only [HF.out] at hu; obtain ⟨r, rfl, hr⟩ := hu; simp only [Act.put, ev_tmp, List.setIfInBounds_toArray, List.set_cons_succ, List.set_cons_zero, List.getD_cons_succ, List.getD_cons_zero])
      | (refine x_run rfl fun K hK w1 hw1 => ?_; have k0 := hw1.cell (d1); go_simp; refine hK _ ?_; clear hK K k0 hw1 w1))
    refine x_nil ?_
    have t3 := T2.out
    go_wp2
    go_ret
    exact ⟨by rw [← t3]; rfl, (Ext.drew w).trans hwf⟩
end Go.Proofs.Ytbdcjhhphkckcaa
