/- The forward pass: tangents, roots. -/
import Derived.Test.YtnlhahlegedlaaaFwd2
import Derived.Test.YtnlhahlegedlaaaStep
namespace Go.Proofs.Ytnlhahlegedlaaa
set_option linter.unusedSimpArgs false
set_option linter.unusedVariables false
open Go.RowKit

theorem cn_cmp {b : Nat} : (FloatKind.f32.format.order b 1101004800 == some .gt) = fgt .f32 (cn .f32 b) c20 ∧ (FloatKind.f32.format.order b 3248488448 == some .lt) = flt .f32 (cn .f32 b) n20 := ⟨gt_cn cn_c20, lt_cn cn_n20⟩
theorem f32_one : cn .f32 1065353216 = 1065353216 := by decide +kernel
theorem f32_mone : cn .f32 3212836864 = 3212836864 := by decide +kernel
set_option maxRecDepth 100000 in
set_option maxHeartbeats 1000000 in
theorem TanhNumber_any (b : Nat) (w : World) : Calls Try.prog 178 #[.float .f32 b] w (RF .f32 w (tanF (cn .f32 b))) := by
  obtain ⟨a1, a2⟩ := cn_cmp (b := b)
  have hr : tanF (cn .f32 b) = if fgt .f32 (cn .f32 b) c20 then 1065353216 else if flt .f32 (cn .f32 b) n20 then 3212836864 else fconv .f64 (tanhD (expD (tanW (cn .f32 b)))) .f32 := rfl
  have h4 := tanh_over (x := cn .f32 b)
  cases hg : fgt .f32 (cn .f32 b) c20
  · rw [hg] at a1 hr
    cases hl : flt .f32 (cn .f32 b) n20
    · rw [hl] at a2 hr
      have HR := hid hr
      have H4 := hid (h4 hg hl)
      clear hr h4 hg hl
      go_enter Try.func178, Try.ntmps178
      go_wp2_with (first | ((with_reducible show wpList _ _ _ (Oper.mk _ (Op.convert _ _ _) _ _ _ _ :: _) _ _); refine wl_conv rfl rfl rfl (by kernel_rfl) underlying_f64 (fover_widen _) ?_; intro r0 w0 e0 g0; have G0 := hid g0; clear g0) | ((with_reducible show wpList _ _ _ (Oper.mk _ (Op.binOp _ _ _ _ _) _ _ _ _ :: _) _ _); refine wl_fop rfl rfl rfl rfl rfl ?_; intro r1 w1 e1 g1; have G1 := hid g1; clear g1))
      refine (exp64_any r1 _).mono ?_
      rintro e w2 ⟨b2, rfl, g2, e2⟩
      have G2 := hid g2
      clear g2
      have hv : cn .f64 r1 = tanW (cn .f32 b) := by rw [G1.out, G0.out, cn_two]; rfl
      have HV := hid hv
      clear hv
      go_wp2_with (first | ((with_reducible show wpList _ _ _ (Oper.mk _ (Op.binOp _ _ _ _ _) _ _ _ _ :: _) _ _); refine wl_fop rfl rfl rfl rfl rfl ?_; first | (have zz := G4; intro r5 w5 e5 g5; have G5 := hid g5; clear g5 zz) | (have zz := G3; intro r4 w4 e4 g4; have G4 := hid g4; clear g4 zz) | (intro r3 w3 e3 g3; have G3 := hid g3; clear g3)) | ((with_reducible show wpList _ _ _ (Oper.mk _ (Op.convert _ _ _) _ _ _ _ :: _) _ _); refine wl_conv rfl rfl rfl (by kernel_rfl) underlying_f32 (by rw [G5.out, G4.out, G3.out, G2.out, HV.out, cn_one]; exact H4.out) ?_; intro r6 w6 e6 g6; have G6 := hid g6; clear g6))
      go_ret
      refine ⟨r6, rfl, ?_, (((((e0.trans e1).trans e2).trans e3).trans e4).trans e5).trans e6⟩
      rw [G6.out, G5.out, G4.out, G3.out, G2.out, HV.out, cn_one, HR.out]; rfl
    · rw [hl] at a2 hr
      have HR := hid hr
      clear hr h4 hg hl
      go_enter Try.func178, Try.ntmps178
      go_wp2
      go_ret
      exact ⟨_, rfl, by rw [HR.out]; exact f32_mone, Ext.refl _⟩
  · rw [hg] at a1 hr
    have HR := hid hr
    clear hr h4 hg
    go_enter Try.func178, Try.ntmps178
    go_wp2
    go_ret
    exact ⟨_, rfl, by rw [HR.out]; exact f32_one, Ext.refl _⟩
set_option maxRecDepth 100000 in
set_option maxHeartbeats 1000000 in
theorem l01Tanh_any (b : Nat) (w : World) : Calls Try.prog 172 #[.float .f32 b] w (RF .f32 w (tanF (cn .f32 b))) := by
  obtain ⟨a1, a2⟩ := cn_cmp (b := b)
  have hr : tanF (cn .f32 b) = if fgt .f32 (cn .f32 b) c20 then 1065353216 else if flt .f32 (cn .f32 b) n20 then 3212836864 else fconv .f64 (tanhD (expD (tanW (cn .f32 b)))) .f32 := rfl
  have h4 := tanh_over (x := cn .f32 b)
  have h5 := tanW_gt (x := cn .f32 b)
  cases hg : fgt .f32 (cn .f32 b) c20
  · rw [hg] at a1 hr
    cases hl : flt .f32 (cn .f32 b) n20
    · rw [hl] at a2 hr
      have HR := hid hr
      have H4 := hid (h4 hg hl)
      have hW := h5 hg hl
      have hE : expW (tanW (cn .f32 b)) = expD (tanW (cn .f32 b)) := by unfold expW; rw [hW.1, hW.2]; rfl
      have HE := hid hE
      have H5 := hid hW.1
      clear hr h4 h5 hg hl hE hW
      go_enter Try.func172, Try.ntmps172
      go_wp2_with (first | ((with_reducible show wpList _ _ _ (Oper.mk _ (Op.convert _ _ _) _ _ _ _ :: _) _ _); refine wl_conv rfl rfl rfl (by kernel_rfl) underlying_f64 (fover_widen _) ?_; intro r0 w0 e0 g0; have G0 := hid g0; clear g0) | ((with_reducible show wpList _ _ _ (Oper.mk _ (Op.binOp _ _ _ _ _) _ _ _ _ :: _) _ _); refine wl_fop rfl rfl rfl rfl rfl ?_; intro r1 w1 e1 g1; have G1 := hid g1; clear g1))
      have hv : cn .f64 r1 = tanW (cn .f32 b) := by rw [G1.out, G0.out, cn_two]; rfl
      have HV := hid hv
      clear hv
      refine (l01ExpWide_any r1 _ (by rw [HV.out]; exact H5.out)).mono ?_
      rintro e w2 ⟨b2, rfl, g2, e2⟩
      have G2 := hid g2
      clear g2
      go_wp2_with ((with_reducible show wpList _ _ _ (Oper.mk _ (Op.binOp _ _ _ _ _) _ _ _ _ :: _) _ _); refine wl_fop rfl rfl rfl rfl rfl ?_; first | (have zz := G4; intro r5 w5 e5 g5; have G5 := hid g5; clear g5 zz) | (have zz := G3; intro r4 w4 e4 g4; have G4 := hid g4; clear g4 zz) | (intro r3 w3 e3 g3; have G3 := hid g3; clear g3))
      have hv : cn .f64 r5 = tanhD (expD (tanW (cn .f32 b))) := by rw [G5.out, G4.out, G3.out, G2.out, HV.out, HE.out, cn_one]; rfl
      have HV2 := hid hv
      clear hv
      refine (l01Narrow_any r5 _ (by rw [HV2.out]; exact H4.out)).mono ?_
      rintro e w6 ⟨r6, rfl, g6, e6⟩
      have G6 := hid g6
      clear g6
      go_wp2
      go_ret
      refine ⟨r6, rfl, ?_, (((((e0.trans e1).trans e2).trans e3).trans e4).trans e5).trans e6⟩
      rw [G6.out, HV2.out, HR.out]; rfl
    · rw [hl] at a2 hr
      have HR := hid hr
      clear hr h4 h5 hg hl
      go_enter Try.func172, Try.ntmps172
      go_wp2
      go_ret
      exact ⟨_, rfl, by rw [HR.out]; exact f32_mone, Ext.refl _⟩
  · rw [hg] at a1 hr
    have HR := hid hr
    clear hr h4 h5 hg
    go_enter Try.func172, Try.ntmps172
    go_wp2
    go_ret
    exact ⟨_, rfl, by rw [HR.out]; exact f32_one, Ext.refl _⟩

/-! Roots. -/
theorem fsqrt_cn (k : FloatKind) (b : Nat) : (k.format.sqrt b).getD (nanB k) = fsqrt k (cn k b) := by
  by_cases h : (k.decode b).isNaN = true
  · have h2 : (k.decode (cn k b)).isNaN = true := by rw [isNaN_cn]; exact h
    have key : ∀ y, (k.decode y).isNaN = true → k.format.sqrt y = none := fun y hy => by
      obtain ⟨s, f, hd⟩ := eq_nan_of_isNaN hy
      show ((k.decode y).root _).map _ = _
      rw [hd]; rfl
    unfold fsqrt; rw [key _ h, key _ h2]
  · rw [cn_not (by simpa using h)]; rfl
theorem root_not {n : Nat} {x z : Ieee.Datum} (h : x.root n = some z) : z.isNaN = false := by
  cases x with
  | nan s t => cases h
  | infinity s => cases s <;> simp [Ieee.Datum.root] at h; subst h; rfl
  | number s m i =>
    unfold Ieee.Datum.root at h
    dsimp only at h
    split at h
    · cases h; rfl
    · split at h
      · cases h
      · cases h; rfl
theorem cn_fsqrt (k : FloatKind) (b : Nat) : cn k (fsqrt k b) = fsqrt k b := by
  unfold fsqrt
  cases h : k.format.sqrt b with
  | none => exact cn_nan (isNaN_nanB k)
  | some r => exact cn_not (isNaN_map (fun z hz => root_not hz) h)
theorem run_extern2 {P : Program} {f : FuncId} {fn : Func} {e : Array Value → Sem Value} {args : Array Value} {v : Value} {w w' : World} (hf : P.funcs[f]? = some fn) (hname : (fn.name == "runtime.NumGoroutine") = false) (hb : fn.body.isNone = true)
    (hn : Extern.findNext fn = none) (he : Extern.find fn = some e) (hr : (e args).run P w = .ok v w') : (callFunc f args).run P w = .ok (.value v) w' := by
  have hname' : ¬ fn.name = "runtime.NumGoroutine" := by simpa using hname
  have hb' : fn.body = none := by simpa using hb
  simp [callFunc, hf, hname', hb', hn, he, hr, program, Sem.run, mark]
theorem run_sqrt (b : Nat) (w : World) : ∃ r n, (callFunc 231 #[.float .f64 b]).run Try.prog w = .ok (.value (.float .f64 r)) (w.drewN n) ∧ cn .f64 r = fsqrt .f64 (cn .f64 b) := by
  rw [← fsqrt_cn]
  have hR : ∀ v w', (Extern.MathSqrt.sqrt #[.float .f64 b]).run Try.prog w = .ok v w' → (callFunc 231 #[.float .f64 b]).run Try.prog w = .ok (.value v) w' := fun v w' h =>
    run_extern2 (e := Extern.MathSqrt.sqrt) Try.func231 (by kernel_rfl) (by kernel_rfl) (by kernel_rfl) (by kernel_rfl) h
  have hs : Extern.MathSqrt.sqrt #[.float .f64 b] = (match FloatKind.f64.format.sqrt b with | some r => pure (.float .f64 r) | none => do pure (.float .f64 (← choose (.nanBits .f64 b b)))) := rfl
  cases h : FloatKind.f64.format.sqrt b with
  | some r =>
    refine ⟨r, 0, hR _ _ ?_, ?_⟩
    · rw [hs, h]; simp [Sem.run, World.drewN]
    · have := cn_fsqrt .f64 b
      unfold fsqrt at this; rw [h] at this; exact this
  | none =>
    have key : ∀ q : Question, q = .nanBits .f64 b b → ∃ r, (Extern.MathSqrt.sqrt #[.float .f64 b]).run Try.prog w = .ok (.float .f64 (q.cut r)) (w.drewN 1) := by
      rintro q rfl
      refine ⟨w.tape w.drawn (.nanBits .f64 b b), ?_⟩
      rw [hs, h]; simp [choose, Sem.run, Question.forced, World.drewN]
    obtain ⟨r, hr⟩ := key _ rfl
    exact ⟨_, 1, hR _ _ hr, cn_nan (cut_nan64 r)⟩
set_option maxRecDepth 100000 in
set_option maxHeartbeats 1000000 in
theorem Sqrt_any (b : Nat) (w : World) : Calls Try.prog 227 #[.float .f64 b] w (RF .f64 w (fsqrt .f64 (cn .f64 b))) := by
  obtain ⟨r, n, hx, hr⟩ := run_sqrt b w
  have HR := hid hr
  clear hr
  have e1 : Ext w (w.drewN n) := Ext.drewN _ _
  go_enter Try.func227, Try.ntmps227
  go_wp2
  go_ret
  exact ⟨r, rfl, HR.out, by with_reducible assumption⟩
end Go.Proofs.Ytnlhahlegedlaaa
