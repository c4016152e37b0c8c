/- The forward pass: powers of e, tangents, roots. -/
import Derived.Test.YtnlhahlegedlaaaFwd
namespace Go.Proofs.Ytnlhahlegedlaaa
set_option linter.unusedSimpArgs false
set_option linter.unusedVariables false
open Go.RowKit

def kz (i : Nat) : Nat := FloatKind.f64.nearest ((12 - i : Nat) : Int)
theorem kz_zero : kz 0 = 4622945017495814144 := by decide +kernel
theorem kz_ge : ∀ i : Nat, i < 12 → (FloatKind.f64.format.order (kz i) 4607182418800017408 == some .gt || FloatKind.f64.format.order (kz i) 4607182418800017408 == some .eq) = true := by decide +kernel
theorem kz_end : (FloatKind.f64.format.order (kz 12) 4607182418800017408 == some .gt || FloatKind.f64.format.order (kz 12) 4607182418800017408 == some .eq) = false := by decide +kernel
theorem kz_sub : ∀ i : Nat, i < 12 → fop .sub .f64 (cn .f64 (kz i)) (cn .f64 4607182418800017408) = kz (i + 1) := by decide +kernel
theorem kz_not : ∀ i : Nat, i < 13 → (FloatKind.f64.decode (kz i)).isNaN = false := by decide +kernel
theorem kz_next {i r : Nat} (hi : i < 12) (h : cn .f64 r = fop .sub .f64 (cn .f64 (kz i)) (cn .f64 4607182418800017408)) : r = kz (i + 1) := by
  rw [kz_sub i hi] at h
  refine (eq_of_cn (k := .f64) (x := kz (i + 1)) (y := r) ?_ (kz_not _ (by omega))).symm
  rw [h]; exact cn_not (kz_not _ (by omega))
def mz : Value → Nat
  | .float _ b => 13 - (List.range 13).findIdx (fun i => kz i == b)
  | _ => 0
theorem mz_kz : ∀ i : Nat, i < 13 → mz (.float .f64 (kz i)) = 13 - i := by decide +kernel
theorem cn_one : cn .f64 4607182418800017408 = oneD := by decide +kernel
theorem cn_256 : cn .f64 4643211215818981376 = c256 := by decide +kernel
theorem cn_kz {i : Nat} (hi : i ≤ 12) : cn .f64 (kz i) = kz i := cn_not (kz_not i (by omega))

set_option maxRecDepth 100000 in
set_option maxHeartbeats 1000000 in
theorem exp64_any (b : Nat) (w : World) : Calls Try.prog 218 #[.float .f64 b] w (RF .f64 w (expD (cn .f64 b))) := by
  go_enter Try.func218, Try.ntmps218
  go_wp2_with ((with_reducible show wpList _ _ _ (Oper.mk _ (Op.binOp _ _ _ _ _) _ _ _ _ :: _) _ _); refine wl_fop rfl rfl rfl rfl rfl ?_; intro r0 w0 e0 g0; have G0 := hid g0; clear g0)
  obtain ⟨T, hT⟩ : ∃ T, T = fop .quo .f64 (cn .f64 b) c256 := ⟨_, rfl⟩
  have HT := hid hT
  replace G0 := G0.out
  rw [cn_256, ← hT] at G0
  have G1 := hid G0
  clear hT G0
  go_loopw [4, 5] (fun sv kv wr => ∃ (i p : Nat), i ≤ 12 ∧ kv = .float .f64 (kz i) ∧ sv = .float .f64 p ∧ Hid (cn .f64 p = expP T i) ∧ Ext w wr) (fun _ kv _ => mz kv)
  case atStart => exact ⟨0, 4607182418800017408, by omega, by rw [kz_zero], rfl, cn_one, by with_reducible assumption⟩
  case round =>
    obtain ⟨i, p, hi, rfl, rfl, HB, he⟩ := hrel
    by_cases hlt : i < 12
    · have ha := kz_ge i hlt
      obtain ⟨K, hK⟩ : ∃ K, K = kz i := ⟨_, rfl⟩
      have HK := hid hK
      rw [← hK] at ha ⊢
      clear hK
      go_wp2_with ((with_reducible show wpList _ _ _ (Oper.mk _ (Op.binOp _ _ _ _ _) _ _ _ _ :: _) _ _); refine wl_fop rfl rfl rfl rfl rfl ?_; first | (have zz := G7; intro r8 w8 e8 g8; have G8 := hid g8; clear g8 zz; replace he := he.trans e8) | (have zz := G6; intro r7 w7 e7 g7; have G7 := hid g7; clear g7 zz; replace he := he.trans e7) | (have zz := G5; intro r6 w6 e6 g6; have G6 := hid g6; clear g6 zz; replace he := he.trans e6) | (intro r5 w5 e5 g5; have G5 := hid g5; clear g5; replace he := he.trans e5))
      have q8 : r8 = kz (i + 1) := kz_next hlt (by rw [← HK.out]; exact G8.out)
      subst q8
      go_roundw
      case rel =>
        refine ⟨i + 1, _, by omega, rfl, rfl, ?_, he⟩
        rw [Hid, G7.out, G6.out, G5.out, G1.out, HB.out, HK.out, cn_one, cn_kz hi]; rfl
      case measure => rw [HK.out, mz_kz i (by omega), mz_kz (i + 1) (by omega)]; omega
    · obtain rfl : i = 12 := by omega
      have ha := kz_end
      go_wp2
      obtain ⟨P, hP⟩ : ∃ P, P = expP T 12 := ⟨_, rfl⟩
      have HP := hid hP
      have H0 : cn .f64 p = P := by rw [hP]; exact HB.out
      have H1 := hid H0
      clear hP H0 ha
      go_loopw [4, 18] (fun sv iv wr => ∃ (i p : Nat), i ≤ 8 ∧ iv = .int .i64 i ∧ sv = .float .f64 p ∧ Hid (cn .f64 p = sqrD P i) ∧ Ext w wr) (fun _ iv _ => 8 - (intOf iv).toNat)
      case atStart => exact ⟨0, p, by omega, rfl, rfl, H1.out, by with_reducible assumption⟩
      case round =>
        clear he H1 HB
        obtain ⟨i, p, hi, rfl, rfl, HB, he⟩ := hrel
        by_cases hlt : i < 8
        · go_wp2_with ((with_reducible show wpList _ _ _ (Oper.mk _ (Op.binOp _ _ _ _ _) _ _ _ _ :: _) _ _); refine wl_fop rfl rfl rfl rfl rfl ?_; intro r5 w5 e5 g5; have G5 := hid g5; clear g5; replace he := he.trans e5)
          go_roundw
          case rel =>
            refine ⟨i + 1, _, by omega, by go_num, rfl, ?_, he⟩
            rw [Hid, G5.out, HB.out]; rfl
          case measure => simp [intOf]; omega
        · obtain rfl : i = 8 := by omega
          go_wp2
          go_ret
          refine ⟨p, rfl, ?_, he⟩
          rw [HB.out, HP.out, HT.out]; rfl

/-- e to the power of a double, with the bounds that the second program asks. -/
def expW (d : Nat) : Nat := if fgt .f64 d C200 then 9218868437227405312 else if flt .f64 d N200 then 0 else expD d
theorem cnd (k : FloatKind) (b : Nat) : (k.format.order b b != some .eq) = (k.decode b).isNaN := by
  cases h : (k.decode b).isNaN
  · rw [order_self h]; rfl
  · rw [order_nan h]; rfl
theorem gt_cn {k : FloatKind} {b c : Nat} (hc : cn k c = c) : (k.format.order b c == some .gt) = fgt k (cn k b) c := by
  have := fgt_cn k b c; rw [hc] at this; rw [this]; rfl
theorem lt_cn {k : FloatKind} {b c : Nat} (hc : cn k c = c) : (k.format.order b c == some .lt) = flt k (cn k b) c := by
  have := flt_cn k b c; rw [hc] at this; rw [this]; rfl
theorem cn_C200 : cn .f64 C200 = C200 := by decide +kernel
theorem cn_N200 : cn .f64 N200 = N200 := by decide +kernel
theorem cn_c200 : cn .f32 c200 = c200 := by decide +kernel
theorem cn_n200 : cn .f32 n200 = n200 := by decide +kernel
theorem cn_c20 : cn .f32 c20 = c20 := by decide +kernel
theorem cn_n20 : cn .f32 n20 = n20 := by decide +kernel
theorem cn_two : cn .f64 4611686018427387904 = twoD := by decide +kernel
/-- Made a double, k as the program writes it. -/
theorem near_kz {i : Nat} (h : i < 12) : floatOfInt .f64 (12 - (i : Int)) = kz i := by
  have : (12 - (i : Int)) = ((12 - i : Nat) : Int) := by omega
  rw [this]; rfl
set_option maxRecDepth 100000 in
set_option maxHeartbeats 1000000 in
theorem l01ExpWide_any (b : Nat) (w : World) (hg : fgt .f64 (cn .f64 b) C200 = false) : Calls Try.prog 213 #[.float .f64 b] w (RF .f64 w (expW (cn .f64 b))) := by
  have n1 := cnd .f64 b
  have hr : expW (cn .f64 b) = if flt .f64 (cn .f64 b) N200 then 0 else expD (cn .f64 b) := by unfold expW; rw [hg]; rfl
  have a2 : (FloatKind.f64.format.order b 4641240890982006784 == some .gt) = false := by rw [← hg]; exact gt_cn cn_C200
  cases hn : (FloatKind.f64.decode b).isNaN
  · rw [hn] at n1
    have a3 : (FloatKind.f64.format.order b 13864612927836782592 == some .lt) = flt .f64 (cn .f64 b) N200 := lt_cn cn_N200
    cases hl : flt .f64 (cn .f64 b) N200
    · rw [hl] at a3 hr
      have HR := hid hr
      clear hr hg hl
      go_enter Try.func213, Try.ntmps213
      go_wp2_with ((with_reducible show wpList _ _ _ (Oper.mk _ (Op.binOp _ _ _ _ _) _ _ _ _ :: _) _ _); refine wl_fop rfl rfl rfl rfl rfl ?_; intro r0 w0 e0 g0; have G0 := hid g0; clear g0)
      obtain ⟨T, hT⟩ : ∃ T, T = fop .quo .f64 (cn .f64 b) c256 := ⟨_, rfl⟩
      have HT := hid hT
      replace G0 := G0.out
      rw [cn_256, ← hT] at G0
      have G1 := hid G0
      clear hT G0 a2 a3 n1
      go_loopw [4, 5] (fun sv kv wr => ∃ (i p : Nat), i ≤ 12 ∧ kv = .int .i64 (12 - i) ∧ sv = .float .f64 p ∧ Hid (cn .f64 p = expP T i) ∧ Ext w wr) (fun _ kv _ => (intOf kv).toNat)
      case atStart => exact ⟨0, 4607182418800017408, by omega, by go_num, rfl, cn_one, by with_reducible assumption⟩
      case round =>
        obtain ⟨i, p, hi, rfl, rfl, HB, he⟩ := hrel
        by_cases hlt : i < 12
        · have ck := near_kz hlt
          go_wp2_with ((with_reducible show wpList _ _ _ (Oper.mk _ (Op.binOp _ _ _ _ _) _ _ _ _ :: _) _ _); refine wl_fop rfl rfl rfl rfl rfl ?_; first | (have zz := G6; intro r7 w7 e7 g7; have G7 := hid g7; clear g7 zz; replace he := he.trans e7) | (have zz := G5; intro r6 w6 e6 g6; have G6 := hid g6; clear g6 zz; replace he := he.trans e6) | (intro r5 w5 e5 g5; have G5 := hid g5; clear g5; replace he := he.trans e5))
          go_roundw
          case rel =>
            refine ⟨i + 1, _, by omega, by go_num, rfl, ?_, he⟩
            have q6 := G6.out
            rw [Hid, G7.out, q6, G5.out, G1.out, HB.out, cn_one, cn_kz hi]; rfl
          case measure => simp [intOf]; omega
        · obtain rfl : i = 12 := by omega
          rw [show (12 : Int) - ((12 : Nat) : Int) = 0 from rfl]
          go_wp2
          obtain ⟨P, hP⟩ : ∃ P, P = expP T 12 := ⟨_, rfl⟩
          have HP := hid hP
          have H0 : cn .f64 p = P := by rw [hP]; exact HB.out
          have H1 := hid H0
          clear hP H0
          go_loopw [4, 6] (fun sv iv wr => ∃ (i p : Nat), i ≤ 8 ∧ iv = .int .i64 i ∧ sv = .float .f64 p ∧ Hid (cn .f64 p = sqrD P i) ∧ Ext w wr) (fun _ iv _ => 8 - (intOf iv).toNat)
          case atStart => exact ⟨0, p, by omega, rfl, rfl, H1.out, by with_reducible assumption⟩
          case round =>
            clear he H1 HB
            obtain ⟨i, p, hi, rfl, rfl, HB, he⟩ := hrel
            by_cases hlt : i < 8
            · go_wp2_with ((with_reducible show wpList _ _ _ (Oper.mk _ (Op.binOp _ _ _ _ _) _ _ _ _ :: _) _ _); refine wl_fop rfl rfl rfl rfl rfl ?_; intro r5 w5 e5 g5; have G5 := hid g5; clear g5; replace he := he.trans e5)
              go_roundw
              case rel =>
                refine ⟨i + 1, _, by omega, by go_num, rfl, ?_, he⟩
                rw [Hid, G5.out, HB.out]; rfl
              case measure => simp [intOf]; omega
            · obtain rfl : i = 8 := by omega
              go_wp2
              go_ret
              refine ⟨p, rfl, ?_, he⟩
              rw [HR.out, HB.out, HP.out, HT.out]; rfl
    · rw [hl] at a3 hr
      have HR := hid hr
      clear hr hg hl
      go_enter Try.func213, Try.ntmps213
      go_wp2
      go_ret
      exact ⟨0, rfl, by rw [HR.out, if_pos trivial]; decide +kernel, Ext.refl _⟩
  · rw [hn] at n1
    have hr2 : expW (cn .f64 b) = nanB .f64 := by
      have hm : (FloatKind.f64.decode (nanB .f64)).isNaN = true := isNaN_nanB .f64
      rw [hr, cn_nan hn, expD_nan hm]; decide +kernel
    have hc := cn_nan hn
    have HR := hid hr2
    have HC := hid hc
    clear hr hr2 hc hn
    go_enter Try.func213, Try.ntmps213
    go_wp2
    go_ret
    exact ⟨b, rfl, by rw [HR.out]; exact HC.out, Ext.refl _⟩
set_option maxRecDepth 100000 in
set_option maxHeartbeats 1000000 in
theorem l01Narrow_any (b : Nat) (w : World) (h : fover .f64 (cn .f64 b) .f32 = false) : Calls Try.prog 214 #[.float .f64 b] w (RF .f32 w (fconv .f64 (cn .f64 b) .f32)) := by
  have H := hid h
  clear h
  go_enter Try.func214, Try.ntmps214
  go_wp2_with ((with_reducible show wpList _ _ _ (Oper.mk _ (Op.convert _ _ _) _ _ _ _ :: _) _ _); refine wl_conv rfl rfl rfl (by kernel_rfl) underlying_f32 H.out ?_; intro r0 w0 e0 g0; have G0 := hid g0; clear g0)
  go_ret
  exact ⟨r0, rfl, G0.out, e0⟩
theorem fover_zero : fover .f64 0 .f32 = false := by decide +kernel
theorem fconv_zero : fconv .f64 0 .f32 = 0 := by decide +kernel
set_option maxRecDepth 100000 in
set_option maxHeartbeats 1000000 in
theorem l01Exp_any (b : Nat) (w : World) (h : NonPos (cn .f32 b)) : Calls Try.prog 209 #[.float .f32 b] w (RF .f32 w (expF (cn .f32 b))) := by
  have h1 := nonpos_gt h
  have h2 := gt_widen (cn .f32 b)
  have h3 := lt_widen (cn .f32 b)
  have h4 := exp_over h
  rw [h1] at h2
  have hr : expF (cn .f32 b) = if flt .f32 (cn .f32 b) n200 then 0 else fconv .f64 (expD (fconv .f32 (cn .f32 b) .f64)) .f32 := by unfold expF; rw [h1]; rfl
  have hov : fover .f64 (expW (fconv .f32 (cn .f32 b) .f64)) .f32 = false ∧ fconv .f64 (expW (fconv .f32 (cn .f32 b) .f64)) .f32 = expF (cn .f32 b) := by
    unfold expW
    rw [h2, h3, hr]
    cases hl : flt .f32 (cn .f32 b) n200
    · exact ⟨h4 hl, rfl⟩
    · exact ⟨fover_zero, fconv_zero⟩
  have H := hid hov
  have H2 := hid h2
  clear hov h2 h3 h4 hr h1 h
  go_enter Try.func209, Try.ntmps209
  go_wp2_with ((with_reducible show wpList _ _ _ (Oper.mk _ (Op.convert _ _ _) _ _ _ _ :: _) _ _); refine wl_conv rfl rfl rfl (by kernel_rfl) underlying_f64 (fover_widen _) ?_; intro r0 w0 e0 g0; have G0 := hid g0; clear g0)
  refine (l01ExpWide_any r0 _ (by rw [G0.out]; exact H2.out)).mono ?_
  rintro e w1 ⟨b1, rfl, g1, e1⟩
  rw [G0.out] at g1
  have G1 := hid g1
  clear g1
  go_wp2_with fail
  refine (l01Narrow_any b1 _ (by rw [G1.out]; exact H.out.1)).mono ?_
  rintro e w2 ⟨b2, rfl, g2, e2⟩
  rw [G1.out, H.out.2] at g2
  have G2 := hid g2
  clear g2
  go_wp2
  go_ret
  exact ⟨b2, rfl, G2.out, (e0.trans e1).trans e2⟩
set_option maxRecDepth 100000 in
set_option maxHeartbeats 1000000 in
theorem ExpNumber_any (b : Nat) (w : World) (h : NonPos (cn .f32 b)) : Calls Try.prog 229 #[.float .f32 b] w (RF .f32 w (expF (cn .f32 b))) := by
  have h1 := nonpos_gt h
  have h4 := exp_over h
  have hr : expF (cn .f32 b) = if flt .f32 (cn .f32 b) n200 then 0 else fconv .f64 (expD (fconv .f32 (cn .f32 b) .f64)) .f32 := by unfold expF; rw [h1]; rfl
  have a1 : (FloatKind.f32.format.order b 1128792064 == some .gt) = false := by rw [← h1]; exact gt_cn cn_c200
  have a2 : (FloatKind.f32.format.order b 3276275712 == some .lt) = flt .f32 (cn .f32 b) n200 := lt_cn cn_n200
  cases hl : flt .f32 (cn .f32 b) n200
  · rw [hl] at a2 hr
    have H4 := hid (h4 hl)
    have HR := hid hr
    clear h4 hr h1 h hl
    go_enter Try.func229, Try.ntmps229
    go_wp2_with ((with_reducible show wpList _ _ _ (Oper.mk _ (Op.convert _ _ _) _ _ _ _ :: _) _ _); refine wl_conv rfl rfl rfl (by kernel_rfl) underlying_f64 (fover_widen _) ?_; intro r0 w0 e0 g0; have G0 := hid g0; clear g0)
    refine (exp64_any r0 _).mono ?_
    rintro e w1 ⟨b1, rfl, g1, e1⟩
    rw [G0.out] at g1
    have G1 := hid g1
    clear g1
    go_wp2_with ((with_reducible show wpList _ _ _ (Oper.mk _ (Op.convert _ _ _) _ _ _ _ :: _) _ _); refine wl_conv rfl rfl rfl (by kernel_rfl) underlying_f32 (by rw [G1.out]; exact H4.out) ?_; intro r2 w2 e2 g2; have G2 := hid g2; clear g2)
    go_ret
    exact ⟨r2, rfl, by rw [G2.out, G1.out, HR.out]; rfl, (e0.trans e1).trans e2⟩
  · rw [hl] at a2 hr
    have HR := hid hr
    clear h4 hr h1 h hl
    go_enter Try.func229, Try.ntmps229
    go_wp2
    go_ret
    exact ⟨0, rfl, by rw [HR.out, if_pos trivial]; exact cn0, Ext.refl _⟩
end Go.Proofs.Ytnlhahlegedlaaa
