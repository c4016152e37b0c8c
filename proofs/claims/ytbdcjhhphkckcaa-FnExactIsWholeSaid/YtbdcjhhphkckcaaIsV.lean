/- IsWhole: the program's test of one number, and the reference's test of a list. -/
import Derived.Test.YtbdcjhhphkckcaaIsW
namespace Go.Proofs.Ytbdcjhhphkckcaa
set_option linter.unusedSimpArgs false
set_option linter.unusedVariables false
open Go.RowKit Go.Proofs.Ytbdcjhhphkckcaa.Ex

section
variable {P : Program} {w : World} {ops : Array Oper} {rest : List Oper} {o : Oper} {a : Act} {Q : Exit → Act → World → Prop}
theorem wl_negF {t : TypeId} {x : Operand} {b : Nat} (hw : Region.wanted o (yielded ops a.tmps) = true) (ho : o.op = .unOp .neg t x) (hx : a.eval x = .float .f32 b)
    (h : wpList P ops Q rest (a.put o.dst (.float .f32 (b ^^^ 2 ^ (FloatKind.f32.format.exponentBits + FloatKind.f32.format.fractionBits)))) w) : wpList P ops Q (o :: rest) a w :=
  wl_valueW hw (w' := w) (v := .float .f32 (b ^^^ 2 ^ (FloatKind.f32.format.exponentBits + FloatKind.f32.format.fractionBits))) (by simp [execOp, ho, hx, Op.unary, Op.negFloat]) h
end
theorem cn_num {k : FloatKind} {r x : Nat} (h : cn k r = x) (hx : (k.decode x).isNaN = false) : r = x := by
  by_cases hn : (k.decode r).isNaN = true
  · rw [cn_nan hn] at h
    rw [← h, isNaN_nanB] at hx; cases hx
  · rw [cn_not (by simpa using hn)] at h
    exact h
theorem isNaN_of_num {b : Nat} (hn : (FloatKind.f32.decode b).isNaN = false) : (FloatKind.f64.decode (fconv .f32 b .f64)).isNaN = false := by
  cases hd : FloatKind.f32.decode b with
  | nan s f => rw [hd] at hn; cases hn
  | infinity s => rw [widen_inf hd]; rfl
  | number s m e => obtain ⟨k, p, g1, _, _⟩ := wide hd; rw [g1]; rfl
theorem order_cn1 (x y : Nat) : FloatKind.f32.format.order (cn .f32 x) (FloatKind.f32.nearest y) = FloatKind.f32.format.order x (FloatKind.f32.nearest y) := by
  have := order_cn .f32 x (FloatKind.f32.nearest y)
  rwa [cn_nearest] at this
theorem underlying_i64 : Try.prog.underlying 2 = some (.int .i64) := by kernel_rfl
set_option maxRecDepth 100000 in
set_option maxHeartbeats 1000000 in
theorem size_any (b : Nat) (w : World) : Calls Try.prog 116 #[.float .f32 b] w fun e w' => ∃ u, e = .returned (.float .f32 u) ∧ sizeR b u ∧ Ext w w' := by
  by_cases hn : (FloatKind.f32.decode b).isNaN = true
  · have A := hid (fun r W hr => Abs_any r W hr)
    have N1 := hid (fun r => @abs64_nan r)
    have N2 := hid (fun u => @size_nan b u hn)
    go_enter Try.func116, Try.ntmps116
    go_wp2_with ((with_reducible show wpList _ _ _ (Oper.mk _ (Op.convert _ _ _) _ _ _ _ :: _) _ _); refine wl_widenN rfl rfl rfl (by rw [underlying_f32]; rfl) underlying_f64 hn ?_; intro r w1 e1 h1 h2)
    refine (A.out r _ h2).mono ?_
    rintro e w2 ⟨rfl, rfl⟩
    have h3 := N1.out r h1
    have h4 := fover_nan (k' := .f32) (x := cn .f64 (absB r)) (k := .f64) (by rw [isNaN_cn]; exact h3)
    go_wp2_with ((with_reducible show wpList _ _ _ (Oper.mk _ (Op.convert _ _ _) _ _ _ _ :: _) _ _); refine wl_conv rfl rfl rfl (by rw [underlying_f64]; rfl) underlying_f32 h4 ?_; intro u w3 e3 h5)
    go_ret
    refine ⟨u, rfl, N2.out u ?_, e1.trans e3⟩
    have h6 : (FloatKind.f64.decode (cn .f64 (absB r))).isNaN = true := by rw [isNaN_cn]; exact h3
    have h7 : (FloatKind.f32.decode (cn .f32 u)).isNaN = true := by
      rw [h5]
      obtain ⟨s, f, h8⟩ := eq_nan_of_isNaN h6
      unfold fconv floatToFloatBits
      rw [if_neg (by decide), h8]
      exact isNaN_nanB .f32
    rwa [isNaN_cn] at h7
  · have hn' : (FloatKind.f32.decode b).isNaN = false := by simpa using hn
    obtain ⟨s1, s2, s3⟩ := size_num hn'
    have hlt : fconv .f32 b .f64 < 18446744073709551616 := conv_lt (by decide) (widen_some hn')
    have A := hid (fun W => Abs_any (fconv .f32 b .f64) W hlt)
    have S3 := hid s3
    have hx : (FloatKind.f64.decode (fconv .f32 b .f64)).isNaN = false := isNaN_of_num hn'
    have HX := hid (fun r (h : cn .f64 r = fconv .f32 (cn .f32 b) .f64) => show r = fconv .f32 b .f64 from by rw [cn_not hn'] at h; exact cn_num h hx)
    have HU := hid (fun r (h : cn .f32 r = fconv .f64 (cn .f64 (absB (fconv .f32 b .f64))) .f32) => show sizeR b r from by
      rw [cn_not s2] at h
      intro M hM
      have := s3 M hM
      rw [← h] at this
      unfold leqB at this ⊢
      rwa [order_cn1] at this)
    have S1 := hid (show fover .f64 (cn .f64 (absB (fconv .f32 b .f64))) .f32 = false by rw [cn_not s2]; exact s1)
    clear s1 s2 s3 hn hn' hlt hx
    go_enter Try.func116, Try.ntmps116
    go_wp2_with ((with_reducible show wpList _ _ _ (Oper.mk _ (Op.convert _ _ _) _ _ _ _ :: _) _ _); refine wl_conv rfl rfl rfl (by rw [underlying_f32]; rfl) underlying_f64 (fover_widen _) ?_; intro r w1 e1 h1; have h2 := HX.out r h1; subst h2; clear h1)
    refine (A.out _).mono ?_
    rintro e w2 ⟨rfl, rfl⟩
    go_wp2_with ((with_reducible show wpList _ _ _ (Oper.mk _ (Op.convert _ _ _) _ _ _ _ :: _) _ _); refine wl_conv rfl rfl rfl (by rw [underlying_f64]; rfl) underlying_f32 S1.out ?_; intro u w3 e3 h5; have HU2 := hid (HU.out u h5); clear h5)
    go_ret
    exact ⟨u, rfl, HU2.out, e1.trans e3⟩
set_option maxRecDepth 100000 in
set_option maxHeartbeats 1000000 in
theorem l09Whole_any (p : Option Addr) (n c M : Nat) (us : List Value) (xs : List Nat) (w : World) (hM : M ≤ 1000) (hx : xs.length = n) (hn : n ≤ maxLen) (hp : Cs w p us) (hf : F32s us xs) : Calls Try.prog 111 #[.slice p n c, .int .i64 (M : Int)] w (RetB w (xs.all fun x => wB x M)) := by
  have HX := hid hx
  have HNo := hid (fun i (hi : i < n) (h : wB (xs.getD i 0) M = false) => show (xs.all fun x => wB x M) = false from by
    rw [List.all_eq_false]
    have hl : i < xs.length := by rw [hx]; exact hi
    exact ⟨xs[i], by simp, by rw [show xs.getD i 0 = xs[i] from by simp [hl]] at h; rw [h]; simp⟩)
  have HYes := hid (fun (h : ∀ i, i < n → wB (xs.getD i 0) M = true) => show (xs.all fun x => wB x M) = true from by
    rw [List.all_eq_true]
    intro x hm
    obtain ⟨i, hi, rfl⟩ := List.mem_iff_getElem.1 hm
    have := h i (by rw [← hx]; exact hi)
    rwa [show xs.getD i 0 = xs[i] from by simp [hi]] at this)
  have HS := hid (fun b => spec_cases b M hM)
  generalize (xs.all fun x => wB x M) = b at *
  clear hx
  unfold maxLen at hn
  go_enter Try.func111, Try.ntmps111
  go_wp2
  go_loopw [5] (fun iv wr => ∃ i : Nat, i ≤ n ∧ iv = .int .i64 i ∧ Hid (∀ j, j < i → wB (xs.getD j 0) M = true) ∧ Ext w wr) (fun iv _ => n - (intOf iv).toNat)
  case atStart => exact ⟨0, by omega, rfl, fun j hj => by omega, Ext.refl _⟩
  case round =>
    obtain ⟨i, hi, rfl, HAll, he⟩ := hrel
    by_cases hlt : i < n
    · obtain ⟨r, hr, hc⟩ := hf.2 i (by rw [HX.out]; exact hlt)
      have HR := hid hr
      have Hh := hid (show wB (xs.getD i 0) M = wB r M by rw [← hc, wB_cn])
      have kp := hp.ext he
      have hl : us.length = n := by rw [hf.1]; exact HX.out
      have Hl := hid hl
      clear hr hc hl
      have hcases := HS.out r
      unfold leqB geqB at hcases
      rw [show FloatKind.f32.nearest (M : Int) = floatOfInt .f32 (M : Int) from rfl] at hcases
      rcases hcases with ⟨q1, q2⟩ | ⟨q1, q2, q3⟩ | ⟨q1, q2, k, q3, q4⟩
      · have hno := HNo.out i hlt (by rw [Hh.out]; exact q2)
        subst hno
        clear q2
        go_wp2_with (first | ((with_reducible show wpList _ _ _ (Oper.mk _ (Op.indexAddr _ _ _) _ _ _ _ :: Oper.mk _ (Op.load _ _) _ _ _ _ :: _) _ _); refine wl_idxload rfl rfl rfl rfl (fun _ => rfl) rfl rfl kp Hl.out (by omega) (by omega) ?_; intro u hu; rw [Int.toNat_natCast] at hu; replace hu := HR.out.symm.trans hu; cases hu) | ((with_reducible show wpList _ _ _ (Oper.mk _ (Op.unOp _ _ _) _ _ _ _ :: _) _ _); refine wl_negF rfl rfl rfl ?_))
        go_ret
        exact ⟨rfl, he⟩
      · have hno := HNo.out i hlt (by rw [Hh.out]; exact q3)
        subst hno
        clear q3
        go_wp2_with (first | ((with_reducible show wpList _ _ _ (Oper.mk _ (Op.indexAddr _ _ _) _ _ _ _ :: Oper.mk _ (Op.load _ _) _ _ _ _ :: _) _ _); refine wl_idxload rfl rfl rfl rfl (fun _ => rfl) rfl rfl kp Hl.out (by omega) (by omega) ?_; intro u hu; rw [Int.toNat_natCast] at hu; replace hu := HR.out.symm.trans hu; cases hu) | ((with_reducible show wpList _ _ _ (Oper.mk _ (Op.unOp _ _ _) _ _ _ _ :: _) _ _); refine wl_negF rfl rfl rfl ?_))
        go_ret
        exact ⟨rfl, he⟩
      · rw [show FloatKind.f32.nearest k = floatOfInt .f32 k from rfl] at q4
        have vc := fun w => run_convert_float_int (P := Try.prog) (w := w) 22 2 .f32 .i64 r k (by rw [underlying_f32]; rfl) underlying_i64 q3
        clear q3
        cases hb : wB r M
        · have hno := HNo.out i hlt (by rw [Hh.out]; exact hb)
          subst hno
          rw [hb, Bool.not_false] at q4
          clear hb
          go_wp2_with (first | ((with_reducible show wpList _ _ _ (Oper.mk _ (Op.indexAddr _ _ _) _ _ _ _ :: Oper.mk _ (Op.load _ _) _ _ _ _ :: _) _ _); refine wl_idxload rfl rfl rfl rfl (fun _ => rfl) rfl rfl kp Hl.out (by omega) (by omega) ?_; intro u hu; rw [Int.toNat_natCast] at hu; replace hu := HR.out.symm.trans hu; cases hu) | ((with_reducible show wpList _ _ _ (Oper.mk _ (Op.unOp _ _ _) _ _ _ _ :: _) _ _); refine wl_negF rfl rfl rfl ?_))
          go_ret
          exact ⟨rfl, he⟩
        · have Hb := hid hb
          rw [hb, Bool.not_true] at q4
          clear hb
          go_wp2_with (first | ((with_reducible show wpList _ _ _ (Oper.mk _ (Op.indexAddr _ _ _) _ _ _ _ :: Oper.mk _ (Op.load _ _) _ _ _ _ :: _) _ _); refine wl_idxload rfl rfl rfl rfl (fun _ => rfl) rfl rfl kp Hl.out (by omega) (by omega) ?_; intro u hu; rw [Int.toNat_natCast] at hu; replace hu := HR.out.symm.trans hu; cases hu) | ((with_reducible show wpList _ _ _ (Oper.mk _ (Op.unOp _ _ _) _ _ _ _ :: _) _ _); refine wl_negF rfl rfl rfl ?_))
          go_roundw
          case rel =>
            refine ⟨i + 1, by omega, by go_num, fun j hj => ?_, he⟩
            by_cases hji : j = i
            · subst hji; rw [Hh.out]; exact Hb.out
            · exact HAll.out j (by omega)
          case measure => simp [intOf]; omega
    · obtain rfl : i = n := by omega
      have hy := HYes.out HAll.out
      subst hy
      go_wp2
      go_ret
      exact ⟨rfl, he⟩
end Go.Proofs.Ytbdcjhhphkckcaa
