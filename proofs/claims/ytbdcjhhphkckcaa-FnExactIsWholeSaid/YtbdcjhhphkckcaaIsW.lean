/- IsWhole: what the program and the reference call. -/
import Derived.Test.YtbdcjhhphkckcaaIsP
import Derived.Test.YtbdcjhhphkckcaaCatF
import Derived.Test.YtbdcjhhphkckcaaKf
import Derived.Test.YtbdcjhhphkckcaaKb
import Derived.Test.YtbdcjhhphkckcaaKc
import Derived.Test.YtbdcjhhphkckcaaCompA
namespace Go.Proofs.Ytbdcjhhphkckcaa
set_option linter.unusedSimpArgs false
set_option linter.unusedVariables false
open Go.RowKit Go.Proofs.Ytbdcjhhphkckcaa.Ex

section
variable {P : Program} {w : World} {ops : Array Oper} {rest : List Oper} {o : Oper} {a : Act} {Q : Exit → Act → World → Prop}
theorem nan_lt64 (t : Nat) : (t % 2) * 2 ^ 63 + 0x7ff0000000000000 + 1 + (t / 2) % (2 ^ 52 - 1) < 18446744073709551616 := by
  have h1 : t % 2 < 2 := Nat.mod_lt _ (by decide)
  have h2 : (t / 2) % (2 ^ 52 - 1) < 2 ^ 52 - 1 := Nat.mod_lt _ (by decide)
  omega
/-- A not-a-number is widened to one. -/
theorem wl_widenN {src dst : TypeId} {x : Operand} {b : Nat} (hg : o.guard = none) (ho : o.op = .convert src dst x) (hx : a.eval x = .float .f32 b) (hs : (P.underlying src).isSome = true) (hd : P.underlying dst = some (.float .f64)) (hn : (FloatKind.f32.decode b).isNaN = true)
    (h : ∀ r w', Ext w w' → (FloatKind.f64.decode r).isNaN = true → r < 18446744073709551616 → wpList P ops Q rest (a.put o.dst (.float .f64 r)) w') : wpList P ops Q (o :: rest) a w := by
  obtain ⟨g, f, hgf⟩ := eq_nan_of_isNaN hn
  obtain ⟨u, hs'⟩ := Option.isSome_iff_exists.1 hs
  have hrun : (convert src dst (.float .f32 b)).run P w = .ok (.float .f64 ((Question.nanConv .f64 b).cut (w.tape w.drawn (.nanConv .f64 b)))) (w.drewN 1) := by
    cases u <;> simp [convert, run_underlying hs', run_underlying hd, Conv.floatToFloat, hgf, choose, Sem.run, Question.forced, World.drewN]
  exact wl_value (v := .float .f64 ((Question.nanConv .f64 b).cut (w.tape w.drawn (.nanConv .f64 b)))) hg (by simp [execOp, ho, hx, hrun]) (h _ _ (Ext.drewN w 1) (cut_nan64 _) (nan_lt64 _))
end
theorem conv_lt {s k : FloatKind} {b r : Nat} (hsk : s ≠ k) (h : floatToFloatBits s b k = some r) : r < 2 ^ k.format.width := by
  unfold floatToFloatBits at h
  rw [if_neg hsk] at h
  split at h
  · cases h
  · cases h; exact k.format.write_lt _
  · split at h
    · cases h
    · cases h; exact k.format.write_lt _
theorem run_f64from (n : Int) (w : World) : (callFunc 151 #[.int .u64 n]).run Try.prog w = .ok (.value (.float .f64 n.toNat)) w :=
  run_extern (e := Extern.MathFloatBits.float64frombits) Try.func151 (by kernel_rfl) (by kernel_rfl) (by kernel_rfl) (by kernel_rfl) rfl
theorem run_trunc {x : Nat} (h : (FloatKind.f64.decode x).isNaN = false) (w : World) : (callFunc 146 #[.float .f64 x]).run Try.prog w = .ok (.value (.float .f64 (truncB x))) w := by
  refine run_extern (e := Extern.MathFloor.toIntegral "math.archTrunc" .zero) Try.func146 (by kernel_rfl) (by kernel_rfl) (by kernel_rfl) (by kernel_rfl) ?_
  unfold truncB
  have key : Extern.MathFloor.toIntegral "math.archTrunc" .zero #[.float .f64 x] = pure (.float .f64 (FloatKind.f64.encode ((FloatKind.f64.decode x).integral .zero))) := by
    conv => lhs; whnf
    cases hd : FloatKind.f64.decode x with
    | nan s f => rw [hd] at h; cases h
    | infinity s => rfl
    | number s m e => rfl
  rw [key]; rfl
set_option maxRecDepth 100000 in
set_option maxHeartbeats 1000000 in
theorem Abs_any (r : Nat) (w : World) (hr : r < 18446744073709551616) : Calls Try.prog 145 #[.float .f64 r] w fun e w' => e = .returned (.float .f64 (absB r)) ∧ w' = w := by
  have hx := run_f64bits r
  have hy := run_f64from
  have hz : bits .andNot .u64 (r : Int) 9223372036854775808 = ((absB r : Nat) : Int) := by
    rw [u64_andNot _ _ (by omega) (by omega) (by omega) (by omega)]
    unfold absB
    rw [Int.toNat_natCast, show (18446744073709551615 - (9223372036854775808 : Int).toNat) = 2 ^ 63 - 1 by decide, Nat.and_two_pow_sub_one_eq_mod]
  generalize absB r = q at *
  go_enter Try.func145, Try.ntmps145
  go_wp2
  go_ret
  exact ⟨by simp, rfl⟩
set_option maxRecDepth 100000 in
set_option maxHeartbeats 1000000 in
theorem Trunc_any (x : Nat) (w : World) (h : (FloatKind.f64.decode x).isNaN = false) : Calls Try.prog 117 #[.float .f64 x] w fun e w' => e = .returned (.float .f64 (truncB x)) ∧ w' = w := by
  have hx := run_trunc h
  generalize truncB x = q at *
  clear h
  go_enter Try.func117, Try.ntmps117
  go_wp2
  go_ret
  exact ⟨rfl, rfl⟩
end Go.Proofs.Ytbdcjhhphkckcaa
