/- Bits of numbers, and their bytes. -/
import Derived.Test.YtmcafdcabbighaaF32
import Derived.Test.YtmcafdcabbighaaMem2
namespace Go.Proofs.Ytmcafdcabbighaa
set_option linter.unusedSimpArgs false
set_option linter.unusedVariables false
open Go.RowKit

theorem run_extern {P : Program} {f : FuncId} {fn : Func} {e : Array Value → Sem Value} {args : Array Value} {v : Value} {w : World} (hf : P.funcs[f]? = some fn) (hname : (fn.name == "runtime.NumGoroutine") = false) (hb : fn.body.isNone = true)
    (hn : Extern.findNext fn = none) (he : Extern.find fn = some e) (hr : (e args).run P w = .ok v w) : (callFunc f args).run P w = .ok (.value v) w := by
  have hname' : ¬ fn.name = "runtime.NumGoroutine" := by simpa using hname
  have hb' : fn.body = none := by simpa using hb
  simp [callFunc, hf, hname', hb', hn, he, hr, program, Sem.run, mark]
theorem run_f32bits (b : Nat) (w : World) : (callFunc 95 #[.float .f32 b]).run Try.prog w = .ok (.value (.int .u32 b)) w :=
  run_extern (e := Extern.MathFloatBits.float32bits) Try.func95 (by kernel_rfl) (by kernel_rfl) (by kernel_rfl) (by kernel_rfl) rfl
theorem run_f32from (n : Int) (w : World) : (callFunc 112 #[.int .u32 n]).run Try.prog w = .ok (.value (.float .f32 n.toNat)) w :=
  run_extern (e := Extern.MathFloatBits.float32frombits) Try.func112 (by kernel_rfl) (by kernel_rfl) (by kernel_rfl) (by kernel_rfl) rfl

/-- The bits of a number, as an integer. -/
def bitsOf (x : Nat) : Int := wrap64 x
theorem bitsOf_nan : bitsOf (nanB .f32) = 2143289344 := by decide +kernel
set_option maxRecDepth 100000 in
set_option maxHeartbeats 1000000 in
theorem BitsOf_any (b : Nat) (w : World) : Calls Try.prog 57 #[.float .f32 b] w fun e w' => e = .returned (.int .i64 (bitsOf (cn .f32 b))) ∧ w = w' := by
  by_cases hn : (FloatKind.f32.decode b).isNaN = true
  · have ha : (FloatKind.f32.format.order b b != some .eq) = true := by rw [order_nan hn]; rfl
    go_enter Try.func57, Try.ntmps57
    go_wp2
    go_ret
    exact ⟨by rw [cn_nan hn, bitsOf_nan]; rfl, rfl⟩
  · have hn' : (FloatKind.f32.decode b).isNaN = false := by simpa using hn
    have ha : (FloatKind.f32.format.order b b != some .eq) = false := by rw [order_self hn']; rfl
    have hx := run_f32bits b
    have hcn := cn_not hn'
    go_enter Try.func57, Try.ntmps57
    go_wp2
    go_ret
    exact ⟨by rw [hcn]; rfl, rfl⟩
set_option maxRecDepth 100000 in
set_option maxHeartbeats 1000000 in
theorem l01Bits_any (b : Nat) (w : World) : Calls Try.prog 100 #[.float .f32 b] w fun e w' => e = .returned (.int .i64 (bitsOf (cn .f32 b))) ∧ w = w' := by
  by_cases hn : (FloatKind.f32.decode b).isNaN = true
  · have ha : (FloatKind.f32.format.order b b != some .eq) = true := by rw [order_nan hn]; rfl
    go_enter Try.func100, Try.ntmps100
    go_wp2
    go_ret
    exact ⟨by rw [cn_nan hn, bitsOf_nan]; rfl, rfl⟩
  · have hn' : (FloatKind.f32.decode b).isNaN = false := by simpa using hn
    have ha : (FloatKind.f32.format.order b b != some .eq) = false := by rw [order_self hn']; rfl
    have hx := run_f32bits b
    have hcn := cn_not hn'
    go_enter Try.func100, Try.ntmps100
    go_wp2
    go_ret
    exact ⟨by rw [hcn]; rfl, rfl⟩
end Go.Proofs.Ytmcafdcabbighaa
