/- The law FnExactStopAt answers true at every input. -/
import Derived.Test.YtlimabbeaimdgaaStop3
import Derived.Test.YtlimabbeaimdgaaKa
namespace Go.Proofs.Ytlimabbeaimdgaa.lStop
set_option linter.unusedSimpArgs false
set_option linter.unusedVariables false
open Go.RowKit

def StopOk (w : World) (xs : List Nat) (pt : Int) (e : Ending) (w' : World) : Prop := e = .returned (.tuple #[.int .i64 (stopR xs pt).1, .bool (stopR xs pt).2]) ∧ Ext w w'

set_option maxRecDepth 100000 in
set_option maxHeartbeats 1000000 in
theorem StopAt_any (p : Option Addr) (n c : Nat) (pt : Int) (vs : List Value) (xs : List Nat) (w : World) (hx : xs.length = n) (hnc : n ≤ c) (hcm : c ≤ maxLen) (hc : Cs w p vs) (hv : F32s vs xs) :
    Calls Try.prog 26 #[.slice p n c, .int .i64 pt] w (StopOk w xs pt) := by
  by_cases h : n ≤ 256 ∧ inB pt 1 256 = true
  · obtain ⟨h1, h2⟩ := h
    obtain ⟨a1, a2⟩ := inB_true.1 h2
    obtain ⟨pt, rfl⟩ : ∃ m : Nat, pt = m := ⟨pt.toNat, by omega⟩
    refine (StopAt_yes p n c pt vs xs w hx h1 hnc hcm (by omega) (by omega) hc hv).mono ?_
    rintro e w' ⟨r, hr, rfl, he⟩
    have : stopR xs (pt : Int) = r := by unfold stopR; rw [hx, if_pos ⟨h1, h2⟩, hr]; rfl
    refine ⟨by rw [this], he⟩
  · have hno : stopR xs pt = (0, false) := stopR_no (by rw [hx]; exact h)
    unfold StopOk
    rw [hno]
    unfold maxLen at hcm
    by_cases h1 : n ≤ 256
    · have h2 : inB pt 1 256 = false := by simpa [h1] using h
      go_enter Try.func26, Try.ntmps26
      go_wp2_with fail
      refine (within_any _ _ _ _).mono ?_
      rintro e w1 ⟨rfl, rfl⟩
      rw [h2]
      go_wp2
      go_ret2
      exact ⟨rfl, Ext.alloc w _⟩
    · go_enter Try.func26, Try.ntmps26
      go_wp2
      go_ret2
      exact ⟨rfl, Ext.alloc w _⟩
end Go.Proofs.Ytlimabbeaimdgaa.lStop
