/- Tensors: which are valid. -/
import Derived.Test.YthphfmngofbabaaInt
import Derived.Test.YthphfmngofbabaaHTensor
import Derived.IntWalk
namespace Go.Proofs.Ythphfmngofbabaa
set_option linter.unusedSimpArgs false
set_option linter.unusedVariables false
open Go.RowKit

def RetB (w : World) (b : Bool) (e : Ending) (w' : World) : Prop := e = .returned (.bool b) ∧ Ext w w'
/-- Which tensors are valid. -/
def tenB (r c : Int) (n : Nat) : Bool := inB r 1 16 && inB c 1 16 && decide ((n : Int) = r * c)

theorem wrap_in (x : Int) (h0 : -9223372036854775808 ≤ x) (h1 : x ≤ 9223372036854775807) : IntKind.i64.wrap x = x := IntWalk.i64_in _ (by omega)
theorem calls_same {P : Program} {f : Nat} {xs : Array Value} {w : World} {v : Value} (h : Calls P f xs w fun e w' => e = .returned v ∧ w = w') : Calls P f xs w fun e w3 => ∃ u, e = .returned u ∧ Ext w w3 ∧ u = v :=
  h.mono fun e w3 h => ⟨v, h.1, h.2 ▸ Ext.refl _, rfl⟩
theorem calls_retB {P : Program} {f : Nat} {xs : Array Value} {w : World} {b : Bool} (h : Calls P f xs w (RetB w b)) : Calls P f xs w fun e w3 => ∃ u, e = .returned u ∧ Ext w w3 ∧ u = .bool b :=
  h.mono fun e w3 h => ⟨_, h.1, h.2, rfl⟩

set_option maxRecDepth 100000 in
set_option maxHeartbeats 1000000 in
theorem ValidTensor_any (r c : Int) (p : Option Addr) (n cp : Nat) (w : World) (hn : n ≤ maxLen) :
    Calls Try.prog 111 #[.agg #[.int .i64 r, .int .i64 c, .slice p n cp]] w (RetB w (tenB r c n)) := by
  unfold maxLen at hn
  cases h1 : inB r 1 16
  · have hb : tenB r c n = false := by simp [tenB, h1]
    have H1 := hid h1
    rw [hb]
    clear h1 hb
    go_enter Try.func111, Try.ntmps111
    go_wp2_with fail
    refine (isSide_any _ _).mono ?_
    rintro e w1 ⟨rfl, rfl⟩
    rw [H1.out]
    go_wp2
    go_ret
    exact ⟨rfl, Ext.alloc _ _⟩
  · cases h2 : inB c 1 16
    · have hb : tenB r c n = false := by simp [tenB, h2]
      have H1 := hid h1
      have H2 := hid h2
      rw [hb]
      clear h1 h2 hb
      go_enter Try.func111, Try.ntmps111
      go_wp2_with fail
      refine (isSide_any _ _).mono ?_
      rintro e w1 ⟨rfl, rfl⟩
      rw [H1.out]
      go_wp2_with fail
      refine (isSide_any _ _).mono ?_
      rintro e w1 ⟨rfl, rfl⟩
      rw [H2.out]
      go_wp2
      go_ret
      exact ⟨rfl, Ext.alloc _ _⟩
    · have hb : tenB r c n = decide ((n : Int) = r * c) := by simp [tenB, h1, h2]
      have H1 := hid h1
      have H2 := hid h2
      rw [inB_true] at h1 h2
      have hm : r * c ≤ 256 := by have := Int.mul_le_mul h1.2 h2.2 (by omega) (by decide); omega
      have hm0 : 0 ≤ r * c := Int.mul_nonneg (by omega) (by omega)
      rw [hb]
      clear hb
      go_enter Try.func111, Try.ntmps111
      go_wp2_with fail
      refine (isSide_any _ _).mono ?_
      rintro e w1 ⟨rfl, rfl⟩
      rw [H1.out]
      go_wp2_with fail
      refine (isSide_any _ _).mono ?_
      rintro e w1 ⟨rfl, rfl⟩
      rw [H2.out]
      go_wp2
      go_ret
      exact ⟨ret_bool (a := ((n : Int) == r * c)) rfl, Ext.alloc _ _⟩
end Go.Proofs.Ythphfmngofbabaa
