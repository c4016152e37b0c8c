/- slices.IndexFunc and slices.ContainsFunc: whatever the predicate's function is. -/
import Derived.Test.YthphfmngofbabaaF32
import Derived.Shelf.Abstract
namespace Go.Proofs.Ythphfmngofbabaa
set_option linter.unusedSimpArgs false
set_option linter.unusedVariables false
open Go.RowKit

/-- Some place before n. -/
def anyTo (q : Nat → Bool) : Nat → Bool
  | 0 => false
  | n + 1 => anyTo q n || q n
theorem anyTo_true {q : Nat → Bool} : ∀ {n : Nat}, anyTo q n = true ↔ ∃ i, i < n ∧ q i = true
  | 0 => by simp [anyTo]
  | n + 1 => by
    rw [anyTo, Bool.or_eq_true, anyTo_true]
    constructor
    · rintro (⟨i, h1, h2⟩ | h)
      · exact ⟨i, by omega, h2⟩
      · exact ⟨n, by omega, h⟩
    · rintro ⟨i, h1, h2⟩
      by_cases hi : i = n
      · subst hi; exact .inr h2
      · exact .inl ⟨i, by omega, h2⟩
theorem anyTo_false {q : Nat → Bool} {n : Nat} (h : ∀ i, i < n → q i = false) : anyTo q n = false := by
  rw [← Bool.not_eq_true, anyTo_true]; rintro ⟨i, h1, h2⟩; rw [h i h1] at h2; cases h2
/-- What is asked of the predicate's function. -/
def PredOk (fn : Nat) (cap : Array Value) (vs : List Value) (q : Nat → Bool) (w : World) : Prop :=
  ∀ (i : Nat) (u : Value) (W : World), vs[i]? = some u → Ext w W → Calls Try.prog fn (#[u] ++ cap) W fun e w' => e = .returned (.bool (q i)) ∧ Ext W w'

set_option maxRecDepth 100000 in
set_option maxHeartbeats 1000000 in
theorem indexFuncF32_any (fn : Nat) (cap : Array Value) (eg : ∀ args w, (callFunc fn args).run Try.prog w = .ok (.enter fn args) w) (p : Option Addr) (n c : Nat) (vs : List Value) (q : Nat → Bool) (w : World) (hv : vs.length = n) (hn : n ≤ maxLen) (hc : Cs w p vs) (hq : PredOk fn cap vs q w) :
    Calls Try.prog 166 #[.slice p n c, .func (.func fn) #[] cap] w fun e w' => ∃ z : Int, e = .returned (.int .i64 z) ∧ (0 ≤ z ↔ anyTo q n = true) ∧ Ext w w' := by
  have Hv := hid hv
  have Hq := hid hq
  clear hv hq
  unfold maxLen at hn
  go_enter Try.func166, Try.ntmps166
  go_wp2
  go_loopw [8] (fun iv wr => ∃ i : Nat, i ≤ n ∧ iv = .int .i64 i ∧ Hid (∀ j, j < i → q j = false) ∧ Ext w wr) (fun iv _ => n - (intOf iv).toNat)
  case atStart => exact ⟨0, by omega, rfl, fun j hj => by omega, Ext.refl w⟩
  case round =>
    obtain ⟨i, hi, rfl, Hall, he⟩ := hrel
    by_cases hlt : i < n
    · have hp' := hc.ext he
      have hvi : i < vs.length := by rw [Hv.out]; exact hlt
      have hu : vs[i]? = some vs[i] := by simp
      have hcall := Hq.out i vs[i] wr hu he
      cases hqi : q i with
      | true =>
        have Hqi := hid hqi
        clear hqi
        rw [Hqi.out] at hcall
        go_wp2_with (first | (go_at_fn fn; refine hcall.mono ?_; rintro e w1 ⟨rfl, e1⟩) | (refine wl_idxload rfl rfl rfl rfl (fun _ => rfl) rfl rfl hp' Hv.out (by omega) (by omega) ?_; intro u hu'; rw [Int.toNat_natCast, hu] at hu'; cases hu'))
        go_ret
        refine ⟨i, rfl, ⟨fun _ => anyTo_true.2 ⟨i, hlt, Hqi.out⟩, fun _ => by omega⟩, he.trans e1⟩
      | false =>
        have Hqi := hid hqi
        clear hqi
        rw [Hqi.out] at hcall
        go_wp2_with (first | (go_at_fn fn; refine hcall.mono ?_; rintro e w1 ⟨rfl, e1⟩) | (refine wl_idxload rfl rfl rfl rfl (fun _ => rfl) rfl rfl hp' Hv.out (by omega) (by omega) ?_; intro u hu'; rw [Int.toNat_natCast, hu] at hu'; cases hu'))
        go_roundw
        case rel =>
          refine ⟨i + 1, by omega, by go_num, fun j hj => ?_, he.trans e1⟩
          by_cases hji : j = i
          · subst hji; exact Hqi.out
          · exact Hall j (by omega)
        case measure => simp [intOf]; omega
    · obtain rfl : i = n := by omega
      go_wp2
      go_ret
      exact ⟨-1, rfl, by rw [anyTo_false Hall.out]; simp, he⟩
set_option maxRecDepth 100000 in
set_option maxHeartbeats 1000000 in
theorem containsFuncF32_any (fn : Nat) (cap : Array Value) (eg : ∀ args w, (callFunc fn args).run Try.prog w = .ok (.enter fn args) w) (p : Option Addr) (n c : Nat) (vs : List Value) (q : Nat → Bool) (w : World) (hv : vs.length = n) (hn : n ≤ maxLen) (hc : Cs w p vs) (hq : PredOk fn cap vs q w) :
    Calls Try.prog 146 #[.slice p n c, .func (.func fn) #[] cap] w fun e w' => e = .returned (.bool (anyTo q n)) ∧ Ext w w' := by
  have hcall := indexFuncF32_any fn cap eg p n c vs q w hv hn hc hq
  generalize anyTo q n = b at *
  clear hv hc hq eg
  go_enter Try.func146, Try.ntmps146
  go_wp2_with fail
  refine hcall.mono ?_
  rintro e w1 ⟨z, rfl, hz, he⟩
  have Hz := hid hz
  clear hz
  go_wp2
  go_ret
  refine ⟨ret_bool ?_, he⟩
  have := Hz.out
  cases b <;> simp at this <;> simp <;> omega
end Go.Proofs.Ythphfmngofbabaa
