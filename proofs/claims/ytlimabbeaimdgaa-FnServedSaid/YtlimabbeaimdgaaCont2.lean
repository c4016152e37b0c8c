/- slices.IndexFunc and slices.ContainsFunc on lists of lists and on integers. -/
import Derived.Test.YtlimabbeaimdgaaKb
import Derived.Test.YtlimabbeaimdgaaKa
namespace Go.Proofs.Ytlimabbeaimdgaa
set_option linter.unusedSimpArgs false
set_option linter.unusedVariables false
open Go.RowKit

set_option maxRecDepth 100000 in
set_option maxHeartbeats 1000000 in
theorem indexFuncSl_any (fn : Nat) (cap : Array Value) (eg : ∀ args w, (callFunc fn args).run Try.prog w = .ok (.enter fn args) w) (p : Option Addr) (n c : Nat) (vs : List Value) (q : Nat → Bool) (w : World) (hv : vs.length = n) (hn : n ≤ maxLen) (hc : Cs w p vs) (hq : PredOk fn cap vs q w) :
    Calls Try.prog 145 #[.slice p n c, .func (.func fn) #[] cap] w fun e w' => ∃ z : Int, e = .returned (.int .i64 z) ∧ (0 ≤ z ↔ anyTo q n = true) ∧ Ext w w' := by
  have Hv := hid hv
  have Hq := hid hq
  clear hv hq
  unfold maxLen at hn
  go_enter Try.func145, Try.ntmps145
  go_wp2
  go_loopw [8] (fun iv wr => ∃ i : Nat, i ≤ n ∧ iv = .int .i64 i ∧ Hid (∀ j, j < i → q j = false) ∧ Ext w wr) (fun iv _ => n - (intOf iv).toNat)
  case atStart => exact ⟨0, by omega, rfl, fun j hj => by omega, Ext.refl w⟩
  case round =>
    obtain ⟨i, hi, rfl, Hall, he⟩ := hrel
    by_cases hlt : i < n
    · have hp' := hc.ext he
      have hvi : i < vs.length := by rw [Hv.out]; exact hlt
      have hu : vs[i]? = some vs[i] := by simp
      have hcall := Hq.out i vs[i] wr hu he
      cases hqi : q i with
      | true =>
        have Hqi := hid hqi
        clear hqi
        rw [Hqi.out] at hcall
        go_wp2_with (first | (go_at_fn fn; refine hcall.mono ?_; rintro e w1 ⟨rfl, e1⟩) | ((with_reducible show wpList _ _ _ (Oper.mk _ (Op.indexAddr _ _ _) _ _ _ _ :: Oper.mk _ (Op.load _ _) _ _ _ _ :: _) _ _); refine wl_idxload rfl rfl rfl rfl (fun _ => rfl) rfl rfl hp' Hv.out (by omega) (by omega) ?_; intro u hu'; rw [Int.toNat_natCast, hu] at hu'; cases hu'))
        go_ret
        refine ⟨i, rfl, ⟨fun _ => anyTo_true.2 ⟨i, hlt, Hqi.out⟩, fun _ => by omega⟩, he.trans e1⟩
      | false =>
        have Hqi := hid hqi
        clear hqi
        rw [Hqi.out] at hcall
        go_wp2_with (first | (go_at_fn fn; refine hcall.mono ?_; rintro e w1 ⟨rfl, e1⟩) | ((with_reducible show wpList _ _ _ (Oper.mk _ (Op.indexAddr _ _ _) _ _ _ _ :: Oper.mk _ (Op.load _ _) _ _ _ _ :: _) _ _); refine wl_idxload rfl rfl rfl rfl (fun _ => rfl) rfl rfl hp' Hv.out (by omega) (by omega) ?_; intro u hu'; rw [Int.toNat_natCast, hu] at hu'; cases hu'))
        go_roundw
        case rel =>
          refine ⟨i + 1, by omega, by go_num, fun j hj => ?_, he.trans e1⟩
          by_cases hji : j = i
          · subst hji; exact Hqi.out
          · exact Hall j (by omega)
        case measure => simp [intOf]; omega
    · obtain rfl : i = n := by omega
      go_wp2
      go_ret
      exact ⟨-1, rfl, by rw [anyTo_false Hall.out]; simp, he⟩
set_option maxRecDepth 100000 in
set_option maxHeartbeats 1000000 in
theorem containsFuncSl_any (fn : Nat) (cap : Array Value) (eg : ∀ args w, (callFunc fn args).run Try.prog w = .ok (.enter fn args) w) (p : Option Addr) (n c : Nat) (vs : List Value) (q : Nat → Bool) (w : World) (hv : vs.length = n) (hn : n ≤ maxLen) (hc : Cs w p vs) (hq : PredOk fn cap vs q w) :
    Calls Try.prog 91 #[.slice p n c, .func (.func fn) #[] cap] w fun e w' => e = .returned (.bool (anyTo q n)) ∧ Ext w w' := by
  have hcall := indexFuncSl_any fn cap eg p n c vs q w hv hn hc hq
  generalize anyTo q n = b at *
  clear hv hc hq eg
  go_enter Try.func91, Try.ntmps91
  go_wp2_with fail
  refine hcall.mono ?_
  rintro e w1 ⟨z, rfl, hz, he⟩
  have Hz := hid hz
  clear hz
  go_wp2
  go_ret
  refine ⟨ret_bool ?_, he⟩
  have := Hz.out
  cases b <;> simp at this <;> simp <;> omega

set_option maxRecDepth 100000 in
set_option maxHeartbeats 1000000 in
theorem indexFuncInt_any (fn : Nat) (cap : Array Value) (eg : ∀ args w, (callFunc fn args).run Try.prog w = .ok (.enter fn args) w) (p : Option Addr) (n c : Nat) (vs : List Value) (q : Nat → Bool) (w : World) (hv : vs.length = n) (hn : n ≤ maxLen) (hc : Cs w p vs) (hq : PredOk fn cap vs q w) :
    Calls Try.prog 148 #[.slice p n c, .func (.func fn) #[] cap] w fun e w' => ∃ z : Int, e = .returned (.int .i64 z) ∧ (0 ≤ z ↔ anyTo q n = true) ∧ Ext w w' := by
  have Hv := hid hv
  have Hq := hid hq
  clear hv hq
  unfold maxLen at hn
  go_enter Try.func148, Try.ntmps148
  go_wp2
  go_loopw [8] (fun iv wr => ∃ i : Nat, i ≤ n ∧ iv = .int .i64 i ∧ Hid (∀ j, j < i → q j = false) ∧ Ext w wr) (fun iv _ => n - (intOf iv).toNat)
  case atStart => exact ⟨0, by omega, rfl, fun j hj => by omega, Ext.refl w⟩
  case round =>
    obtain ⟨i, hi, rfl, Hall, he⟩ := hrel
    by_cases hlt : i < n
    · have hp' := hc.ext he
      have hvi : i < vs.length := by rw [Hv.out]; exact hlt
      have hu : vs[i]? = some vs[i] := by simp
      have hcall := Hq.out i vs[i] wr hu he
      cases hqi : q i with
      | true =>
        have Hqi := hid hqi
        clear hqi
        rw [Hqi.out] at hcall
        go_wp2_with (first | (go_at_fn fn; refine hcall.mono ?_; rintro e w1 ⟨rfl, e1⟩) | ((with_reducible show wpList _ _ _ (Oper.mk _ (Op.indexAddr _ _ _) _ _ _ _ :: Oper.mk _ (Op.load _ _) _ _ _ _ :: _) _ _); refine wl_idxload rfl rfl rfl rfl (fun _ => rfl) rfl rfl hp' Hv.out (by omega) (by omega) ?_; intro u hu'; rw [Int.toNat_natCast, hu] at hu'; cases hu'))
        go_ret
        refine ⟨i, rfl, ⟨fun _ => anyTo_true.2 ⟨i, hlt, Hqi.out⟩, fun _ => by omega⟩, he.trans e1⟩
      | false =>
        have Hqi := hid hqi
        clear hqi
        rw [Hqi.out] at hcall
        go_wp2_with (first | (go_at_fn fn; refine hcall.mono ?_; rintro e w1 ⟨rfl, e1⟩) | ((with_reducible show wpList _ _ _ (Oper.mk _ (Op.indexAddr _ _ _) _ _ _ _ :: Oper.mk _ (Op.load _ _) _ _ _ _ :: _) _ _); refine wl_idxload rfl rfl rfl rfl (fun _ => rfl) rfl rfl hp' Hv.out (by omega) (by omega) ?_; intro u hu'; rw [Int.toNat_natCast, hu] at hu'; cases hu'))
        go_roundw
        case rel =>
          refine ⟨i + 1, by omega, by go_num, fun j hj => ?_, he.trans e1⟩
          by_cases hji : j = i
          · subst hji; exact Hqi.out
          · exact Hall j (by omega)
        case measure => simp [intOf]; omega
    · obtain rfl : i = n := by omega
      go_wp2
      go_ret
      exact ⟨-1, rfl, by rw [anyTo_false Hall.out]; simp, he⟩
set_option maxRecDepth 100000 in
set_option maxHeartbeats 1000000 in
theorem containsFuncInt_any (fn : Nat) (cap : Array Value) (eg : ∀ args w, (callFunc fn args).run Try.prog w = .ok (.enter fn args) w) (p : Option Addr) (n c : Nat) (vs : List Value) (q : Nat → Bool) (w : World) (hv : vs.length = n) (hn : n ≤ maxLen) (hc : Cs w p vs) (hq : PredOk fn cap vs q w) :
    Calls Try.prog 95 #[.slice p n c, .func (.func fn) #[] cap] w fun e w' => e = .returned (.bool (anyTo q n)) ∧ Ext w w' := by
  have hcall := indexFuncInt_any fn cap eg p n c vs q w hv hn hc hq
  generalize anyTo q n = b at *
  clear hv hc hq eg
  go_enter Try.func95, Try.ntmps95
  go_wp2_with fail
  refine hcall.mono ?_
  rintro e w1 ⟨z, rfl, hz, he⟩
  have Hz := hid hz
  clear hz
  go_wp2
  go_ret
  refine ⟨ret_bool ?_, he⟩
  have := Hz.out
  cases b <;> simp at this <;> simp <;> omega

end Go.Proofs.Ytlimabbeaimdgaa
