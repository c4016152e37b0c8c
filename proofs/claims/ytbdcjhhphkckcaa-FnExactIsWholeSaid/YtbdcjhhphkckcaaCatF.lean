/- slices.Grow and slices.Concat of numbers. -/
import Derived.Test.YtbdcjhhphkckcaaCat
namespace Go.Proofs.Ytbdcjhhphkckcaa
set_option linter.unusedSimpArgs false
set_option linter.unusedVariables false
open Go.RowKit

set_option maxRecDepth 100000 in
set_option maxHeartbeats 4000000 in
theorem growF_any (n : Nat) (hn : n ≤ 16777216) (w : World) : Calls Try.prog 144 #[.slice none 0 0, .int .i64 (n : Int)] w fun e w' => ∃ q k, e = .returned (.slice q 0 k) ∧ w'.ownsRow w.heap.size 22 1 (.slice q 0 k) 0 [] ∧ Ext w w' := by
  by_cases h0 : 0 < n
  · go_enter Try.func144, Try.ntmps144
    go_wp2_with (first | ((with_reducible show wpList _ _ _ (Oper.mk _ (Op.slice _ _ _ _ _) _ _ _ _ :: _) _ _); refine wl_sliceTo (u := 0) rfl rfl rfl rfl rfl (by omega) ?_) | ((with_reducible show wpList _ _ _ (Oper.mk _ (Op.call _) _ _ _ _ :: _) _ _); refine wl_growNil (kn := .i64) (n := n) rfl rfl (by kernel_rfl) rfl rfl h0 (by unfold maxLen; omega) (by omega) ?_; intro c w1 hc own1 e1))
    go_ret
    refine ⟨_, _, rfl, ?_, e1⟩
    rw [subp0]; exact own1
  · obtain rfl : n = 0 := by omega
    go_enter Try.func144, Try.ntmps144
    go_wp2
    go_ret
    exact ⟨none, 0, rfl, ⟨rfl, .inl ⟨rfl, rfl⟩⟩, Ext.refl _⟩
set_option maxRecDepth 100000 in
set_option maxHeartbeats 4000000 in
theorem concatF_any (b : Nat) (p0 p1 : Option Addr) (n0 c0 n1 c1 : Nat) (us0 us1 : List Value) (w : World) (x0 : Cs w p0 us0) (x1 : Cs w p1 us1) (y0 : us0.length = n0) (y1 : us1.length = n1) (o0 : ∀ u ∈ us0, u.oneCell' = true) (o1 : ∀ u ∈ us1, u.oneCell' = true) (k0 : n0 ≤ c0) (k1 : n1 ≤ c1) (hn : n0 + n1 ≤ 16777216) (z0 : w.cell? ⟨b, 0, none⟩ = some (.slice p0 n0 c0)) (z1 : w.cell? ⟨b, 1, none⟩ = some (.slice p1 n1 c1)) :
    Calls Try.prog 114 #[.slice (some ⟨b, 0, none⟩) 2 2] w fun e w' => ∃ q k, e = .returned (.slice q (n0 + n1) k) ∧ w'.ownsRow w.heap.size 22 1 (.slice q (n0 + n1) k) (n0 + n1) (us0 ++ us1) ∧ Ext w w' := by
  have G := hid (fun W => growF_any (n0 + n1) hn W)
  rw [Int.natCast_add] at G
  have Y0 := hid (show us0.length = n0 * 1 by omega)
  have Y1 := hid (show us1.length = n1 * 1 by omega)
  have o0 := hid o0
  have o1 := hid o1
  clear y0 y1
  have q1 : IntKind.i64.wrap ((n0 : Int) + (n1 : Int)) = ((n0 + n1 : Nat) : Int) := by rw [← Int.natCast_add]; exact wrap_in _ (by omega) (by omega)
  go_enter Try.func114, Try.ntmps114
  go_wp2_with fail
  go_loopw [3, 11] (fun sv iv wr => ∃ (i s : Nat), ((i = 0 ∧ s = 0) ∨ (i = 1 ∧ n0 = s) ∨ (i = 2 ∧ n0 + n1 = s)) ∧ iv = .int .i64 i ∧ sv = .int .i64 (s : Nat) ∧ w = wr) (fun _ iv _ => 2 - (intOf iv).toNat)
  case atStart => exact ⟨0, 0, .inl ⟨rfl, rfl⟩, rfl, rfl, rfl⟩
  case round =>
    obtain ⟨i, s, hi, rfl, rfl, rfl⟩ := hrel
    rcases hi with ⟨rfl, rfl⟩ | ⟨rfl, rfl⟩ | ⟨rfl, rfl⟩
    · go_wp2
      go_roundw
      case rel => exact ⟨1, n0, by simp, by go_num, by go_num, by first | rfl | trivial | simp⟩
      case measure => simp [intOf]
    · go_wp2
      go_roundw
      case rel => exact ⟨2, n0 + n1, by simp, by go_num, by go_num, by first | rfl | trivial | simp⟩
      case measure => simp [intOf]
    · go_wp2_with (go_at_call 144; refine (G.out _).mono ?_; rintro e w2 ⟨q, k, rfl, own2, e2⟩)
      go_loopw [6, 27] (fun av iv wr => ∃ (i m : Nat) (us : List Value) (v : Value), ((i = 0 ∧ m = 0 ∧ us = []) ∨ (i = 1 ∧ n0 = m ∧ us0 = us) ∨ (i = 2 ∧ n0 + n1 = m ∧ us0 ++ us1 = us)) ∧ iv = .int .i64 i ∧ av = v ∧ wr.ownsRow w.heap.size 22 1 v m us ∧ Ext w wr) (fun _ iv _ => 2 - (intOf iv).toNat)
      case atStart => exact ⟨0, 0, [], _, .inl ⟨rfl, rfl, rfl⟩, rfl, rfl, own2, e2⟩
      case round =>
        clear own2 e2
        obtain ⟨i, m, us, v, hi, rfl, rfl, own3, e3⟩ := hrel
        have z2 := e3.cell z0
        have z3 := e3.cell z1
        rcases hi with ⟨rfl, rfl, rfl⟩ | ⟨rfl, rfl, rfl⟩ | ⟨rfl, rfl, rfl⟩
        · go_wp2_with ((with_reducible show wpList _ _ _ (Oper.mk _ (Op.call _) _ _ _ _ :: _) _ _); refine wl_appz rfl rfl rfl rfl own3 (x0.ext e3) Y0.out k0 o0.out (by unfold maxLen; omega) (by omega) e3.size ?_; intro v' w1 own1 g1)
          go_roundw
          case rel => exact ⟨1, _, _, _, .inr (.inl ⟨rfl, rfl, rfl⟩), by go_num, rfl, by simpa using own1, e3.grown g1 (fun kk hk => own_le own3 kk hk)⟩
          case measure => simp [intOf]
        · go_wp2_with ((with_reducible show wpList _ _ _ (Oper.mk _ (Op.call _) _ _ _ _ :: _) _ _); refine wl_appz rfl rfl rfl rfl own3 (x1.ext e3) Y1.out k1 o1.out (by unfold maxLen; omega) (by omega) e3.size ?_; intro v' w1 own1 g1)
          go_roundw
          case rel => exact ⟨2, _, _, _, .inr (.inr ⟨rfl, rfl, rfl⟩), by go_num, rfl, own1, e3.grown g1 (fun kk hk => own_le own3 kk hk)⟩
          case measure => simp [intOf]
        · go_wp2
          go_ret
          obtain ⟨q, k, rfl⟩ := own_val own3
          exact ⟨q, k, rfl, own3, e3⟩
end Go.Proofs.Ytbdcjhhphkckcaa
