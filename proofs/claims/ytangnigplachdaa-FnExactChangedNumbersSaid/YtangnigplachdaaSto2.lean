/- States: which can be stored, the reference. -/
import Derived.Test.YtangnigplachdaaSto
namespace Go.Proofs.Ytangnigplachdaa
set_option linter.unusedSimpArgs false
set_option linter.unusedVariables false
open Go.RowKit

set_option maxRecDepth 100000 in
set_option maxHeartbeats 4000000 in
theorem l08Is_any (b1 : Nat) (p0 p1 : Option Addr) (n0 c0 n1 c1 : Nat) (x3 x4 : Int) (css : List (List Value)) (us : List Value) (l : List shLayer.T) (s : List (List Nat)) (w : World) (L1 : Lays w p0 n0 css l) (S1 : Slts w p1 n1 us s)
    (g0 : w.cell? ⟨b1, 0, none⟩ = some (.slice p0 n0 c0)) (g1 : w.cell? ⟨b1, 1, none⟩ = some (.slice p1 n1 c1)) (g2 : w.cell? ⟨b1, 2, none⟩ = some (.int .i64 x3)) (g3 : w.cell? ⟨b1, 3, none⟩ = some (.int .i64 x4)) :
    Calls Try.prog 165 #[.pointer (some ⟨b1, 0, none⟩)] w (RetB w (stoB l s x3 x4)) := by
  have Le0 := L1.le
  have Le1 := S1.le
  have Cm := hid (fun W (h : Ext w W) => l03Is_any (sp := none) b1 0 p0 n0 c0 l css W (h.cell g0) L1.len L1.le (L1.cs.ext h) (L1.ext h).all L1.size L1.cnt)
  have Cp := hid (fun W (h : Ext w W) ht => l03Params_any (sp := none) b1 0 p0 n0 c0 l css W (h.cell g0) L1.len L1.le (L1.cs.ext h) (L1.ext h).all L1.size L1.cnt ht)
  have hs := S1.len
  have hb0 := @modB_par l
  unfold maxLen at Le0 Le1
  generalize hR : stoB l s x3 x4 = R
  unfold stoB at hR
  rw [hs] at hR
  generalize modB l = m at *
  have E0 := Ext.refl w
  cases m
  · rw [Bool.false_and] at hR
    subst hR
    clear hb0 hs
    go_enter Try.func165, Try.ntmps165
    go_wp2_with fail
    refine (Cm.out _ E0).mono ?_
    rintro e w1 ⟨rfl, e1⟩
    have x1 := e1.cell g1
    have x2 := e1.cell g2
    have x3' := e1.cell g3
    go_wp2
    go_ret
    exact ⟨rfl, E0.trans e1⟩
  rw [Bool.true_and] at hR
  by_cases h2 : n1 ≤ 4
  rotate_left 1
  · rw [decide_eq_false h2, Bool.false_and] at hR
    subst hR
    clear hb0 hs
    go_enter Try.func165, Try.ntmps165
    go_wp2_with fail
    refine (Cm.out _ E0).mono ?_
    rintro e w1 ⟨rfl, e1⟩
    have x1 := e1.cell g1
    have x2 := e1.cell g2
    have x3' := e1.cell g3
    go_wp2
    go_ret
    exact ⟨rfl, E0.trans e1⟩
  rw [decide_eq_true h2, Bool.true_and] at hR
  cases k3 : inB x3 0 1000
  · have K3 := hid k3
    rw [k3, Bool.false_and] at hR
    subst hR
    clear hb0 hs k3
    go_enter Try.func165, Try.ntmps165
    go_wp2_with fail
    refine (Cm.out _ E0).mono ?_
    rintro e w1 ⟨rfl, e1⟩
    have x1 := e1.cell g1
    have x2 := e1.cell g2
    have x3' := e1.cell g3
    go_wp2_with fail
    refine (l00In_any _ _ _ _).mono ?_
    rintro e w2 ⟨rfl, rfl⟩
    rw [K3.out]
    go_wp2
    go_ret
    exact ⟨rfl, E0.trans e1⟩
  rw [k3, Bool.true_and] at hR
  have K3 := hid k3
  clear k3
  cases k4 : inB x4 0 2147483647
  · have K4 := hid k4
    rw [k4, Bool.false_and] at hR
    subst hR
    clear hb0 hs k4
    go_enter Try.func165, Try.ntmps165
    go_wp2_with fail
    refine (Cm.out _ E0).mono ?_
    rintro e w1 ⟨rfl, e1⟩
    have x1 := e1.cell g1
    have x2 := e1.cell g2
    have x3' := e1.cell g3
    go_wp2_with fail
    refine (l00In_any _ _ _ _).mono ?_
    rintro e w2 ⟨rfl, rfl⟩
    rw [K3.out]
    go_wp2_with fail
    refine (l07Seed_any _ _).mono ?_
    rintro e w2 ⟨rfl, rfl⟩
    rw [K4.out]
    go_wp2
    go_ret
    exact ⟨rfl, E0.trans e1⟩
  rw [k4, Bool.true_and] at hR
  have K4 := hid k4
  clear k4
  have hpl := hb0 rfl
  have Cq := hid (fun W (h : Ext w W) => Cp.out W h (Nat.le_trans hpl (by decide)))
  clear Cp
  have HR := hid hR
  have HS := hid hs
  clear hb0 hR hs
  generalize hPF : parF l = P at *
  generalize hPN : P.length = N at *
  go_enter Try.func165, Try.ntmps165
  go_wp2_with fail
  refine (Cm.out _ E0).mono ?_
  rintro e w1 ⟨rfl, e1⟩
  have x1 := e1.cell g1
  have x2 := e1.cell g2
  have x3' := e1.cell g3
  go_wp2_with fail
  refine (l00In_any _ _ _ _).mono ?_
  rintro e w2 ⟨rfl, rfl⟩
  rw [K3.out]
  go_wp2_with fail
  refine (l07Seed_any _ _).mono ?_
  rintro e w2 ⟨rfl, rfl⟩
  rw [K4.out]
  go_wp2_with fail
  refine (Cq.out _ (E0.trans e1)).mono ?_
  rintro e w2 ⟨q, cq, vs, rfl, _, _, e2⟩
  rw [hPN]
  have he2 := (E0.trans e1).trans e2
  go_wp2
  go_loopw [4] (fun iv wr => ∃ i : Nat, i ≤ n1 ∧ iv = .int .i64 i ∧ Hid (∀ j, j < i → (s.getD j []).length = N) ∧ Ext w wr) (fun iv _ => n1 - (intOf iv).toNat)
  case atStart => exact ⟨0, by omega, rfl, hid (fun j hj => absurd hj (Nat.not_lt_zero j)), he2⟩
  case round =>
    obtain ⟨i, hi, rfl, Hall, he⟩ := hrel
    have y1 := he.cell g1
    by_cases hlt : i < n1
    · obtain ⟨pu, cu, eu, fu⟩ := S1.at' i hlt
      have ku := S1.cs.ext he
      have Hu := hid eu
      have Hv := hid S1.cnt
      obtain ⟨_, _, _, hfl, _⟩ := fu
      unfold maxLen at hfl
      clear eu
      generalize hX : (s.getD i []).length = X at *
      by_cases hx : X = N
      · have hq := bne_f (show (X : Int) = N by omega)
        have Hx := hid (hX.trans hx)
        go_wp2_with ((with_reducible show wpList _ _ _ (Oper.mk _ (Op.indexAddr _ _ _) _ _ _ _ :: Oper.mk _ (Op.load _ _) _ _ _ _ :: _) _ _); refine wl_idxload rfl rfl rfl rfl (fun _ => rfl) rfl rfl ku Hv.out (by omega) (by omega) ?_; intro u hu; rw [Int.toNat_natCast, Hu.out] at hu; cases hu)
        go_roundw
        case rel => exact ⟨i + 1, by omega, by go_num, hid fun j hj => (if hji : j = i then hji ▸ Hx.out else Hall.out j (by omega)), he⟩
        case measure => simp [intOf]; omega
      · have hq := bne_t (show ¬ (X : Int) = N by omega)
        have hr2 : R = false := by
          rw [← HR.out]
          exact not_all_len (by rw [HS.out]; exact hlt) (by rw [hX]; exact hx)
        subst hr2
        go_wp2_with ((with_reducible show wpList _ _ _ (Oper.mk _ (Op.indexAddr _ _ _) _ _ _ _ :: Oper.mk _ (Op.load _ _) _ _ _ _ :: _) _ _); refine wl_idxload rfl rfl rfl rfl (fun _ => rfl) rfl rfl ku Hv.out (by omega) (by omega) ?_; intro u hu; rw [Int.toNat_natCast, Hu.out] at hu; cases hu)
        go_ret
        exact ⟨rfl, he⟩
    · obtain rfl : i = n1 := by omega
      have hr2 : R = true := by
        rw [← HR.out]
        exact all_len (fun j hj => Hall.out j (by rw [HS.out] at hj; exact hj))
      subst hr2
      go_wp2
      go_ret
      exact ⟨rfl, he⟩
end Go.Proofs.Ytangnigplachdaa
