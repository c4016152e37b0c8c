/- ValidTraining of the reference. -/
import Derived.Test.YtbdcjhhphkckcaaVTra2
namespace Go.Proofs.Ytbdcjhhphkckcaa
set_option linter.unusedSimpArgs false
set_option linter.unusedVariables false
open Go.RowKit

set_option maxRecDepth 100000 in
set_option maxHeartbeats 1000000 in
theorem l05Is_any {sp : Option Nat} (b o : Nat) (k : Int) (w : World) (g0 : w.cell? ⟨b, o, sp⟩ = some (.int .i64 k)) : Calls Try.prog 66 #[.pointer (some ⟨b, o, sp⟩)] w fun e w' => e = .returned (.bool (inB k 0 4)) ∧ w = w' := by
  go_enter Try.func66, Try.ntmps66
  go_wp2_with (refine (l00In_any _ _ _ _).mono ?_; rintro e w' ⟨rfl, rfl⟩)
  go_ret
  exact ⟨rfl, rfl⟩
set_option maxRecDepth 100000 in
set_option maxHeartbeats 4000000 in
theorem l05Fit_any {sp : Option Nat} (b o : Nat) (k : Int) (p1 : Option Addr) (n1 c1 N : Nat) (us : List Value) (s : List (List Nat)) (w : World) (hN : N ≤ 1048576) (S1 : Slts w p1 n1 us s) (g0 : w.cell? ⟨b, o, sp⟩ = some (.int .i64 k)) :
    Calls Try.prog 125 #[.pointer (some ⟨b, o, sp⟩), .slice p1 n1 c1, .int .i64 N] w (RetB w (decide (s.length = slotN k) && s.all fun x => decide (x.length = N))) := by
  have Le1 := S1.le
  have HS := hid S1.len
  generalize hR : (decide (s.length = slotN k) && s.all fun x => decide (x.length = N)) = R
  have HR := hid hR
  clear hR
  have C := hid (fun W (h : Ext w W) => l05Slots_any b o k W (h.cell g0))
  have hsl : slotN k ≤ 2 := by unfold slotN; split <;> (try split) <;> omega
  unfold maxLen at Le1
  generalize hT : slotN k = T at *
  go_enter Try.func125, Try.ntmps125
  go_wp2
  go_loopw [7] (fun iv wr => ∃ i : Nat, i ≤ n1 ∧ iv = .int .i64 i ∧ Hid (∀ j, j < i → (s.getD j []).length = N) ∧ Ext w wr) (fun iv _ => n1 - (intOf iv).toNat)
  case atStart => exact ⟨0, by omega, rfl, hid (fun j hj => absurd hj (Nat.not_lt_zero j)), Ext.refl w⟩
  case round =>
    obtain ⟨i, hi, rfl, Hall, he⟩ := hrel
    by_cases hlt : i < n1
    · obtain ⟨pu, cu, eu, fu⟩ := S1.at' i hlt
      have ku := S1.cs.ext he
      have Hu := hid eu
      have Hv := hid S1.cnt
      obtain ⟨_, _, _, hfl, _⟩ := fu
      unfold maxLen at hfl
      clear eu
      generalize hX : (s.getD i []).length = X at *
      by_cases hx : X = N
      · have hq := bne_f (show (X : Int) = N by omega)
        have Hx := hid (hX.trans hx)
        go_wp2_with ((with_reducible show wpList _ _ _ (Oper.mk _ (Op.indexAddr _ _ _) _ _ _ _ :: Oper.mk _ (Op.load _ _) _ _ _ _ :: _) _ _); refine wl_idxload rfl rfl rfl rfl (fun _ => rfl) rfl rfl ku Hv.out (by omega) (by omega) ?_; intro u hu; rw [Int.toNat_natCast, Hu.out] at hu; cases hu)
        go_roundw
        case rel => exact ⟨i + 1, by omega, by go_num, hid fun j hj => (if hji : j = i then hji ▸ Hx.out else Hall.out j (by omega)), he⟩
        case measure => simp [intOf]; omega
      · have hq := bne_t (show ¬ (X : Int) = N by omega)
        have hr2 : R = false := by
          rw [← HR.out, not_all_len (by rw [HS.out]; exact hlt) (by rw [hX]; exact hx), Bool.and_false]
        subst hr2
        go_wp2_with ((with_reducible show wpList _ _ _ (Oper.mk _ (Op.indexAddr _ _ _) _ _ _ _ :: Oper.mk _ (Op.load _ _) _ _ _ _ :: _) _ _); refine wl_idxload rfl rfl rfl rfl (fun _ => rfl) rfl rfl ku Hv.out (by omega) (by omega) ?_; intro u hu; rw [Int.toNat_natCast, Hu.out] at hu; cases hu)
        go_ret
        exact ⟨rfl, he⟩
    · obtain rfl : i = n1 := by omega
      have hr2 : R = decide (i = T) := by
        rw [← HR.out, all_len (fun j hj => Hall.out j (by rw [HS.out] at hj; exact hj)), Bool.and_true, HS.out]
      go_wp2_with fail
      refine (C.out _ he).mono ?_
      rintro e w1 ⟨rfl, rfl⟩
      go_wp2
      go_ret
      exact ⟨ret_bool (by rw [hr2, Bool.eq_iff_iff]; simp only [beq_iff_eq, decide_eq_true_eq]; omega), he⟩
set_option maxRecDepth 100000 in
set_option maxHeartbeats 4000000 in
theorem l07IsO_any (bo oo b1 o1 : Nat) (k : Int) (p0 p1 : Option Addr) (n0 c0 n1 c1 : Nat) (x3 x4 : Int) (css : List (List Value)) (us : List Value) (l : List shLayer.T) (s : List (List Nat)) (w : World) (L1 : Lays w p0 n0 css l) (S1 : Slts w p1 n1 us s)
    (go : w.cell? ⟨bo, oo, none⟩ = some (.int .i64 k)) (g0 : w.cell? ⟨b1, o1, none⟩ = some (.slice p0 n0 c0)) (g1 : w.cell? ⟨b1, o1 + 1, none⟩ = some (.slice p1 n1 c1)) (g2 : w.cell? ⟨b1, o1 + 2, none⟩ = some (.int .i64 x3)) (g3 : w.cell? ⟨b1, o1 + 3, none⟩ = some (.int .i64 x4)) :
    Calls Try.prog 70 #[.pointer (some ⟨bo, oo, none⟩), .pointer (some ⟨b1, o1, none⟩)] w (RetB w (vtB k l s x3 x4)) := by
  have Co := hid (fun W (h : Ext w W) => l05Is_any (sp := none) bo oo k W (h.cell go))
  have Cm := hid (fun W (h : Ext w W) => l03Is_any (sp := none) b1 o1 p0 n0 c0 l css W (h.cell g0) L1.len L1.le (L1.cs.ext h) (L1.ext h).all L1.size L1.cnt)
  have Cp := hid (fun W (h : Ext w W) ht => l03Params_any (sp := none) b1 o1 p0 n0 c0 l css W (h.cell g0) L1.len L1.le (L1.cs.ext h) (L1.ext h).all L1.size L1.cnt ht)
  have Ca := hid (fun W (h : Ext w W) hN => l05Fit_any (sp := none) bo oo k p1 n1 c1 (parF l).length us s W hN (S1.ext h) (h.cell go))
  have Le0 := L1.le
  have Le1 := S1.le
  have hs := S1.len
  have hb0 := @modB_par l
  unfold maxLen at Le0 Le1
  generalize hR : vtB k l s x3 x4 = R
  unfold vtB at hR
  generalize modB l = m at *
  clear L1 S1
  cases ko : inB k 0 4
  · have KO := hid ko
    rw [ko, Bool.false_and] at hR
    clear ko hb0
    subst hR
    go_enter Try.func70, Try.ntmps70
    go_wp2_with fail
    refine (Co.out _ (Ext.refl _)).mono ?_
    rintro e w1 ⟨rfl, rfl⟩
    rw [KO.out]
    have he := Ext.refl w
    go_wp2
    go_ret
    exact ⟨ret_bool (by rfl), he⟩
  rw [ko, Bool.true_and] at hR
  have KO := hid ko
  clear ko
  cases m
  · rw [Bool.false_and] at hR
    clear hb0
    subst hR
    go_enter Try.func70, Try.ntmps70
    go_wp2_with fail
    refine (Co.out _ (Ext.refl _)).mono ?_
    rintro e w1 ⟨rfl, rfl⟩
    rw [KO.out]
    have he := Ext.refl w
    go_wp2_with fail
    refine (Cm.out _ he).mono ?_
    rintro e w2 ⟨rfl, e2⟩
    replace he := he.trans e2
    have g1a := he.cell g1
    have g2a := he.cell g2
    have g3a := he.cell g3
    have g0o := he.cell go
    go_wp2
    go_ret
    exact ⟨ret_bool (by rfl), he⟩
  rw [Bool.true_and] at hR
  have hpl := hb0 rfl
  have Cq := hid (fun W (h : Ext w W) => Cp.out W h (Nat.le_trans hpl (by decide)))
  clear Cp hb0
  cases k3 : inB x3 0 1000
  · have K3 := hid k3
    rw [k3, Bool.false_and] at hR
    clear k3
    subst hR
    go_enter Try.func70, Try.ntmps70
    go_wp2_with fail
    refine (Co.out _ (Ext.refl _)).mono ?_
    rintro e w1 ⟨rfl, rfl⟩
    rw [KO.out]
    have he := Ext.refl w
    go_wp2_with fail
    refine (Cm.out _ he).mono ?_
    rintro e w2 ⟨rfl, e2⟩
    replace he := he.trans e2
    have g1a := he.cell g1
    have g2a := he.cell g2
    have g3a := he.cell g3
    have g0o := he.cell go
    go_wp2_with fail
    refine (l00In_any _ _ _ _).mono ?_
    rintro e wz ⟨rfl, rfl⟩
    rw [K3.out]
    go_wp2
    go_ret
    exact ⟨ret_bool (by rfl), he⟩
  rw [k3, Bool.true_and] at hR
  have K3 := hid k3
  clear k3
  cases k4 : inB x4 0 2147483647
  · have K4 := hid k4
    rw [k4, Bool.false_and] at hR
    clear k4
    subst hR
    go_enter Try.func70, Try.ntmps70
    go_wp2_with fail
    refine (Co.out _ (Ext.refl _)).mono ?_
    rintro e w1 ⟨rfl, rfl⟩
    rw [KO.out]
    have he := Ext.refl w
    go_wp2_with fail
    refine (Cm.out _ he).mono ?_
    rintro e w2 ⟨rfl, e2⟩
    replace he := he.trans e2
    have g1a := he.cell g1
    have g2a := he.cell g2
    have g3a := he.cell g3
    have g0o := he.cell go
    go_wp2_with fail
    refine (l00In_any _ _ _ _).mono ?_
    rintro e wz ⟨rfl, rfl⟩
    rw [K3.out]
    go_wp2_with fail
    refine (l07Seed_any _ _).mono ?_
    rintro e wz ⟨rfl, rfl⟩
    rw [K4.out]
    go_wp2
    go_ret
    exact ⟨ret_bool (by rfl), he⟩
  rw [k4, Bool.true_and] at hR
  have K4 := hid k4
  clear k4
  generalize hPF : parF l = Pl at *
  generalize hPN : Pl.length = N at *
  by_cases h256 : N ≤ 256
  rotate_left 1
  · rw [decide_eq_false h256, Bool.false_and] at hR
    subst hR
    go_enter Try.func70, Try.ntmps70
    go_wp2_with fail
    refine (Co.out _ (Ext.refl _)).mono ?_
    rintro e w1 ⟨rfl, rfl⟩
    rw [KO.out]
    have he := Ext.refl w
    go_wp2_with fail
    refine (Cm.out _ he).mono ?_
    rintro e w2 ⟨rfl, e2⟩
    replace he := he.trans e2
    have g1a := he.cell g1
    have g2a := he.cell g2
    have g3a := he.cell g3
    have g0o := he.cell go
    go_wp2_with fail
    refine (l00In_any _ _ _ _).mono ?_
    rintro e wz ⟨rfl, rfl⟩
    rw [K3.out]
    go_wp2_with fail
    refine (l07Seed_any _ _).mono ?_
    rintro e wz ⟨rfl, rfl⟩
    rw [K4.out]
    go_wp2_with fail
    refine (Cq.out _ he).mono ?_
    rintro e w3 ⟨q, cq, vs, rfl, _, _, e3⟩
    rw [hPN]
    replace he := he.trans e3
    replace g1a := g1a
    have g1b := he.cell g1
    have gob := he.cell go
    go_wp2
    go_ret
    exact ⟨ret_bool (by rfl), he⟩
  rw [decide_eq_true h256, Bool.true_and] at hR
  rw [hR] at Ca
  clear hR
  go_enter Try.func70, Try.ntmps70
  go_wp2_with fail
  refine (Co.out _ (Ext.refl _)).mono ?_
  rintro e w1 ⟨rfl, rfl⟩
  rw [KO.out]
  have he := Ext.refl w
  go_wp2_with fail
  refine (Cm.out _ he).mono ?_
  rintro e w2 ⟨rfl, e2⟩
  replace he := he.trans e2
  have g1a := he.cell g1
  have g2a := he.cell g2
  have g3a := he.cell g3
  have g0o := he.cell go
  go_wp2_with fail
  refine (l00In_any _ _ _ _).mono ?_
  rintro e wz ⟨rfl, rfl⟩
  rw [K3.out]
  go_wp2_with fail
  refine (l07Seed_any _ _).mono ?_
  rintro e wz ⟨rfl, rfl⟩
  rw [K4.out]
  go_wp2_with fail
  refine (Cq.out _ he).mono ?_
  rintro e w3 ⟨q, cq, vs, rfl, _, _, e3⟩
  rw [hPN]
  replace he := he.trans e3
  replace g1a := g1a
  have g1b := he.cell g1
  have gob := he.cell go
  go_wp2_with fail
  refine (Ca.out _ he (Nat.le_trans h256 (by decide))).mono ?_
  rintro e w9 ⟨rfl, e9⟩
  replace he := he.trans e9
  go_wp2
  go_ret
  exact ⟨ret_bool (by first | rfl | simp), he⟩
theorem l07Is_any (bo b1 : Nat) (k : Int) (p0 p1 : Option Addr) (n0 c0 n1 c1 : Nat) (x3 x4 : Int) (css : List (List Value)) (us : List Value) (l : List shLayer.T) (s : List (List Nat)) (w : World) (L1 : Lays w p0 n0 css l) (S1 : Slts w p1 n1 us s)
    (go : w.cell? ⟨bo, 0, none⟩ = some (.int .i64 k)) (g0 : w.cell? ⟨b1, 0, none⟩ = some (.slice p0 n0 c0)) (g1 : w.cell? ⟨b1, 1, none⟩ = some (.slice p1 n1 c1)) (g2 : w.cell? ⟨b1, 2, none⟩ = some (.int .i64 x3)) (g3 : w.cell? ⟨b1, 3, none⟩ = some (.int .i64 x4)) :
    Calls Try.prog 70 #[.pointer (some ⟨bo, 0, none⟩), .pointer (some ⟨b1, 0, none⟩)] w (RetB w (vtB k l s x3 x4)) :=
  l07IsO_any bo 0 b1 0 k p0 p1 n0 c0 n1 c1 x3 x4 css us l s w L1 S1 go g0 (by simpa using g1) (by simpa using g2) (by simpa using g3)
end Go.Proofs.Ytbdcjhhphkckcaa
