/- The law FnExactEntriesOf answers true at every input. -/
import Derived.Test.YtmcafdcabbighaaEnt3
import Derived.Test.YtmcafdcabbighaaThings
namespace Go.Proofs.Ytmcafdcabbighaa.lEntriesOf
set_option linter.unusedSimpArgs false
set_option linter.unusedVariables false
open Go.RowKit

set_option maxRecDepth 100000 in
set_option maxHeartbeats 1000000 in
theorem law_any (a0 : ByteArray) (w : World)  (f0 : Fit .str a0) : Calls Try.prog 10 #[.string a0] w fun e w' => e = .returned (.bool true) ∧ Ext w w' := by
  have e0 := Ext.refl w
  obtain ⟨N0, hN0⟩ : ∃ N0, N0 = w.heap.size := ⟨_, rfl⟩
  have s := Nat.le_of_eq hN0
  go_enter Try.func10, Try.ntmps10
  by_cases hbig0 : 1048576 < a0.size
  · go_wp2_with fail
    go_ret
    exact ⟨rfl, e0⟩
  go_wp2_with fail
  refine (spec_ok a0 _  f0).mono ?_
  rintro e w1 ⟨c1_0, b1_0, rfl, o1_0, nd1_0, lo1_0, e1⟩
  have hbr0 := res_bd a0  f0
  have K := hid (fun W => impl_ok a0 W)
  generalize res a0 = r at *
  obtain ⟨R0, R1⟩ := r
  dsimp only at hbr0 o1_0
  have m1 := s
  have sz1 := Ext.size e1
  have lt1_0 := Own.lt o1_0
  replace e0 := e0.trans (e1)
  replace s := Nat.le_trans s (Ext.size (e1))
  clear e1
  obtain ⟨N1, hN1⟩ : ∃ N, N = w1.heap.size := ⟨_, rfl⟩
  rw [← hN1] at sz1 lt1_0
  have s := Nat.le_of_eq hN1
  obtain ⟨p_c1_0, q_c1_0, rfl, hm_c1_0⟩ := rep_val o1_0.rep
  simp only [ofCs, Sh.agg, List.headD_cons, Bool.false_eq_true, if_false]
  go_wp2_with fail
  refine (K.out  _  f0).mono ?_
  rintro e w2 ⟨c2_0, b2_0, rfl, o2_0, nd2_0, lo2_0, e2⟩
  dsimp only at o2_0
  have m2 := s
  have sz2 := Ext.size e2
  have lt2_0 := Own.lt o2_0
  replace e0 := e0.trans (e2)
  replace s := Nat.le_trans s (Ext.size (e2))
  replace o1_0 := o1_0.ext (e2)
  clear e2
  obtain ⟨N2, hN2⟩ : ∃ N, N = w2.heap.size := ⟨_, rfl⟩
  rw [← hN2] at sz2 lt2_0
  have s := Nat.le_of_eq hN2
  obtain ⟨p_c2_0, q_c2_0, rfl, hm_c2_0⟩ := rep_val o2_0.rep
  simp only [ofCs, Sh.agg, List.headD_cons, Bool.false_eq_true, if_false]
  go_wp2_with fail
  refine (eqStringS_ok [.slice p_c2_0 (List.length R0) q_c2_0] [.slice p_c1_0 (List.length R0) q_c1_0] R0 _ (o2_0.rep) (o1_0.rep) hbr0).mono ?_
  rintro e w3 ⟨rfl, e3⟩
  replace e0 := e0.trans (e3)
  replace s := Nat.le_trans s (Ext.size (e3))
  replace o1_0 := o1_0.ext (e3)
  replace o2_0 := o2_0.ext (e3)
  clear e3
  go_wp2_with fail
  have mb4 := mkV_bd (.sl .str) (by decide) R0 1
  refine (markStringS_ok [.slice p_c2_0 (List.length R0) q_c2_0] R0 b2_0 1 _ o2_0 nd2_0 (by omega) (by omega)).mono ?_
  rintro e w4 ⟨rfl, o4m, ch4⟩
  replace e0 := e0.chg ch4 fun b hb => by have := lo2_0 b hb; omega
  replace s := Nat.le_trans s (Chg.size ch4)
  replace o1_0 := o1_0.chg ch4 (fun b hb h => by have := lo1_0 b hb; have := lt1_0 b hb; have := lo2_0 b h; have := lt2_0 b h; omega)
  clear o2_0 ch4
  obtain ⟨k4, hk4⟩ : ∃ k, k = (mkV (.sl .str) R0 1).2 := ⟨_, rfl⟩
  rw [← hk4] at mb4 ⊢
  have HK4 := hid hk4
  clear hk4
  go_wp2_with fail
  refine (heldStringS_ok [.slice p_c2_0 (List.length R0) q_c2_0] R0 1 _ o4m.rep (by omega) (by omega)).mono ?_
  rintro e w5 ⟨rfl, e5⟩
  replace e0 := e0.trans (e5)
  replace s := Nat.le_trans s (Ext.size (e5))
  replace o1_0 := o1_0.ext (e5)
  replace o4m := o4m.ext (e5)
  clear e5
  rw [← HK4.out]
  go_wp2_with fail
  refine (K.out  _  f0).mono ?_
  rintro e w6 ⟨c6_0, b6_0, rfl, o6_0, nd6_0, lo6_0, e6⟩
  dsimp only at o6_0
  have m6 := s
  have sz6 := Ext.size e6
  have lt6_0 := Own.lt o6_0
  replace e0 := e0.trans (e6)
  replace s := Nat.le_trans s (Ext.size (e6))
  replace o1_0 := o1_0.ext (e6)
  replace o4m := o4m.ext (e6)
  clear e6
  obtain ⟨N6, hN6⟩ : ∃ N, N = w6.heap.size := ⟨_, rfl⟩
  rw [← hN6] at sz6 lt6_0
  have s := Nat.le_of_eq hN6
  obtain ⟨p_c6_0, q_c6_0, rfl, hm_c6_0⟩ := rep_val o6_0.rep
  simp only [ofCs, Sh.agg, List.headD_cons, Bool.false_eq_true, if_false]
  go_wp2_with fail
  refine (eqStringS_ok [.slice p_c6_0 (List.length R0) q_c6_0] [.slice p_c1_0 (List.length R0) q_c1_0] R0 _ (o6_0.rep) (o1_0.rep) hbr0).mono ?_
  rintro e w7 ⟨rfl, e7⟩
  replace e0 := e0.trans (e7)
  replace s := Nat.le_trans s (Ext.size (e7))
  replace o1_0 := o1_0.ext (e7)
  replace o4m := o4m.ext (e7)
  replace o6_0 := o6_0.ext (e7)
  clear e7
  go_wp2_with fail
  refine (heldStringS_ok [.slice p_c2_0 (List.length R0) q_c2_0] R0 1 _ o4m.rep (by omega) (by omega)).mono ?_
  rintro e w8 ⟨rfl, e8⟩
  replace e0 := e0.trans (e8)
  replace s := Nat.le_trans s (Ext.size (e8))
  replace o1_0 := o1_0.ext (e8)
  replace o4m := o4m.ext (e8)
  replace o6_0 := o6_0.ext (e8)
  clear e8
  rw [← HK4.out]
  go_wp2
  go_ret
  exact ⟨rfl, e0⟩
end Go.Proofs.Ytmcafdcabbighaa.lEntriesOf
