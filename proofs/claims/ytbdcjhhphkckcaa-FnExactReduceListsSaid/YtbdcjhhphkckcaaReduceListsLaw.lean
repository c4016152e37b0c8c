/- The law FnExactReduceLists answers true at every input. -/
import Derived.Test.YtbdcjhhphkckcaaRLst
import Derived.Test.YtbdcjhhphkckcaaKb
import Derived.Test.YtbdcjhhphkckcaaKf
import Derived.Test.YtbdcjhhphkckcaaFldW
namespace Go.Proofs.Ytbdcjhhphkckcaa.lReduceLists
set_option linter.unusedSimpArgs false
set_option linter.unusedVariables false
open Go.RowKit

set_option maxRecDepth 100000 in
set_option maxHeartbeats 1000000 in
theorem law_any (a0 : Int) (cs1 : List Value) (D1 : Sh.T shFloat32SS) (w : World) (h1 : Rep w shFloat32SS cs1 D1) (f0 : Fit .int a0) (f1 : Fit shFloat32SS D1) : Calls Try.prog 7 #[.int .i64 a0, ofCs shFloat32SS cs1] w fun e w' => e = .returned (.bool true) ∧ Ext w w' := by
  have hl1 := hid h1.size
  have ho1 := hid h1.one
  obtain ⟨p1, q1, rfl, hm1⟩ := rep_val h1
  rw [show ofCs shFloat32SS [.slice p1 (List.length D1) q1] = .slice p1 (List.length D1) q1 from rfl]
  have e0 := Ext.refl w
  obtain ⟨N0, hN0⟩ : ∃ N0, N0 = w.heap.size := ⟨_, rfl⟩
  have s := Nat.le_of_eq hN0
  have r1 := h1
  go_enter Try.func7, Try.ntmps7
  go_wp2_with fail
  refine (szFloat32SS_ok [.slice p1 (List.length D1) q1] D1 1048576 _ r1 (by omega) (by omega)).mono ?_
  rintro e w1 ⟨⟨s1, rfl, hs1⟩, e1⟩
  replace e0 := e0.trans (e1)
  replace s := Nat.le_trans s (Ext.size (e1))
  replace r1 := h1.ext e0
  clear e1
  by_cases hn1 : s1 < 0
  · go_wp2
    go_ret
    exact ⟨rfl, e0⟩
  have hb1 : tot shFloat32SS D1 ≤ 1048576 := by rcases hs1 with h | h; exact absurd h hn1; omega
  have hz1 : 0 ≤ s1 := by omega
  have ht1 : s1 ≤ 1048576 := by rcases hs1 with h | h; exact absurd h hn1; omega
  clear hs1
  go_wp2_with fail
  refine (toFloat32SS_ok [.slice p1 (List.length D1) q1] D1 _ r1 hb1).mono ?_
  rintro e w2 ⟨c2, b2, rfl, o2, nd2, lo2, e2⟩
  have m2 := s
  have sz2 := Ext.size e2
  have lt2 := Own.lt o2
  replace e0 := e0.trans (e2)
  replace s := Nat.le_trans s (Ext.size (e2))
  replace r1 := h1.ext e0
  clear e2
  obtain ⟨N2, hN2⟩ : ∃ N, N = w2.heap.size := ⟨_, rfl⟩
  rw [← hN2] at sz2 lt2
  have s := Nat.le_of_eq hN2
  obtain ⟨p_c2, q_c2, rfl, hm_c2⟩ := rep_val o2.rep
  simp only [ofCs, Sh.agg, List.headD_cons, Bool.false_eq_true, if_false]
  go_wp2_with fail
  refine (spec_ok a0 [.slice p_c2 (List.length D1) q_c2] D1 _ o2.rep f0 f1).mono ?_
  rintro e w3 ⟨c3_0, b3_0, rfl, o3_0, nd3_0, lo3_0, e3⟩
  have hbr0 := res_bd a0 D1 hb1 f0 f1
  have K := hid (fun y1 W => impl_ok a0 y1 D1 W)
  generalize res a0 D1 = r at *
  obtain ⟨R0, R1⟩ := r
  dsimp only at hbr0 o3_0
  have m3 := s
  have sz3 := Ext.size e3
  have lt3_0 := Own.lt o3_0
  replace e0 := e0.trans (e3)
  replace s := Nat.le_trans s (Ext.size (e3))
  replace o2 := o2.ext (e3)
  replace r1 := h1.ext e0
  clear e3
  obtain ⟨N3, hN3⟩ : ∃ N, N = w3.heap.size := ⟨_, rfl⟩
  rw [← hN3] at sz3 lt3_0
  have s := Nat.le_of_eq hN3
  obtain ⟨p_c3_0, q_c3_0, rfl, hm_c3_0⟩ := rep_val o3_0.rep
  simp only [ofCs, Sh.agg, List.headD_cons, Bool.false_eq_true, if_false]
  go_wp2_with fail
  refine (toFloat32SS_ok [.slice p1 (List.length D1) q1] D1 _ r1 hb1).mono ?_
  rintro e w4 ⟨c4, b4, rfl, o4, nd4, lo4, e4⟩
  have m4 := s
  have sz4 := Ext.size e4
  have lt4 := Own.lt o4
  replace e0 := e0.trans (e4)
  replace s := Nat.le_trans s (Ext.size (e4))
  replace o2 := o2.ext (e4)
  replace o3_0 := o3_0.ext (e4)
  replace r1 := h1.ext e0
  clear e4
  obtain ⟨N4, hN4⟩ : ∃ N, N = w4.heap.size := ⟨_, rfl⟩
  rw [← hN4] at sz4 lt4
  have s := Nat.le_of_eq hN4
  obtain ⟨p_c4, q_c4, rfl, hm_c4⟩ := rep_val o4.rep
  simp only [ofCs, Sh.agg, List.headD_cons, Bool.false_eq_true, if_false]
  go_wp2_with fail
  refine (K.out [.slice p_c4 (List.length D1) q_c4] _ o4.rep f0 f1).mono ?_
  rintro e w5 ⟨c5_0, b5_0, rfl, o5_0, nd5_0, lo5_0, e5⟩
  dsimp only at o5_0
  have m5 := s
  have sz5 := Ext.size e5
  have lt5_0 := Own.lt o5_0
  replace e0 := e0.trans (e5)
  replace s := Nat.le_trans s (Ext.size (e5))
  replace o2 := o2.ext (e5)
  replace o3_0 := o3_0.ext (e5)
  replace o4 := o4.ext (e5)
  replace r1 := h1.ext e0
  clear e5
  obtain ⟨N5, hN5⟩ : ∃ N, N = w5.heap.size := ⟨_, rfl⟩
  rw [← hN5] at sz5 lt5_0
  have s := Nat.le_of_eq hN5
  obtain ⟨p_c5_0, q_c5_0, rfl, hm_c5_0⟩ := rep_val o5_0.rep
  simp only [ofCs, Sh.agg, List.headD_cons, Bool.false_eq_true, if_false]
  go_wp2_with fail
  refine (eqFloat32S_ok [.slice p_c5_0 (List.length R0) q_c5_0] [.slice p_c3_0 (List.length R0) q_c3_0] R0 _ (o5_0.rep) (o3_0.rep) hbr0).mono ?_
  rintro e w6 ⟨rfl, e6⟩
  replace e0 := e0.trans (e6)
  replace s := Nat.le_trans s (Ext.size (e6))
  replace o2 := o2.ext (e6)
  replace o3_0 := o3_0.ext (e6)
  replace o4 := o4.ext (e6)
  replace o5_0 := o5_0.ext (e6)
  replace r1 := h1.ext e0
  clear e6
  go_wp2_with fail
  refine (toFloat32SS_ok [.slice p1 (List.length D1) q1] D1 _ r1 hb1).mono ?_
  rintro e w7 ⟨c7, b7, rfl, o7, nd7, lo7, e7⟩
  have m7 := s
  have sz7 := Ext.size e7
  have lt7 := Own.lt o7
  replace e0 := e0.trans (e7)
  replace s := Nat.le_trans s (Ext.size (e7))
  replace o2 := o2.ext (e7)
  replace o3_0 := o3_0.ext (e7)
  replace o4 := o4.ext (e7)
  replace o5_0 := o5_0.ext (e7)
  replace r1 := h1.ext e0
  clear e7
  obtain ⟨N7, hN7⟩ : ∃ N, N = w7.heap.size := ⟨_, rfl⟩
  rw [← hN7] at sz7 lt7
  have s := Nat.le_of_eq hN7
  obtain ⟨p_c7, q_c7, rfl, hm_c7⟩ := rep_val o7.rep
  simp only [ofCs, Sh.agg, List.headD_cons, Bool.false_eq_true, if_false]
  go_wp2_with fail
  refine (eqFloat32SS_ok [.slice p_c4 (List.length D1) q_c4] [.slice p_c7 (List.length D1) q_c7] D1 _ (o4.rep) (o7.rep) hb1).mono ?_
  rintro e w8 ⟨rfl, e8⟩
  replace e0 := e0.trans (e8)
  replace s := Nat.le_trans s (Ext.size (e8))
  replace o2 := o2.ext (e8)
  replace o3_0 := o3_0.ext (e8)
  replace o4 := o4.ext (e8)
  replace o5_0 := o5_0.ext (e8)
  replace o7 := o7.ext (e8)
  replace r1 := h1.ext e0
  clear e8
  go_wp2_with fail
  have mb9 := mkV_bd shFloat32SS (by decide) D1 1
  refine (markFloat32SS_ok [.slice p_c4 (List.length D1) q_c4] D1 b4 1 _ o4 nd4 (by omega) (by omega)).mono ?_
  rintro e w9 ⟨rfl, o9m, ch9⟩
  replace e0 := e0.chg ch9 fun b hb => by have := lo4 b hb; omega
  replace s := Nat.le_trans s (Chg.size ch9)
  replace o2 := o2.chg ch9 (fun b hb h => by have := lo2 b hb; have := lt2 b hb; have := lo4 b h; have := lt4 b h; omega)
  replace o3_0 := o3_0.chg ch9 (fun b hb h => by have := lo3_0 b hb; have := lt3_0 b hb; have := lo4 b h; have := lt4 b h; omega)
  replace o5_0 := o5_0.chg ch9 (fun b hb h => by have := lo5_0 b hb; have := lt5_0 b hb; have := lo4 b h; have := lt4 b h; omega)
  replace o7 := o7.chg ch9 (fun b hb h => by have := lo7 b hb; have := lt7 b hb; have := lo4 b h; have := lt4 b h; omega)
  replace r1 := h1.ext e0
  clear o4 ch9
  obtain ⟨k9, hk9⟩ : ∃ k, k = (mkV shFloat32SS D1 1).2 := ⟨_, rfl⟩
  rw [← hk9] at mb9 ⊢
  have HK9 := hid hk9
  clear hk9
  go_wp2_with fail
  refine (eqFloat32S_ok [.slice p_c5_0 (List.length R0) q_c5_0] [.slice p_c3_0 (List.length R0) q_c3_0] R0 _ (o5_0.rep) (o3_0.rep) hbr0).mono ?_
  rintro e w10 ⟨rfl, e10⟩
  replace e0 := e0.trans (e10)
  replace s := Nat.le_trans s (Ext.size (e10))
  replace o2 := o2.ext (e10)
  replace o3_0 := o3_0.ext (e10)
  replace o5_0 := o5_0.ext (e10)
  replace o7 := o7.ext (e10)
  replace o9m := o9m.ext (e10)
  replace r1 := h1.ext e0
  clear e10
  go_wp2_with fail
  have mb11 := mkV_bd (.sl .flt) (by decide) R0 1
  refine (markFloat32S_ok [.slice p_c5_0 (List.length R0) q_c5_0] R0 b5_0 1 _ o5_0 nd5_0 (by omega) (by omega)).mono ?_
  rintro e w11 ⟨rfl, o11m, ch11⟩
  replace e0 := e0.chg ch11 fun b hb => by have := lo5_0 b hb; omega
  replace s := Nat.le_trans s (Chg.size ch11)
  replace o2 := o2.chg ch11 (fun b hb h => by have := lo2 b hb; have := lt2 b hb; have := lo5_0 b h; have := lt5_0 b h; omega)
  replace o3_0 := o3_0.chg ch11 (fun b hb h => by have := lo3_0 b hb; have := lt3_0 b hb; have := lo5_0 b h; have := lt5_0 b h; omega)
  replace o7 := o7.chg ch11 (fun b hb h => by have := lo7 b hb; have := lt7 b hb; have := lo5_0 b h; have := lt5_0 b h; omega)
  replace o9m := o9m.chg ch11 (fun b hb h => by have := lo4 b hb; have := lt4 b hb; have := lo5_0 b h; have := lt5_0 b h; omega)
  replace r1 := h1.ext e0
  clear o5_0 ch11
  obtain ⟨k11, hk11⟩ : ∃ k, k = (mkV (.sl .flt) R0 1).2 := ⟨_, rfl⟩
  rw [← hk11] at mb11 ⊢
  have HK11 := hid hk11
  clear hk11
  go_wp2_with fail
  refine (heldFloat32S_ok [.slice p_c5_0 (List.length R0) q_c5_0] R0 1 _ o11m.rep (by omega) (by omega)).mono ?_
  rintro e w12 ⟨rfl, e12⟩
  replace e0 := e0.trans (e12)
  replace s := Nat.le_trans s (Ext.size (e12))
  replace o2 := o2.ext (e12)
  replace o3_0 := o3_0.ext (e12)
  replace o7 := o7.ext (e12)
  replace o9m := o9m.ext (e12)
  replace o11m := o11m.ext (e12)
  replace r1 := h1.ext e0
  clear e12
  rw [← HK11.out]
  go_wp2_with fail
  refine (toFloat32SS_ok [.slice p1 (List.length D1) q1] D1 _ r1 hb1).mono ?_
  rintro e w13 ⟨c13, b13, rfl, o13, nd13, lo13, e13⟩
  have m13 := s
  have sz13 := Ext.size e13
  have lt13 := Own.lt o13
  replace e0 := e0.trans (e13)
  replace s := Nat.le_trans s (Ext.size (e13))
  replace o2 := o2.ext (e13)
  replace o3_0 := o3_0.ext (e13)
  replace o7 := o7.ext (e13)
  replace o9m := o9m.ext (e13)
  replace o11m := o11m.ext (e13)
  replace r1 := h1.ext e0
  clear e13
  obtain ⟨N13, hN13⟩ : ∃ N, N = w13.heap.size := ⟨_, rfl⟩
  rw [← hN13] at sz13 lt13
  have s := Nat.le_of_eq hN13
  obtain ⟨p_c13, q_c13, rfl, hm_c13⟩ := rep_val o13.rep
  simp only [ofCs, Sh.agg, List.headD_cons, Bool.false_eq_true, if_false]
  go_wp2_with fail
  refine (K.out [.slice p_c13 (List.length D1) q_c13] _ o13.rep f0 f1).mono ?_
  rintro e w14 ⟨c14_0, b14_0, rfl, o14_0, nd14_0, lo14_0, e14⟩
  dsimp only at o14_0
  have m14 := s
  have sz14 := Ext.size e14
  have lt14_0 := Own.lt o14_0
  replace e0 := e0.trans (e14)
  replace s := Nat.le_trans s (Ext.size (e14))
  replace o2 := o2.ext (e14)
  replace o3_0 := o3_0.ext (e14)
  replace o7 := o7.ext (e14)
  replace o9m := o9m.ext (e14)
  replace o11m := o11m.ext (e14)
  replace o13 := o13.ext (e14)
  replace r1 := h1.ext e0
  clear e14
  obtain ⟨N14, hN14⟩ : ∃ N, N = w14.heap.size := ⟨_, rfl⟩
  rw [← hN14] at sz14 lt14_0
  have s := Nat.le_of_eq hN14
  obtain ⟨p_c14_0, q_c14_0, rfl, hm_c14_0⟩ := rep_val o14_0.rep
  simp only [ofCs, Sh.agg, List.headD_cons, Bool.false_eq_true, if_false]
  go_wp2_with fail
  refine (eqFloat32S_ok [.slice p_c14_0 (List.length R0) q_c14_0] [.slice p_c3_0 (List.length R0) q_c3_0] R0 _ (o14_0.rep) (o3_0.rep) hbr0).mono ?_
  rintro e w15 ⟨rfl, e15⟩
  replace e0 := e0.trans (e15)
  replace s := Nat.le_trans s (Ext.size (e15))
  replace o2 := o2.ext (e15)
  replace o3_0 := o3_0.ext (e15)
  replace o7 := o7.ext (e15)
  replace o9m := o9m.ext (e15)
  replace o11m := o11m.ext (e15)
  replace o13 := o13.ext (e15)
  replace o14_0 := o14_0.ext (e15)
  replace r1 := h1.ext e0
  clear e15
  go_wp2_with fail
  refine (heldFloat32S_ok [.slice p_c5_0 (List.length R0) q_c5_0] R0 1 _ o11m.rep (by omega) (by omega)).mono ?_
  rintro e w16 ⟨rfl, e16⟩
  replace e0 := e0.trans (e16)
  replace s := Nat.le_trans s (Ext.size (e16))
  replace o2 := o2.ext (e16)
  replace o3_0 := o3_0.ext (e16)
  replace o7 := o7.ext (e16)
  replace o9m := o9m.ext (e16)
  replace o11m := o11m.ext (e16)
  replace o13 := o13.ext (e16)
  replace o14_0 := o14_0.ext (e16)
  replace r1 := h1.ext e0
  clear e16
  rw [← HK11.out]
  go_wp2
  go_ret
  exact ⟨rfl, e0⟩
end Go.Proofs.Ytbdcjhhphkckcaa.lReduceLists
