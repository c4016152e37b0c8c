/- The law FnExactWorkerRows answers true at every input. -/
import Derived.Test.YtmcafdcabbighaaWRows2
namespace Go.Proofs.Ytmcafdcabbighaa.lWr
set_option linter.unusedSimpArgs false
set_option linter.unusedVariables false
open Go.RowKit

theorem wrR_tot (r k : Int) : tot (.sl (.sl .int)) (wrR r k).1 ≤ 1048576 := by
  unfold wrR
  split
  · rename_i h
    have h1 := inB_true.1 h.2
    have : ∀ n, tot (.sl (.sl .int)) (wrRows r.toNat k.toNat n) = 3 * n := by
      intro n
      induction n with
      | zero => rfl
      | succ n ih =>
        rw [wrRows_succ]
        rw [tot_sl] at ih ⊢
        rw [List.length_append, List.map_append, List.sum_append]
        simp only [List.length_cons, List.length_nil, List.map_cons, List.map_nil, List.sum_cons, List.sum_nil]
        rw [tot_ints]
        simp only [List.length_cons, List.length_nil]
        omega
    rw [this]; omega
  · decide
set_option maxRecDepth 100000 in
set_option maxHeartbeats 1000000 in
theorem law_any (r k : Int) (w : World) : Calls Try.prog 8 #[.int .i64 r, .int .i64 k] w fun e w' => e = .returned (.bool true) ∧ Ext w w' := by
  have hbd : tot shInt64SS (wrR r k).1 ≤ 1048576 := wrR_tot r k
  have Cs0 := specWorkerRows_any r k
  have Ci0 := WorkerRows_any r k
  generalize wrR r k = r at *
  obtain ⟨D, ok⟩ := r
  simp only at hbd
  have hmk := (mkV_bd shInt64SS (by decide) D 1).1
  go_enter Try.func8, Try.ntmps8
  go_wp2_with fail
  refine (Cs0 _).mono ?_
  rintro e w1 ⟨c1, b1, rfl, o1, n1, l1, e1⟩
  go_wp2_with fail
  refine (Ci0 _).mono ?_
  rintro e w2 ⟨c2, b2, rfl, o2, n2, l2, e2⟩
  go_wp2_with fail
  refine (eqInt64SS_ok c2 c1 D _ o2.rep (o1.rep.ext e2) hbd).mono ?_
  rintro e w3 ⟨rfl, e3⟩
  go_wp2_with fail
  refine (markInt64SS_ok c2 D b2 1 _ (o2.ext e3) n2 (by omega) (by omega)).mono ?_
  rintro e w4 ⟨rfl, o4, ch4⟩
  have hd : ∀ b ∈ b1, ¬ b ∈ b2 := fun b hb h => by have := o1.lt b hb; have := l2 b h; omega
  have o1' := ((o1.ext e2).ext e3).chg ch4 hd
  have e4 : Ext w w4 := ((e1.trans e2).trans e3).chg ch4 fun b hb => Nat.le_trans e1.size (l2 b hb)
  go_wp2_with fail
  refine (heldInt64SS_ok c2 D 1 _ o4.rep (by omega) (by omega)).mono ?_
  rintro e w5 ⟨rfl, e5⟩
  generalize hK : (mkV shInt64SS D 1).2 = K at *
  have HK := hid hK
  clear hK
  go_wp2_with fail
  refine (Ci0 _).mono ?_
  rintro e w6 ⟨c6, b6, rfl, o6, n6, l6, e6⟩
  go_wp2_with fail
  refine (eqInt64SS_ok c6 c1 D _ o6.rep ((o1'.rep.ext e5).ext e6) hbd).mono ?_
  rintro e w7 ⟨rfl, e7⟩
  go_wp2_with fail
  refine (heldInt64SS_ok c2 D 1 _ (((o4.rep.ext e5).ext e6).ext e7) (by omega) (by omega)).mono ?_
  rintro e w8 ⟨rfl, e8⟩
  rw [HK.out]
  go_wp2
  go_ret
  exact ⟨rfl, (((e4.trans e5).trans e6).trans e7).trans e8⟩

end Go.Proofs.Ytmcafdcabbighaa.lWr
