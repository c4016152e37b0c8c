/- The greatest number: the reference's part. -/
import Derived.Test.YtangnigplachdaaKd
namespace Go.Proofs.Ytangnigplachdaa
set_option linter.unusedSimpArgs false
set_option linter.unusedVariables false
open Go.RowKit

set_option maxRecDepth 100000 in
set_option maxHeartbeats 1000000 in
theorem l05Greatest_any (p : Option Addr) (n c : Nat) (us : List Value) (xs : List Nat) (w : World) (hx : xs.length = n) (h1 : 1 ≤ n) (hn : n ≤ maxLen) (hp : Cs w p us) (hf : F32s us xs) :
    Calls Try.prog 97 #[.slice p n c] w fun e w' => e = .returned (.int .i64 (gi xs n)) ∧ Ext w w' := by
  unfold maxLen at hn
  have X := hid hx
  clear hx
  go_enter Try.func97, Try.ntmps97
  go_wp2
  go_loopw [3, 4] (fun kv iv wr => ∃ (i : Nat), 1 ≤ i ∧ i ≤ n ∧ iv = .int .i64 i ∧ kv = .int .i64 (gi xs i) ∧ Ext w wr) (fun _ iv _ => n - (intOf iv).toNat)
  case atStart => exact ⟨1, by omega, h1, rfl, by rw [gi_one]; rfl, Ext.refl _⟩
  case round =>
    obtain ⟨i, hi1, hi, rfl, rfl, he⟩ := hrel
    by_cases hlt : i < n
    · have hg : gi xs i < n := by have := gi_lt xs (j := i) (by omega); omega
      have hs : gi xs (i + 1) = if fgt .f32 (xs.getD i 0) (xs.getD (gi xs i) 0) then i else gi xs i := rfl
      have HS := hid hs
      clear hs
      generalize gi xs i = k at *
      have k1 := (hp.ext he).ext (Ext.drew wr)
      go_wp2
      refine wp_region_xall (F := fun _ _ _ => False) (by kernel_rfl) (by kernel_rfl) (by kernel_rfl) ?_
      intro wf hwf
      repeat (first
        | (refine x_skip rfl ?_; simp only [Act.put, ev_tmp, List.setIfInBounds_toArray, List.set_cons_succ, List.set_cons_zero, List.getD_cons_succ, List.getD_cons_zero])
        | (refine x_mv rfl rfl rfl ?_; simp only [Act.put, ev_tmp, List.setIfInBounds_toArray, List.set_cons_succ, List.set_cons_zero, List.getD_cons_succ, List.getD_cons_zero])
        | (refine x_as rfl rfl rfl ?_; simp only [Act.put, ev_tmp, List.setIfInBounds_toArray, List.set_cons_succ, List.set_cons_zero, List.getD_cons_succ, List.getD_cons_zero])
        | ((with_reducible show wpX _ _ _ _ _ _ (Oper.mk _ (Op.indexAddr _ _ _) _ _ _ _ :: Oper.mk _ (Op.load _ _) _ _ _ _ :: _) _); refine x_ldF rfl rfl (fun _ => rfl) rfl (fun _ => rfl) rfl rfl k1 hf X.out (by omega) (by omega) ?_; first | (have zz := G1; intro r2 g2; have G2 := hid g2; clear g2 zz) | (intro r1 g1; have G1 := hid g1; clear g1); simp only [Act.put, ev_tmp, List.setIfInBounds_toArray, List.set_cons_succ, List.set_cons_zero, List.getD_cons_succ, List.getD_cons_zero])
        | (refine x_run rfl fun K hK w1 hw1 => ?_; go_simp; refine hK _ ?_; clear hK K  hw1 w1))
      refine x_nil ?_
      have hW := (he.trans (Ext.drew wr)).trans hwf
      go_wp2
      all_goals go_roundw
      all_goals first
        | (case rel =>
            refine ⟨i + 1, by omega, by omega, by go_num, ?_, hW⟩
            rename_i hc
            have q1 := G1.out
            have q2 := G2.out
            simp only [Int.toNat_natCast] at q1 q2
            have hh := gt_eq r1 r2
            rw [q1, q2] at hh
            rw [HS.out]
            first
              | (rw [hc] at hh; rw [← hh]; rfl)
              | (rw [decide_eq_true hc] at hh; rw [← hh]; rfl))
        | (case measure => simp [intOf]; omega)
    · obtain rfl : i = n := by omega
      go_wp2
      go_ret
      exact ⟨rfl, he⟩
end Go.Proofs.Ytangnigplachdaa
