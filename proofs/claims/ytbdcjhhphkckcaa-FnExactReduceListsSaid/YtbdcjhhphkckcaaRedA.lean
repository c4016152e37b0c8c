/- Two lists added up, by the program and by the reference. -/
import Derived.Test.YtbdcjhhphkckcaaRed
import Derived.Test.YtbdcjhhphkckcaaKf
import Derived.Test.YtbdcjhhphkckcaaGrowX
namespace Go.Proofs.Ytbdcjhhphkckcaa
set_option linter.unusedSimpArgs false
set_option linter.unusedVariables false
open Go.RowKit

set_option maxRecDepth 100000 in
set_option maxHeartbeats 4000000 in
theorem addLists_any (p q : Option Addr) (n c d : Nat) (us vs : List Value) (xs ys : List Nat) (w : World) (hx : xs.length = n) (hy : ys.length = n) (hn : n ≤ 1048576) (hc : n ≤ c) (hp : Cs w p us) (hf : F32s us xs) (hq : Cs w q vs) (hg : F32s vs ys) :
    Calls Try.prog 137 #[.slice p n c, .slice q n d] w (RetFl w (addF xs ys)) := by
  have HY := hid hy
  have HX := hid hx
  have C := hid (cloneF_any p n c us xs w hx (by omega) hc hp hf)
  have Hd := hid (show addF xs ys = tab n (fun i => fop .add .f32 (xs.getD i 0) (ys.getD i 0)) from by unfold addF; rw [hx])
  have Hs := hid (show tab n (fun i => xs.getD i 0) = xs from by rw [← hx]; exact tab_selfR xs)
  obtain ⟨o, ho⟩ : ∃ o : Nat → Nat, o = fun i => fop .add .f32 (xs.getD i 0) (ys.getD i 0) := ⟨_, rfl⟩
  obtain ⟨e', he'⟩ : ∃ e : Nat → Nat, e = fun i => xs.getD i 0 := ⟨_, rfl⟩
  rw [← ho] at Hd
  rw [← he'] at Hs
  have HO := hid (fun i => show o i = fop .add .f32 (e' i) (ys.getD i 0) from by rw [ho, he'])
  clear hx hy hp hf ho he'
  go_enter Try.func137, Try.ntmps137
  go_wp2_with fail
  refine C.out.mono ?_
  rintro e w1 ⟨q1, c1, ws, rfl, own0, hF, e0⟩
  rw [HX.out] at own0 ⊢
  have HF := hid hF
  clear hF
  go_wp2_with fail
  go_loopw [12] (fun iv wr => ∃ (i : Nat) (vs' : List Value), i ≤ n ∧ iv = .int .i64 i ∧ wr.ownsRow w.heap.size 22 1 (.slice q1 n c1) n vs' ∧ Hid (F32s vs' (tab n (mix o e' i))) ∧ Ext w wr) (fun iv _ => n - (intOf iv).toNat)
  case atStart => exact ⟨0, ws, by omega, rfl, own0, by rw [tab_mix0, Hs.out]; exact HF.out, e0⟩
  case round =>
    clear own0 e0 HF
    obtain ⟨i, vs', hi, rfl, own0, HF, he⟩ := hrel
    have hB := he.size
    by_cases hlt : i < n
    · have k1 := own_Cs own0
      have k2 := hq.ext he
      have HL := hid (tab_len n (mix o e' i))
      have HG := hid (show (tab n (mix o e' i)).getD i 0 = e' i from by rw [tab_get _ hlt]; unfold mix; rw [if_neg (by omega)])
      go_wp2_with (first | ((with_reducible show wpList _ _ _ (Oper.mk _ (Op.indexAddr _ _ _) _ _ _ _ :: Oper.mk _ (Op.load _ _) _ _ _ _ :: _) _ _); refine wl_ldF rfl rfl rfl rfl (fun _ => rfl) rfl rfl k2 hg HY.out (by omega) (by omega) ?_; intro r1 g1; have G1 := hid g1; clear g1) | ((with_reducible show wpList _ _ _ (Oper.mk _ (Op.indexAddr _ _ _) _ _ _ _ :: Oper.mk _ (Op.load _ _) _ _ _ _ :: _) _ _); refine wl_ldF rfl rfl rfl rfl (fun _ => rfl) rfl rfl k1 HF.out HL.out (by omega) (by omega) ?_; intro r2 g2; have G2 := hid g2; clear g2) | ((with_reducible show wpList _ _ _ (Oper.mk _ (Op.binOp _ _ _ _ _) _ _ _ _ :: _) _ _); refine wl_fop rfl rfl rfl rfl rfl ?_; intro r3 w3 e3 g3; have G3 := hid g3; clear g3; replace own0 := own_ext own0 e3; replace he := he.trans e3) | ((with_reducible show wpList _ _ _ (Oper.mk _ (Op.indexAddr _ _ _) _ _ _ _ :: Oper.mk _ (Op.store _ _ _) _ _ _ _ :: _) _ _); refine wl_idxstore (u := .float .f32 r3) rfl rfl rfl rfl (fun _ => rfl) rfl rfl (fun _ => rfl) rfl own0 (by omega) (by omega) ?_; intro w4 own4 g4))
      go_roundw
      case rel =>
        refine ⟨i + 1, _, by omega, by go_num, own4, ?_, he.grown g4 (fun k hk => own_le own0 k hk)⟩
        rw [Int.toNat_natCast]
        have q1 := G1.out
        have q2 := G2.out
        rw [Int.toNat_natCast] at q1 q2
        rw [HG.out] at q2
        exact HF.out.put hlt (by rw [G3.out, q1, q2, HO.out])
      case measure => simp [intOf]; omega
    · obtain rfl : i = n := by omega
      rw [tab_mixn] at HF
      go_wp2
      go_ret
      rw [Hd.out]
      exact retFl_own (tab_len _ _) own0 HF.out rfl he
set_option maxRecDepth 100000 in
set_option maxHeartbeats 4000000 in
theorem l10Add_any (p q : Option Addr) (n c d : Nat) (us vs : List Value) (xs ys : List Nat) (w : World) (hx : xs.length = n) (hy : ys.length = n) (hn : n ≤ 1048576) (hp : Cs w p us) (hf : F32s us xs) (hq : Cs w q vs) (hg : F32s vs ys) :
    Calls Try.prog 134 #[.slice p n c, .slice q n d] w (RetFl w (addF xs ys)) := by
  have HY := hid hy
  have HX := hid hx
  have Hd := hid (show addF xs ys = tab n (fun i => fop .add .f32 (xs.getD i 0) (ys.getD i 0)) from by unfold addF; rw [hx])
  obtain ⟨o, ho⟩ : ∃ o : Nat → Nat, o = fun i => fop .add .f32 (xs.getD i 0) (ys.getD i 0) := ⟨_, rfl⟩
  rw [← ho] at Hd
  have HO := hid (fun i => show o i = fop .add .f32 (xs.getD i 0) (ys.getD i 0) from by rw [ho])
  have hstart : (w.alloc (.cells #[] 22)).ownsRow w.heap.size 22 1 (.slice (some ⟨w.heap.size, 0, none⟩) 0 0) 0 [] := World.ownsRow_made w #[] 0 (Nat.le_refl _) (by decide) rfl
  have e0 := Ext.alloc w (.cells #[] 22)
  clear hx hy ho
  go_enter Try.func134, Try.ntmps134
  go_wp2_with fail
  go_loopw [5, 6] (fun ov iv wr => ∃ (i : Nat) (vs' : List Value) (q1 : Option Addr) (c1 : Nat), i ≤ n ∧ iv = .int .i64 i ∧ ov = .slice q1 i c1 ∧ wr.ownsRow w.heap.size 22 1 (.slice q1 i c1) i vs' ∧ Hid (F32s vs' (tab i o)) ∧ Ext w wr) (fun _ iv _ => n - (intOf iv).toNat)
  case atStart => exact ⟨0, [], _, _, by omega, rfl, rfl, hstart, F32s.nil, e0⟩
  case round =>
    clear hstart e0
    obtain ⟨i, vs', q1, c1, hi, rfl, rfl, own0, HF, he⟩ := hrel
    by_cases hlt : i < n
    · go_wp2
      replace own0 := own_ext own0 (Ext.drew _)
      replace he := he.trans (Ext.drew _)
      have k1 := hp.ext he
      have k2 := hq.ext he
      refine wp_region_xt 11 (F := fun _ _ _ => True) (by kernel_rfl) (by kernel_rfl) (by kernel_rfl) (by kernel_rfl) (by kernel_rfl) ?_
      intro wf hwf
      simp only [List.take_succ_cons, List.take_zero, List.drop_succ_cons, List.drop_zero]
      repeat (first
        | (refine x_skip rfl ?_; simp only [Act.put, ev_tmp, List.setIfInBounds_toArray, List.set_cons_succ, List.set_cons_zero, List.getD_cons_succ, List.getD_cons_zero])
        | (refine x_mv rfl rfl rfl ?_; simp only [Act.put, ev_tmp, List.setIfInBounds_toArray, List.set_cons_succ, List.set_cons_zero, List.getD_cons_succ, List.getD_cons_zero])
        | (refine x_as rfl rfl rfl ?_; simp only [Act.put, ev_tmp, List.setIfInBounds_toArray, List.set_cons_succ, List.set_cons_zero, List.getD_cons_succ, List.getD_cons_zero])
        | ((with_reducible show wpX _ _ _ _ _ _ (Oper.mk _ (Op.indexAddr _ _ _) _ _ _ _ :: Oper.mk _ (Op.load _ _) _ _ _ _ :: _) _); refine x_ldF rfl rfl (fun _ => rfl) rfl (fun _ => rfl) rfl rfl k1 hf HX.out (by omega) (by omega) ?_; intro r1 g1; have G1 := hid g1; clear g1; simp only [Act.put, ev_tmp, List.setIfInBounds_toArray, List.set_cons_succ, List.set_cons_zero, List.getD_cons_succ, List.getD_cons_zero])
        | ((with_reducible show wpX _ _ _ _ _ _ (Oper.mk _ (Op.indexAddr _ _ _) _ _ _ _ :: Oper.mk _ (Op.load _ _) _ _ _ _ :: _) _); refine x_ldF rfl rfl (fun _ => rfl) rfl (fun _ => rfl) rfl rfl k2 hg HY.out (by omega) (by omega) ?_; intro r2 g2; have G2 := hid g2; clear g2; simp only [Act.put, ev_tmp, List.setIfInBounds_toArray, List.set_cons_succ, List.set_cons_zero, List.getD_cons_succ, List.getD_cons_zero])
        | ((with_reducible show wpX _ _ _ _ _ _ (Oper.mk _ (Op.binOp _ _ _ _ _) _ _ _ _ :: _) _); refine x_fop rfl rfl rfl rfl rfl ?_; intro r3 g3; have G3 := hid g3; clear g3; simp only [Act.put, ev_tmp, List.setIfInBounds_toArray, List.set_cons_succ, List.set_cons_zero, List.getD_cons_succ, List.getD_cons_zero])
        | (refine x_build1 (u := .float .f32 r3) rfl rfl rfl rfl ?_; intro g5 hg5 hg6 hg7; simp only [Act.put, ev_tmp, List.setIfInBounds_toArray, List.set_cons_succ, List.set_cons_zero, List.getD_cons_succ, List.getD_cons_zero])
        | (refine x_run rfl fun K hK w1 hw1 => ?_; go_simp; refine hK _ ?_; clear hK K  hw1 w1))
      refine x_nil ?_
      replace own0 := own_ext own0 hwf
      replace he := he.trans hwf
      have hB := he.size
      go_wp2_with ((with_reducible show wpList _ _ _ (Oper.mk _ (Op.call _) _ _ _ _ :: _) _ _); refine wl_app1s rfl rfl rfl rfl own0 hg7 rfl (fun u hu => by simp [Value.cells] at hu; subst hu; rfl) (by unfold maxLen; omega) (by omega) (by omega) ?_; intro g c w4 own4 g4 hg4)
      go_roundw
      case rel =>
        have own5 : w4.ownsRow w.heap.size 22 1 (.slice (some ⟨g, 0, none⟩) (i + 1) c) (i + 1) (vs' ++ [.float .f32 r3]) := own4
        have q1 := G1.out
        have q2 := G2.out
        rw [Int.toNat_natCast] at q1 q2
        exact ⟨i + 1, vs' ++ [.float .f32 r3], _, _, by omega, by go_num, rfl, own5, by rw [Hid]; exact HF.out.push (by rw [G3.out, q1, q2, HO.out]), he.grown g4 (fun k hk => own_le own0 k hk)⟩
      case measure => simp [intOf]; omega
    · obtain rfl : i = n := by omega
      go_wp2
      go_ret
      rw [Hd.out]
      exact retFl_own (tab_len _ _) own0 HF.out rfl he
end Go.Proofs.Ytbdcjhhphkckcaa
