/- The forward pass: shares, the first program. -/
import Derived.Test.YtnlhahlegedlaaaFwd5
namespace Go.Proofs.Ytnlhahlegedlaaa
set_option linter.unusedSimpArgs false
set_option linter.unusedVariables false
open Go.RowKit

set_option maxRecDepth 100000 in
set_option maxHeartbeats 4000000 in
theorem exps_any (p : Option Addr) (n c : Nat) (us : List Value) (xs : List Nat) (w : World) (hx : xs.length = n) (h1 : 1 ≤ n) (hn : n ≤ 1073741824) (hp : Cs w p us) (hf : F32s us xs) :
    Calls Try.prog 215 #[.slice p n c] w fun e w' => ∃ (b : Nat) (q : Option Addr) (cq : Nat) (vs : List Value), e = .returned (.tuple #[.float .f32 b, .slice q n cq]) ∧ cn .f32 b = sM xs ∧ w'.ownsRow w.heap.size 26 1 (.slice q n cq) n vs ∧ F32s vs (tab n (sE xs)) ∧ Ext w w' := by
  have X := hid hx
  have hM : sM xs = xs.getD (gi xs n) 0 := by unfold sM; rw [hx]
  have HM := hid hM
  have hP : ∀ i, i < n → NonPos (fop .sub .f32 (xs.getD i 0) (sM xs)) := fun i hi => sE_pos (by rw [hx]; exact hi)
  have C := hid (greatestOf_any p n c us xs w hx h1 (by unfold maxLen; omega) hp hf)
  have hg := gi_lt xs (j := n) (by omega)
  clear hx hM
  generalize gi xs n = k at *
  go_enter Try.func215, Try.ntmps215
  go_wp2_with fail
  refine C.out.mono ?_
  rintro e w1 ⟨rfl, e1⟩
  have k1 := hp.ext e1
  go_wp2_with ((with_reducible show wpList _ _ _ (Oper.mk _ (Op.indexAddr _ _ _) _ _ _ _ :: Oper.mk _ (Op.load _ _) _ _ _ _ :: _) _ _); refine wl_ldF rfl rfl rfl rfl (fun _ => rfl) rfl rfl k1 hf X.out (by omega) (by omega) ?_; intro r0 g0; have G0 := hid g0; clear g0)
  have hb : cn .f32 r0 = sM xs := by have := G0.out; rw [Int.toNat_natCast] at this; rw [this, HM.out]
  have HB2 := hid hb
  clear hb
  have hstart : (w1.alloc (.cells #[] 26)).ownsRow w.heap.size 26 1 (.slice (some ⟨w1.heap.size, 0, none⟩) 0 0) 0 [] := World.ownsRow_made w1 #[] 0 e1.size (by decide) rfl
  have e0 := e1.trans (Ext.alloc w1 (.cells #[] 26))
  go_loopw [5, 16] (fun ov iv wr => ∃ (i : Nat) (vs : List Value) (q : Option Addr) (cq : Nat), i ≤ n ∧ iv = .int .i64 i ∧ ov = .slice q i cq ∧ wr.ownsRow w.heap.size 26 1 (.slice q i cq) i vs ∧ Hid (F32s vs (tab i (sE xs))) ∧ Ext w wr) (fun _ iv _ => n - (intOf iv).toNat)
  case atStart => exact ⟨0, [], _, _, by omega, rfl, rfl, hstart, F32s.nil, e0⟩
  case round =>
    clear hstart e0
    obtain ⟨i, vs, q, cq, hi, rfl, rfl, own0, HF, he⟩ := hrel
    have hB := he.size
    by_cases hlt : i < n
    · have k1 := hp.ext he
      have Hi := hid (hP i hlt)
      go_wp2_with (first | ((with_reducible show wpList _ _ _ (Oper.mk _ (Op.indexAddr _ _ _) _ _ _ _ :: Oper.mk _ (Op.load _ _) _ _ _ _ :: _) _ _); refine wl_ldF rfl rfl rfl rfl (fun _ => rfl) rfl rfl k1 hf X.out (by omega) (by omega) ?_; intro r1 g1; have G1 := hid g1; clear g1) | ((with_reducible show wpList _ _ _ (Oper.mk _ (Op.binOp _ _ _ _ _) _ _ _ _ :: _) _ _); refine wl_fop rfl rfl rfl rfl rfl ?_; intro r2 w2 e2 g2; have G2 := hid g2; clear g2))
      have hv : cn .f32 r2 = fop .sub .f32 (xs.getD i 0) (sM xs) := by rw [G2.out, G1.out, HB2.out, Int.toNat_natCast]
      have HV := hid hv
      clear hv
      refine (ExpNumber_any r2 _ (by rw [HV.out]; exact Hi.out)).mono ?_
      rintro e w3 ⟨r3, rfl, g3, e3⟩
      have hv : cn .f32 r3 = sE xs i := by rw [g3, HV.out]; rfl
      have HV3 := hid hv
      clear hv g3
      replace own0 := own_ext (own_ext own0 e2) e3
      replace he := (he.trans e2).trans e3
      have hB := he.size
      go_wp2_with ((with_reducible show wpList _ _ _ (Oper.mk _ (Op.buildSlice _ _ _) _ _ _ _ :: Oper.mk _ (Op.call _) _ _ _ _ :: _) _ _); refine wl_app1b (u := .float .f32 r3) rfl rfl rfl rfl rfl rfl rfl (fun _ => rfl) (fun _ => rfl) own0 (by unfold maxLen; omega) (by omega) (by omega) ?_; intro g c w4 own4 g4 hg4)
      go_roundw
      case rel =>
        have own5 : w4.ownsRow w.heap.size 26 1 (.slice (some ⟨g, 0, none⟩) (i + 1) c) (i + 1) (vs ++ [.float .f32 r3]) := own4
        exact ⟨i + 1, vs ++ [.float .f32 r3], _, _, by omega, by go_num, rfl, own5, by rw [Hid]; exact HF.out.push HV3.out, he.grown g4 (fun k hk => own_le own0 k hk)⟩
      case measure => simp [intOf]; omega
    · obtain rfl : n = i := by omega
      go_wp2
      go_ret2
      exact ⟨r0, q, cq, vs, rfl, HB2.out, own0, HF.out, he⟩
set_option maxRecDepth 100000 in
set_option maxHeartbeats 4000000 in
theorem softmax_any (p : Option Addr) (n c : Nat) (us : List Value) (xs : List Nat) (w : World) (hx : xs.length = n) (h1 : 1 ≤ n) (hn : n ≤ 1073741824) (hp : Cs w p us) (hf : F32s us xs) :
    Calls Try.prog 174 #[.slice p n c] w (RetFl w (softF xs)) := by
  have X := hid hx
  have C := hid (exps_any p n c us xs w hx h1 hn hp hf)
  clear hx
  go_enter Try.func174, Try.ntmps174
  go_wp2_with fail
  refine C.out.mono ?_
  rintro e w1 ⟨b, q, cq, vs, rfl, _, own0, hF, he⟩
  have HF := hid hF
  clear hF
  go_wp2_with fail
  refine (sumOf_any q n cq vs (tab n (sE xs)) _ (tab_len _ _) (by unfold maxLen; omega) (own_Cs own0) HF.out).mono ?_
  rintro e w1 ⟨r1, rfl, g1, e1⟩
  have hv : cn .f32 r1 = sumG (sE xs) n := by rw [g1]; exact sumG_congr fun i hi => tab_get _ hi
  have HV := hid hv
  clear hv g1
  replace own0 := own_ext own0 e1
  replace he := he.trans e1
  have hO : ∀ i, sO xs i = fop .quo .f32 (sE xs i) (sumG (sE xs) n) := fun i => by unfold sO; rw [X.out]
  have HO := hid hO
  clear hO
  go_wp2_with fail
  go_loopw [16] (fun iv wr => ∃ (i : Nat) (vs : List Value), i ≤ n ∧ iv = .int .i64 i ∧ wr.ownsRow w.heap.size 26 1 (.slice q n cq) n vs ∧ Hid (F32s vs (tab n (mix (sO xs) (sE xs) i))) ∧ Ext w wr) (fun iv _ => n - (intOf iv).toNat)
  case atStart => exact ⟨0, vs, by omega, rfl, own0, by rw [tab_mix0]; exact HF.out, he⟩
  case round =>
    clear own0 he HF
    obtain ⟨i, vs, hi, rfl, own0, HF, he⟩ := hrel
    have hB := he.size
    by_cases hlt : i < n
    · have k1 := own_Cs own0
      have HL := hid (tab_len n (mix (sO xs) (sE xs) i))
      have hg : (tab n (mix (sO xs) (sE xs) i)).getD i 0 = sE xs i := by rw [tab_get _ hlt]; unfold mix; rw [if_neg (by omega)]
      have HG := hid hg
      clear hg
      go_wp2_with (first | ((with_reducible show wpList _ _ _ (Oper.mk _ (Op.indexAddr _ _ _) _ _ _ _ :: Oper.mk _ (Op.load _ _) _ _ _ _ :: _) _ _); refine wl_ldF rfl rfl rfl rfl (fun _ => rfl) rfl rfl k1 HF.out HL.out (by omega) (by omega) ?_; intro r2 g2; have G2 := hid g2; clear g2) | ((with_reducible show wpList _ _ _ (Oper.mk _ (Op.binOp _ _ _ _ _) _ _ _ _ :: _) _ _); refine wl_fop rfl rfl rfl rfl rfl ?_; intro r3 w3 e3 g3; have G3 := hid g3; clear g3; replace own0 := own_ext own0 e3; replace he := he.trans e3) | ((with_reducible show wpList _ _ _ (Oper.mk _ (Op.indexAddr _ _ _) _ _ _ _ :: Oper.mk _ (Op.store _ _ _) _ _ _ _ :: _) _ _); refine wl_idxstore (u := .float .f32 r3) rfl rfl rfl rfl (fun _ => rfl) rfl rfl (fun _ => rfl) rfl own0 (by omega) (by omega) ?_; intro w4 own4 g4))
      go_roundw
      case rel =>
        refine ⟨i + 1, _, by omega, by go_num, own4, ?_, he.grown g4 (fun k hk => own_le own0 k hk)⟩
        rw [Int.toNat_natCast]
        have q2 := G2.out
        rw [Int.toNat_natCast, HG.out] at q2
        exact HF.out.put hlt (by rw [G3.out, q2, HV.out, HO.out])
      case measure => simp [intOf]; omega
    · obtain rfl : n = i := by omega
      rw [tab_mixn] at HF
      go_wp2
      go_ret
      have hS : softF xs = tab n (sO xs) := by unfold softF; rw [X.out]
      rw [hS]
      exact retFl_own (tab_len _ _) own0 HF.out rfl he
end Go.Proofs.Ytnlhahlegedlaaa
