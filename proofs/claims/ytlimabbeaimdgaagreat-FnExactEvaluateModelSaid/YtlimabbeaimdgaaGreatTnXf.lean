/- The reference's parts of tensors. -/
import Derived.Test.YtlimabbeaimdgaaGreatTnX
set_option linter.unusedSimpArgs false
set_option linter.unusedVariables false
namespace Go.Proofs.YtlimabbeaimdgaaGreat
open Go.RowKit
set_option maxRecDepth 100000 in
set_option maxHeartbeats 4000000 in
theorem l02Slice_any {sp : Option Nat} (bt ot C a k n cp : Nat) (q0 : Option Addr) (us : List Value) (xs : List Nat) (w : World) (t1 : w.cell? ⟨bt, ot + 1, none⟩ = some (.int .i64 (C : Int))) (t2 : w.cell? ⟨bt, ot + 2, none⟩ = some (.slice q0 n cp)) (hC : C ≤ 16) (hk : (a + k) ≤ 16) (hn : (a + k) * C ≤ n) (hcp : n ≤ cp) (hx : xs.length = n) (hp : Cs w q0 us) (hf : F32s us xs) :
 Calls Tryz.prog 52 #[.pointer (some ⟨bt, ot, sp⟩), .int .i64 (a : Int), .int .i64 (k : Int)] w (RetTen w k C ((xs.take ((a + k) * C)).drop (a * C))) := by
 have hle : a * C ≤ (a + k) * C := Nat.mul_le_mul_right C (by omega)
 have h256 : (a + k) * C ≤ 256 := Nat.mul_le_mul hk hC
 have hsub := hp.sub (s := 1) (l := a * C) (hi := (a + k) * C) (c := cp) hle (by omega)
 simp only [Nat.mul_one] at hsub
 have hl : ((xs.take ((a + k) * C)).drop (a * C)).length = (a + k) * C - a * C := by simp [hx]; omega
 have K := hid (fun W (h : Ext w W) => l02Own_any (subp q0 1 (a * C) cp) ((a + k) * C - a * C) (cp - a * C) _ ((xs.take ((a + k) * C)).drop (a * C)) W hl (by omega) (by omega) (hsub.ext h) (hf.part _ _))
 have q1 : IntKind.i64.wrap ((a : Int) * C) = ((a * C : Nat) : Int) := by rw [← Int.natCast_mul]; exact wrap_in _ (by omega) (by omega)
 have q2 : IntKind.i64.wrap ((a : Int) + k) = ((a + k : Nat) : Int) := by rw [← Int.natCast_add]; exact wrap_in _ (by omega) (by omega)
 have q3 : IntKind.i64.wrap (IntKind.i64.wrap ((a : Int) + k) * C) = (((a + k) * C : Nat) : Int) := by rw [q2, ← Int.natCast_mul]; exact wrap_in _ (by omega) (by omega)
 have q4 : IntKind.i64.wrap (((a + k : Nat) : Int) * C) = (((a + k) * C : Nat) : Int) := by rw [← Int.natCast_mul]; exact wrap_in _ (by omega) (by omega)
 have q5 : IntKind.i64.wrap (((a : Int) + k) * C) = (((a + k) * C : Nat) : Int) := by rw [← Int.natCast_add, ← Int.natCast_mul]; exact wrap_in _ (by omega) (by omega)
 generalize (xs.take ((a + k) * C)).drop (a * C) = part at *
 generalize hA : a * C = A at *
 generalize hB : (a + k) * C = B at *
 have h6 : B ≤ cp := by omega
 obtain ⟨W0, hW0⟩ : ∃ W0, W0 = w.alloc (.cells #[.int .i64 0, .int .i64 0, .slice none 0 0] 37) := ⟨_, rfl⟩
 have E0 : Ext w W0 := by rw [hW0]; exact Ext.alloc _ _
 have b1 : HB W0 w.heap.size #[.int .i64 0, .int .i64 0, .slice none 0 0] 37 := by rw [hW0]; exact HB.new _ _ _
 have e1 := Ext.drew W0
 have d1 := e1.cell (E0.cell t1)
 have d2 := e1.cell (E0.cell t2)
 obtain ⟨F, hF⟩ : ∃ F : Option Tmp → World → Value → Prop, F = fun _ w' u => IsFl w.heap.size part w' u := ⟨_, rfl⟩
 have HF := hid hF
 have HL := hid hl
 clear hA hB hF hp hf t1 t2 hx hl hsub hn
 go_enter Tryz.func52, Tryz.ntmps52
 go_wp2
 rw [← hW0]
 clear hW0
 refine wp_region_xt 26 (F := F) (by kernel_rfl) (by kernel_rfl) (by kernel_rfl) (by kernel_rfl) (by kernel_rfl) ?_
 intro wf hwf
 simp only [List.take_succ_cons, List.take_zero, List.drop_succ_cons, List.drop_zero]
 repeat (first
  | (refine x_skip rfl ?_; simp only [Act.put, ev_tmp, pu1, pu2, pu3, pu4, pu5])
  | (refine x_mv rfl rfl rfl ?_; simp only [Act.put, ev_tmp, pu1, pu2, pu3, pu4, pu5])
  | (refine x_as rfl rfl rfl ?_; simp only [Act.put, ev_tmp, pu1, pu2, pu3, pu4, pu5])
  | ((with_reducible show wpX _ _ _ _ _ _ (Oper.mk _ (Op.slice _ _ _ _ _) _ _ _ _ :: _) _); refine x_slice (l := A) (u := B) rfl rfl rfl rfl rfl (by first | rfl | exact q1) (by first | rfl | exact q3 | exact q4 | exact q5) hle h6 ?_; simp only [Act.put, ev_tmp, pu1, pu2, pu3, pu4, pu5])
  | ((with_reducible show wpX _ _ _ _ _ _ (Oper.mk _ (Op.call _) _ _ _ _ :: _) _); refine x_callf (f := 77) (args := #[.slice (subp q0 1 A cp) (B - A) (cp - A)]) rfl rfl Tryz.func77 rfl (by kernel_rfl) ?_ ?_ ?_; (focus (simp [Act.eval]; done)); (focus (intro w1 hw1; exact (by rw [HF.out]; exact calls_fl (E0.trans (e1.trans hw1)) (K.out w1 (E0.trans (e1.trans hw1)))))); rintro u w3 e3 e4 hu; simp only [HF.out] at hu; obtain ⟨p5, c5, vs5, rfl, ho5, hf5⟩ := hu; have HO := hid (own_ext ho5 e4); have HV := hid hf5; clear ho5 hf5; simp only [Act.put, ev_tmp, pu1, pu2, pu3, pu4, pu5])
  | (refine x_run rfl fun K hK w1 hw1 => ?_; have k0 := hw1.cell (d1); have k1 := hw1.cell (d2); go_simp; refine hK _ ?_; clear hK K k0 k1 hw1 w1))
 refine x_nil ?_
 have eW := e1.trans hwf
 have b2 := b1.ext eW
 have n0 := b2.cell 0 rfl; have n1 := b2.cell 1 rfl; have n2 := b2.cell 2 rfl
 have m0 := b2.froz 0; have m1 := b2.froz 1; have m2 := b2.froz 2
 clear d1 d2 q1 q2 q3 q4 q5
 go_wp2
 refine bodyPost_ret (v := .agg #[.int .i64 k, .int .i64 C, .slice p5 part.length c5]) (by simp [results, Tryz.results52, go_sem, n0, n1, n2, m0, m1, m2]) rfl ?_
 exact RetTen.of rfl (ownsRow_chg HO.out (S := fun k => k = w.heap.size) (by (repeat (first | with_reducible exact Chg.refl _ _ | (with_reducible exact Chg.of_ext (by with_reducible assumption)) | with_reducible assumption | ((with_reducible refine Chg.setCell ?_ ?_ _); rotate_left; focus (first | (simp; done) | (simp; omega))) | (with_reducible refine Chg.alloc ?_ _) | (with_reducible refine Chg.drew ?_) | (with_reducible refine Chg.trans ?_ (Chg.of_ext (by with_reducible assumption)))))) (fun k hk hs => own_neHB HO.out b2 (by decide) k hk hs)) HV.out rfl ((E0.trans eW).chg (S := fun k => k = w.heap.size) (by (repeat (first | with_reducible exact Chg.refl _ _ | (with_reducible exact Chg.of_ext (by with_reducible assumption)) | with_reducible assumption | ((with_reducible refine Chg.setCell ?_ ?_ _); rotate_left; focus (first | (simp; done) | (simp; omega))) | (with_reducible refine Chg.alloc ?_ _) | (with_reducible refine Chg.drew ?_) | (with_reducible refine Chg.trans ?_ (Chg.of_ext (by with_reducible assumption)))))) (fun k hk => by omega))
end Go.Proofs.YtlimabbeaimdgaaGreat
