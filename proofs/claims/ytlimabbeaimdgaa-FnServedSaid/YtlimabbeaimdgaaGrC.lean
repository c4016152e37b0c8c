/- GreatestColumns of the program; tensors that are drawn. -/
import Derived.Test.YtlimabbeaimdgaaDr5
import Derived.Test.YtlimabbeaimdgaaGrt
import Derived.Test.YtlimabbeaimdgaaKf
import Derived.Test.YtlimabbeaimdgaaKc
namespace Go.Proofs.Ytlimabbeaimdgaa
set_option linter.unusedSimpArgs false
set_option linter.unusedVariables false
open Go.RowKit

def bests (xs : List Nat) (M R : Nat) : List Int := (List.range R).map fun r => ((gi (rowT xs M r) M : Nat) : Int)
theorem bests_succ (xs : List Nat) (M r : Nat) : bests xs M (r + 1) = bests xs M r ++ [((gi (rowT xs M r) M : Nat) : Int)] := by simp [bests, List.range_succ]
theorem bests_len (xs : List Nat) (M r : Nat) : (bests xs M r).length = r := by simp [bests]
set_option maxRecDepth 100000 in
set_option maxHeartbeats 4000000 in
theorem GreatestColumns_any (R M cq : Nat) (q : Option Addr) (us : List Value) (xs : List Nat) (w : World) (hR : 1 ≤ R ∧ R ≤ 16) (hM : 1 ≤ M ∧ M ≤ 16) (hx : xs.length = R * M) (hc : Cs w q us) (hf : F32s us xs) (hcq : R * M ≤ cq) (hcm : cq ≤ maxLen) :
    Calls Try.prog 42 #[.agg #[.int .i64 R, .int .i64 M, .slice q (R * M) cq]] w fun e w' => ∃ q' c', e = .returned (.tuple #[.slice q' R c', .bool true]) ∧ Cs w' q' ((bests xs M R).map (Value.int .i64)) ∧ Ext w w' := by
  have hmx : R * M ≤ 16 * 16 := Nat.mul_le_mul hR.2 hM.2
  have hT : tenB R M (R * M) = true := by
    unfold tenB
    rw [inB_true.2 (show (1 : Int) ≤ R ∧ (R : Int) ≤ 16 by omega), inB_true.2 (show (1 : Int) ≤ M ∧ (M : Int) ≤ 16 by omega)]
    simp
  obtain ⟨W0, hW0⟩ : ∃ W0, W0 = w.alloc (.cells #[.int .i64 R, .int .i64 M, .slice q (R * M) cq] 57) := ⟨_, rfl⟩
  have E0 : Ext w W0 := by rw [hW0]; exact Ext.alloc _ _
  have b0 : HB W0 w.heap.size #[.int .i64 R, .int .i64 M, .slice q (R * M) cq] 57 := by rw [hW0]; exact HB.new _ _ _
  have CV := ValidTensor_any (R : Int) (M : Int) q (R * M) cq W0 (by unfold maxLen; omega)
  rw [hT] at CV
  have HX := hid hx
  have CR := hid (fun i (hi : i < R) W => row_any R M i (R * M) cq q W hi hR.2 hM.2 rfl hcq)
  have CG := hid (fun i (hi : i < R) W (h : Ext w W) => greatestOf_any (subp q 1 (i * M) cq) M (cq - i * M) _ (rowT xs M i) W (rowT_len hx hi) hM.1 (by unfold maxLen; omega) ((row_cs (hc.ext h) (Nat.le_trans (row_le hi) hcq)) ) (hf.part _ _))
  clear hx hT
  generalize hRM : R * M = RM at *
  have z0 := b0.lt
  have r0 := b0.cell 0 rfl; have r1 := b0.cell 1 rfl; have r2 := b0.cell 2 rfl
  go_enter Try.func42, Try.ntmps42
  go_wp2_with fail
  rw [← hW0]
  clear hW0
  refine CV.mono ?_
  rintro e w1 ⟨rfl, e1⟩
  have r0 := e1.cell r0; have r1 := e1.cell r1; have r2 := e1.cell r2
  have E1 := E0.trans e1
  have hst : (w1.alloc (.cells #[] 2)).ownsRow w1.heap.size 2 1 (.slice (some ⟨w1.heap.size, 0, none⟩) 0 0) 0 [] := World.ownsRow_made w1 #[] 0 (Nat.le_refl _) (by decide) rfl
  have e2 := Ext.alloc w1 (.cells #[] 2)
  have q0 := e2.cell r0
  go_wp2
  go_loopw [4, 12] (fun ov iv wr => ∃ (i : Nat) (q' : Option Addr) (c' : Nat), i ≤ R ∧ iv = .int .i64 i ∧ ov = .slice q' i c' ∧ wr.ownsRow w1.heap.size 2 1 (.slice q' i c') i ((bests xs M i).map (Value.int .i64)) ∧ Ext w1 wr) (fun _ iv _ => R - (intOf iv).toNat)
  case atStart => exact ⟨0, _, _, by omega, rfl, rfl, hst, e2⟩
  case round =>
    clear hst e2 q0
    obtain ⟨i, q', c', hi, rfl, rfl, own0, he⟩ := hrel
    have hB := he.size
    by_cases hlt : i < R
    · have m0 := he.cell r0; have m1 := he.cell r1; have m2 := he.cell r2
      have C1 := CR.out i hlt
      have C2 := CG.out i hlt
      have Hs := hid (bests_succ xs M i)
      generalize gi (rowT xs M i) M = g at *
      go_wp2_with fail
      refine (C1 wr).mono ?_
      rintro e w2 ⟨rfl, e2⟩
      go_wp2_with fail
      refine (C2 w2 ((E1.trans he).trans e2)).mono ?_
      rintro e w3 ⟨rfl, e3⟩
      have own1 := own_ext own0 (e2.trans e3)
      have hz := (he.trans (e2.trans e3)).size
      go_wp2_with ((with_reducible show wpList _ _ _ (Oper.mk _ (Op.buildSlice _ _ _) _ _ _ _ :: Oper.mk _ (Op.call _) _ _ _ _ :: _) _ _); refine wl_app1b (u := .int .i64 (g : Int)) rfl rfl rfl rfl rfl rfl rfl (fun _ => rfl) (fun _ => rfl) own1 (by unfold maxLen; omega) (by omega) (by omega) ?_; intro g9 c9 w9 own9 gr9 hg9)
      go_roundw
      case rel =>
        have own9 : w9.ownsRow w1.heap.size 2 1 (.slice (some ⟨g9, 0, none⟩) (i + 1) c9) (i + 1) ((bests xs M (i + 1)).map (Value.int .i64)) := by
          rw [Hs.out, List.map_append]; exact own9
        exact ⟨i + 1, _, _, by omega, by go_num, rfl, own9, (he.trans (e2.trans e3)).grown gr9 (fun k hk => own_le own1 k hk)⟩
      case measure => simp [intOf]; omega
    · obtain rfl : R = i := by omega
      go_wp2
      go_ret2
      exact ⟨q', c', rfl, own_Cs own0, E1.trans he⟩
set_option maxRecDepth 100000 in
set_option maxHeartbeats 4000000 in
theorem l02DrawSized_any (sb K R C : Nat) (w : World) (h : DrAt w sb K) (hR : R ≤ 16) (hC : C ≤ 16) (hK : K ≤ 1000000) : Calls Try.prog 89 #[.pointer (some ⟨sb, 0, none⟩), .int .i64 R, .int .i64 C] w fun e w' => ∃ (xs : List Nat) (q : Option Addr) (c : Nat) (vs : List Value), e = .returned (.agg #[.int .i64 R, .int .i64 C, .slice q (R * C) c]) ∧ xs.length = R * C ∧ (∀ x ∈ xs, x < 4294967296) ∧ w'.ownsRow w.heap.size 49 1 (.slice q (R * C) c) (R * C) vs ∧ F32s vs xs ∧ DrAt w' sb (K + 10000) ∧ Chg (fun b => b = sb) w w' := by
  have hlt0 := h.lt
  have hRC : R * C ≤ 16 * 16 := Nat.mul_le_mul hR hC
  obtain ⟨W0, hW0⟩ : ∃ W0, W0 = w.alloc (.cells #[.int .i64 0, .int .i64 0, .slice none 0 0] 57) := ⟨_, rfl⟩
  have E0 : Ext w W0 := by rw [hW0]; exact Ext.alloc _ _
  have b0 : HB W0 w.heap.size #[.int .i64 0, .int .i64 0, .slice none 0 0] 57 := by rw [hW0]; exact HB.new _ _ _
  have hm : IntKind.i64.wrap ((R : Int) * (C : Int)) = ((R * C : Nat) : Int) := by rw [← Int.natCast_mul]; exact wrap_in _ (by omega) (by omega)
  have H0 := h.ext E0
  have z0 := b0.lt
  generalize hRM : R * C = RM at *
  go_enter Try.func89, Try.ntmps89
  go_wp2_with fail
  rw [← hW0]
  clear hW0
  refine (drFloats_any sb K RM W0 H0 (by omega) (by omega)).mono ?_
  rintro e w1 ⟨xs, hx, hxb, ⟨q, c, vs, rfl, ho, hf⟩, S1, c1⟩
  rw [hx] at ho ⊢
  have B1 := b0.chg c1 (fun hh => by omega)
  have n0 := B1.froz 0; have n1 := B1.froz 1; have n2 := B1.froz 2
  have y0 := B1.cell 0 rfl; have y1 := B1.cell 1 rfl; have y2 := B1.cell 2 rfl
  have HX := hid hx
  clear hx
  go_wp2
  have Z7 : HB (((w1.setCell ⟨w.heap.size, 0, none⟩ (.int .i64 R)).setCell ⟨w.heap.size, 1, none⟩ (.int .i64 C)).setCell ⟨w.heap.size, 2, none⟩ (.slice q RM c)) w.heap.size #[.int .i64 R, .int .i64 C, .slice q RM c] 57 := ((B1.set 0 _).set 1 _).set 2 _
  have C7 : Chg (fun b => b = w.heap.size) w1 (((w1.setCell ⟨w.heap.size, 0, none⟩ (.int .i64 R)).setCell ⟨w.heap.size, 1, none⟩ (.int .i64 C)).setCell ⟨w.heap.size, 2, none⟩ (.slice q RM c)) := ((chg_cell _ _ 0 _).trans (chg_cell _ _ 1 _)).trans (chg_cell _ _ 2 _)
  clear n0 n1 n2 y0 y1 y2
  generalize (((w1.setCell ⟨w.heap.size, 0, none⟩ (.int .i64 R)).setCell ⟨w.heap.size, 1, none⟩ (.int .i64 C)).setCell ⟨w.heap.size, 2, none⟩ (.slice q RM c)) = W7 at *
  have y0 := Z7.cell 0 rfl; have y1 := Z7.cell 1 rfl; have y2 := Z7.cell 2 rfl
  refine bodyPost_ret (v := .agg #[.int .i64 R, .int .i64 C, .slice q RM c]) (by simp [results, Try.results89, go_sem, y0, y1, y2]) rfl ?_
  exact ⟨xs, q, c, vs, rfl, HX.out, hxb, own_base (ownsRow_chg ho C7 (fun k hk hs => by have hs : k = _ := hs; have := own_le ho k hk; omega)) (by omega), hf, (S1.chg C7 (fun b hb => by have hb : b = _ := hb; omega)).mono (by omega), ((Chg.of_ext (S := fun b => b = sb) E0).trans c1).late C7 (fun b hb => by left; have hb : b = _ := hb; omega)⟩
end Go.Proofs.Ytlimabbeaimdgaa
