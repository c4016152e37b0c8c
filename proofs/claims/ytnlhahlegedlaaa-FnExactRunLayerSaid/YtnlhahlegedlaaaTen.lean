/- Tensors: which are valid. -/
import Derived.Test.YtnlhahlegedlaaaInt
import Derived.Test.YtnlhahlegedlaaaHTensor
import Derived.IntWalk
namespace Go.Proofs.Ytnlhahlegedlaaa
set_option linter.unusedSimpArgs false
set_option linter.unusedVariables false
open Go.RowKit

def RetB (w : World) (b : Bool) (e : Ending) (w' : World) : Prop := e = .returned (.bool b) ∧ Ext w w'
/-- Which tensors are valid. -/
def tenB (r c : Int) (n : Nat) : Bool := inB r 1 16 && inB c 1 16 && decide ((n : Int) = r * c)

set_option maxRecDepth 100000 in
set_option maxHeartbeats 1000000 in
theorem l02Shape_any (a b : Int) (w : World) : Calls Try.prog 204 #[.int .i64 a, .int .i64 b] w fun e w' => e = .returned (.bool (inB a 1 16 && inB b 1 16)) ∧ w = w' := by
  cases h1 : inB a 1 16 <;> cases h2 : inB b 1 16
  all_goals
    have H1 := hid h1
    have H2 := hid h2
    clear h1 h2
    go_enter Try.func204, Try.ntmps204
    go_wp2_with (refine (l00In_any _ _ _ _).mono ?_; rintro e w1 ⟨rfl, rfl⟩; first | rw [H1.out] | rw [H2.out])
    go_ret
    exact ⟨rfl, rfl⟩

theorem wrap_in (x : Int) (h0 : -9223372036854775808 ≤ x) (h1 : x ≤ 9223372036854775807) : IntKind.i64.wrap x = x := IntWalk.i64_in _ (by omega)
theorem calls_same {P : Program} {f : Nat} {xs : Array Value} {w : World} {v : Value} (h : Calls P f xs w fun e w' => e = .returned v ∧ w = w') : Calls P f xs w fun e w3 => ∃ u, e = .returned u ∧ Ext w w3 ∧ u = v :=
  h.mono fun e w3 h => ⟨v, h.1, h.2 ▸ Ext.refl _, rfl⟩
theorem calls_retB {P : Program} {f : Nat} {xs : Array Value} {w : World} {b : Bool} (h : Calls P f xs w (RetB w b)) : Calls P f xs w fun e w3 => ∃ u, e = .returned u ∧ Ext w w3 ∧ u = .bool b :=
  h.mono fun e w3 h => ⟨_, h.1, h.2, rfl⟩

set_option maxRecDepth 100000 in
set_option maxHeartbeats 1000000 in
theorem l02Is_any {sp : Option Nat} (bl o : Nat) (r c : Int) (p : Option Addr) (n cp : Nat) (w : World) (c0 : w.cell? ⟨bl, o, sp⟩ = some (.int .i64 r)) (c1 : w.cell? ⟨bl, o + 1, none⟩ = some (.int .i64 c)) (c2 : w.cell? ⟨bl, o + 2, none⟩ = some (.slice p n cp)) (hn : n ≤ maxLen) :
    Calls Try.prog 149 #[.pointer (some ⟨bl, o, sp⟩)] w (RetB w (tenB r c n)) := by
  unfold maxLen at hn
  have d0 := (Ext.drew w).cell c0
  have d1 := (Ext.drew w).cell c1
  have d2 := (Ext.drew w).cell c2
  clear c0 c1 c2
  cases h1 : (inB r 1 16 && inB c 1 16)
  · have hb : tenB r c n = false := by simp [tenB, h1]
    have H1 := hid h1
    rw [hb]
    clear h1 hb
    go_enter Try.func149, Try.ntmps149
    go_wp2
    refine wp_region_xall (F := fun _ _ u => u = .bool false) (by kernel_rfl) (by kernel_rfl) (by kernel_rfl) ?_
    intro wf hwf
    repeat (first
      | (refine x_skip rfl ?_; simp only [Act.put, ev_tmp, List.setIfInBounds_toArray, List.set_cons_succ, List.set_cons_zero, List.getD_cons_succ, List.getD_cons_zero])
      | (refine x_mv rfl rfl rfl ?_; simp only [Act.put, ev_tmp, List.setIfInBounds_toArray, List.set_cons_succ, List.set_cons_zero, List.getD_cons_succ, List.getD_cons_zero])
      | (refine x_as rfl rfl rfl ?_; simp only [Act.put, ev_tmp, List.setIfInBounds_toArray, List.set_cons_succ, List.set_cons_zero, List.getD_cons_succ, List.getD_cons_zero])
      | ((with_reducible show wpX _ _ _ _ _ _ (Oper.mk _ (Op.call _) _ _ _ _ :: _) _); refine x_callf (f := 204) (args := #[.int .i64 r, .int .i64 c]) rfl rfl Try.func204 rfl (by kernel_rfl) ?_ ?_ ?_; (focus (simp [Act.eval]; done)); (focus (intro w1 hw1; exact (by have h := l02Shape_any r c w1; rw [H1.out] at h; exact calls_same h))); rintro u w3 e3 e4 rfl; simp only [Act.put, ev_tmp, List.setIfInBounds_toArray, List.set_cons_succ, List.set_cons_zero, List.getD_cons_succ, List.getD_cons_zero])
      | (refine x_run rfl fun K hK w1 hw1 => ?_; have k0 := hw1.cell (d0); have k1 := hw1.cell (d1); have k2 := hw1.cell (d2); go_simp; refine hK _ ?_; clear hK K k0 k1 k2 hw1 w1))
    refine x_nil ?_
    go_wp2
    go_ret
    exact ⟨rfl, (Ext.drew w).trans hwf⟩
  · have h2 := h1
    rw [Bool.and_eq_true, inB_true, inB_true] at h2
    have H1 := hid h1
    have hb : tenB r c n = decide ((n : Int) = r * c) := by simp [tenB, h1]
    rw [hb]
    have hm : r * c ≤ 256 := by have := Int.mul_le_mul h2.1.2 h2.2.2 (by omega) (by decide); omega
    have hm0 : 0 ≤ r * c := Int.mul_nonneg (by omega) (by omega)
    clear h1 hb
    go_enter Try.func149, Try.ntmps149
    go_wp2
    refine wp_region_xall (F := fun _ _ u => u = .bool true) (by kernel_rfl) (by kernel_rfl) (by kernel_rfl) ?_
    intro wf hwf
    repeat (first
      | (refine x_skip rfl ?_; simp only [Act.put, ev_tmp, List.setIfInBounds_toArray, List.set_cons_succ, List.set_cons_zero, List.getD_cons_succ, List.getD_cons_zero])
      | (refine x_mv rfl rfl rfl ?_; simp only [Act.put, ev_tmp, List.setIfInBounds_toArray, List.set_cons_succ, List.set_cons_zero, List.getD_cons_succ, List.getD_cons_zero])
      | (refine x_as rfl rfl rfl ?_; simp only [Act.put, ev_tmp, List.setIfInBounds_toArray, List.set_cons_succ, List.set_cons_zero, List.getD_cons_succ, List.getD_cons_zero])
      | ((with_reducible show wpX _ _ _ _ _ _ (Oper.mk _ (Op.call _) _ _ _ _ :: _) _); refine x_callf (f := 204) (args := #[.int .i64 r, .int .i64 c]) rfl rfl Try.func204 rfl (by kernel_rfl) ?_ ?_ ?_; (focus (simp [Act.eval]; done)); (focus (intro w1 hw1; exact (by have h := l02Shape_any r c w1; rw [H1.out] at h; exact calls_same h))); rintro u w3 e3 e4 rfl; simp only [Act.put, ev_tmp, List.setIfInBounds_toArray, List.set_cons_succ, List.set_cons_zero, List.getD_cons_succ, List.getD_cons_zero])
      | (refine x_run rfl fun K hK w1 hw1 => ?_; have k0 := hw1.cell (d0); have k1 := hw1.cell (d1); have k2 := hw1.cell (d2); go_simp; refine hK _ ?_; clear hK K k0 k1 k2 hw1 w1))
    refine x_nil ?_
    go_wp2
    go_ret
    exact ⟨ret_bool (a := ((n : Int) == IntKind.i64.wrap (r * c))) (by rw [wrap_in _ (by omega) (by omega)]; rfl), (Ext.drew w).trans hwf⟩

set_option maxRecDepth 100000 in
set_option maxHeartbeats 1000000 in
theorem ValidTensor_any (r c : Int) (p : Option Addr) (n cp : Nat) (w : World) (hn : n ≤ maxLen) :
    Calls Try.prog 132 #[.agg #[.int .i64 r, .int .i64 c, .slice p n cp]] w (RetB w (tenB r c n)) := by
  unfold maxLen at hn
  cases h1 : inB r 1 16
  · have hb : tenB r c n = false := by simp [tenB, h1]
    have H1 := hid h1
    rw [hb]
    clear h1 hb
    go_enter Try.func132, Try.ntmps132
    go_wp2_with fail
    refine (isSide_any _ _).mono ?_
    rintro e w1 ⟨rfl, rfl⟩
    rw [H1.out]
    go_wp2
    go_ret
    exact ⟨rfl, Ext.alloc _ _⟩
  · cases h2 : inB c 1 16
    · have hb : tenB r c n = false := by simp [tenB, h2]
      have H1 := hid h1
      have H2 := hid h2
      rw [hb]
      clear h1 h2 hb
      go_enter Try.func132, Try.ntmps132
      go_wp2_with fail
      refine (isSide_any _ _).mono ?_
      rintro e w1 ⟨rfl, rfl⟩
      rw [H1.out]
      go_wp2_with fail
      refine (isSide_any _ _).mono ?_
      rintro e w1 ⟨rfl, rfl⟩
      rw [H2.out]
      go_wp2
      go_ret
      exact ⟨rfl, Ext.alloc _ _⟩
    · have hb : tenB r c n = decide ((n : Int) = r * c) := by simp [tenB, h1, h2]
      have H1 := hid h1
      have H2 := hid h2
      rw [inB_true] at h1 h2
      have hm : r * c ≤ 256 := by have := Int.mul_le_mul h1.2 h2.2 (by omega) (by decide); omega
      have hm0 : 0 ≤ r * c := Int.mul_nonneg (by omega) (by omega)
      rw [hb]
      clear hb
      go_enter Try.func132, Try.ntmps132
      go_wp2_with fail
      refine (isSide_any _ _).mono ?_
      rintro e w1 ⟨rfl, rfl⟩
      rw [H1.out]
      go_wp2_with fail
      refine (isSide_any _ _).mono ?_
      rintro e w1 ⟨rfl, rfl⟩
      rw [H2.out]
      go_wp2
      go_ret
      exact ⟨ret_bool (a := ((n : Int) == r * c)) rfl, Ext.alloc _ _⟩
end Go.Proofs.Ytnlhahlegedlaaa
