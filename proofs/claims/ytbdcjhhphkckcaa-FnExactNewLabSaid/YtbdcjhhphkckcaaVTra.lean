/- ValidTraining: the program's part. -/
import Derived.Test.YtbdcjhhphkckcaaSto2
import Derived.Test.YtbdcjhhphkckcaaCont2
import Derived.Test.YtbdcjhhphkckcaaHOptimizer
import Derived.Test.YtbdcjhhphkckcaaKb
namespace Go.Proofs.Ytbdcjhhphkckcaa
set_option linter.unusedSimpArgs false
set_option linter.unusedVariables false
open Go.RowKit

def slotN (k : Int) : Nat := if k = 0 then 0 else if k = 4 then 2 else 1
def vtB (k : Int) (l : List shLayer.T) (s : List (List Nat)) (x3 x4 : Int) : Bool :=
  inB k 0 4 && (modB l && (inB x3 0 1000 && (inB x4 0 2147483647 && (decide ((parF l).length ≤ 256) && (decide (s.length = slotN k) && s.all fun x => decide (x.length = (parF l).length))))))
set_option maxRecDepth 100000 in
set_option maxHeartbeats 1000000 in
theorem ValidOptimizer_any (k : Int) (f1 f2 f3 f4 : Nat) (w : World) : Calls Try.prog 119 #[.agg #[.int .i64 k, .float .f32 f1, .float .f32 f2, .float .f32 f3, .float .f32 f4]] w (RetB w (inB k 0 4)) := by
  go_enter Try.func119, Try.ntmps119
  go_wp2_with (go_at_call 91; refine (within_any _ _ _ _).mono ?_; rintro e w' ⟨rfl, rfl⟩)
  go_ret
  exact ⟨rfl, Ext.alloc _ _⟩
set_option maxRecDepth 100000 in
set_option maxHeartbeats 1000000 in
theorem slots_any (k : Int) (f1 f2 f3 f4 : Nat) (w : World) : Calls Try.prog 126 #[.agg #[.int .i64 k, .float .f32 f1, .float .f32 f2, .float .f32 f3, .float .f32 f4]] w fun e w' => e = .returned (.int .i64 (slotN k)) ∧ Ext w w' := by
  by_cases h0 : k = 0
  · subst h0
    go_enter Try.func126, Try.ntmps126
    go_wp2
    go_ret
    exact ⟨rfl, Ext.alloc _ _⟩
  · by_cases h4 : k = 4
    · subst h4
      go_enter Try.func126, Try.ntmps126
      go_wp2
      go_ret
      exact ⟨rfl, Ext.alloc _ _⟩
    · have hs : slotN k = 1 := by unfold slotN; rw [if_neg h0, if_neg h4]
      rw [hs]
      have q0 := beq_f h0
      have q4 := beq_f h4
      go_enter Try.func126, Try.ntmps126
      go_wp2
      go_ret
      exact ⟨rfl, Ext.alloc _ _⟩
set_option maxRecDepth 100000 in
set_option maxHeartbeats 1000000 in
theorem l05Slots_any {sp : Option Nat} (b o : Nat) (k : Int) (w : World) (g0 : w.cell? ⟨b, o, sp⟩ = some (.int .i64 k)) : Calls Try.prog 123 #[.pointer (some ⟨b, o, sp⟩)] w fun e w' => e = .returned (.int .i64 (slotN k)) ∧ w = w' := by
  by_cases h0 : k = 0
  · subst h0
    go_enter Try.func123, Try.ntmps123
    go_wp2
    go_ret
    exact ⟨rfl, rfl⟩
  · by_cases h4 : k = 4
    · subst h4
      go_enter Try.func123, Try.ntmps123
      go_wp2
      go_ret
      exact ⟨rfl, rfl⟩
    · have hs : slotN k = 1 := by unfold slotN; rw [if_neg h0, if_neg h4]
      rw [hs]
      have q0 := beq_f h0
      have q4 := beq_f h4
      go_enter Try.func123, Try.ntmps123
      go_wp2
      go_ret
      exact ⟨rfl, rfl⟩
set_option maxRecDepth 100000 in
set_option maxHeartbeats 1000000 in
theorem areLen_any (q : Option Addr) (n c : Nat) (b N : Nat) (w : World) (hn : n ≤ maxLen) (g0 : w.cell? ⟨b, 0, none⟩ = some (.int .i64 N)) : Calls Try.prog 148 #[.slice q n c, .pointer (some ⟨b, 0, none⟩)] w (RetB w (!decide (n = N))) := by
  unfold maxLen at hn
  by_cases h : n = N
  · have Q := bne_f (show (n : Int) = N by omega)
    rw [decide_eq_true h]
    go_enter Try.func148, Try.ntmps148
    go_wp2
    go_ret
    exact ⟨rfl, Ext.refl _⟩
  · have Q := bne_t (show ¬ (n : Int) = N by omega)
    rw [decide_eq_false h]
    go_enter Try.func148, Try.ntmps148
    go_wp2
    go_ret
    exact ⟨rfl, Ext.refl _⟩
theorem anyTo_all {s : List (List Nat)} {N n : Nat} (hn : s.length = n) : (!anyTo (fun i => !decide ((s.getD i []).length = N)) n) = s.all fun x => decide (x.length = N) := by
  cases h : anyTo (fun i => !decide ((s.getD i []).length = N)) n
  · symm
    refine all_len fun j hj => ?_
    refine Classical.byContradiction fun hne => ?_
    have := (anyTo_true (q := fun i => !decide ((s.getD i []).length = N)) (n := n)).2 ⟨j, by omega, by simp only [decide_eq_false hne]; rfl⟩
    rw [h] at this; cases this
  · obtain ⟨i, hi, h2⟩ := anyTo_true.1 h
    symm
    refine not_all_len (by omega) (j := i) fun he => ?_
    rw [decide_eq_true he] at h2; cases h2
set_option maxRecDepth 100000 in
set_option maxHeartbeats 1000000 in
theorem areSlots_any (k : Int) (f1 f2 f3 f4 : Nat) (p1 : Option Addr) (n1 c1 N : Nat) (us : List Value) (s : List (List Nat)) (w : World) (hN : N ≤ 1048576) (S1 : Slts w p1 n1 us s) :
    Calls Try.prog 121 #[.agg #[.int .i64 k, .float .f32 f1, .float .f32 f2, .float .f32 f3, .float .f32 f4], .slice p1 n1 c1, .int .i64 N] w (RetB w (decide (s.length = slotN k) && s.all fun x => decide (x.length = N))) := by
  have Le1 := S1.le
  have hs := S1.len
  have HA := hid (anyTo_all (N := N) hs)
  rw [hs]
  have C := hid (fun W => slots_any k f1 f2 f3 f4 W)
  have hsl : slotN k ≤ 2 := by unfold slotN; split <;> (try split) <;> omega
  have D := hid (fun W (h : Ext w W) (b : Nat) (g : W.cell? ⟨b, 0, none⟩ = some (.int .i64 N)) => containsFuncSl_any 148 #[.pointer (some ⟨b, 0, none⟩)] (by intro args w; kernel_rfl) p1 n1 c1 us (fun i => !decide ((s.getD i []).length = N)) W S1.cnt S1.le (S1.cs.ext h) (by
    intro i u W2 hu h2
    have hi : i < n1 := by rw [← S1.cnt]; exact (List.getElem?_eq_some_iff.1 hu).1
    obtain ⟨q, c, e1, fl⟩ := S1.at' i hi
    rw [hu] at e1
    cases e1
    obtain ⟨_, _, _, hl, _⟩ := fl
    exact areLen_any q _ c b N W2 hl (h2.cell g)))
  unfold maxLen at Le1
  clear hs S1
  generalize (s.all fun x => decide (x.length = N)) = A at *
  generalize hT : slotN k = T at *
  have E0 := (Ext.alloc w (.cells #[.int .i64 k, .float .f32 f1, .float .f32 f2, .float .f32 f3, .float .f32 f4] 40)).trans (Ext.alloc _ (.cells #[.int .i64 N] 3))
  by_cases hq : n1 = T
  · rw [decide_eq_true hq, Bool.true_and]
    subst hq
    have Q := beq_t (Eq.refl (n1 : Int))
    go_enter Try.func121, Try.ntmps121
    go_wp2_with (first
      | ((with_reducible show wpList _ _ _ (Oper.mk _ (Op.box _ _) _ _ _ _ :: _) _ _); refine wl_box (s := shOptimizer) (cs := [.int .i64 k, .float .f32 f1, .float .f32 f2, .float .f32 f3, .float .f32 f4]) rfl rfl rfl rfl (by simp [Value.oneCell']) ?_; intro b0 v0 g0 _ d0)
      | ((with_reducible show wpList _ _ _ (Oper.mk _ (Op.load _ _) _ _ _ _ :: _) _ _); refine wl_ldA (s := shOptimizer) (cs := [.int .i64 k, .float .f32 f1, .float .f32 f2, .float .f32 f3, .float .f32 f4]) rfl rfl rfl (d0.ext (Ext.alloc _ _)) rfl ?_))
    refine (C.out _).mono ?_
    rintro e w1 ⟨rfl, e1⟩
    have he1 := (g0.trans (Ext.alloc _ _)).trans e1
    have x1 := e1.cell (p := ⟨v0.heap.size, 0, none⟩) (v := .int .i64 N) (by simp)
    go_wp2_with fail
    refine (D.out _ he1 _ x1).mono ?_
    rintro e w2 ⟨rfl, e2⟩
    go_wp2
    go_ret
    exact ⟨ret_bool HA.out, he1.trans e2⟩
  · have Q := beq_f (show ¬ (n1 : Int) = T by omega)
    rw [decide_eq_false hq, Bool.false_and]
    go_enter Try.func121, Try.ntmps121
    go_wp2_with (first
      | ((with_reducible show wpList _ _ _ (Oper.mk _ (Op.box _ _) _ _ _ _ :: _) _ _); refine wl_box (s := shOptimizer) (cs := [.int .i64 k, .float .f32 f1, .float .f32 f2, .float .f32 f3, .float .f32 f4]) rfl rfl rfl rfl (by simp [Value.oneCell']) ?_; intro b0 v0 g0 _ d0)
      | ((with_reducible show wpList _ _ _ (Oper.mk _ (Op.load _ _) _ _ _ _ :: _) _ _); refine wl_ldA (s := shOptimizer) (cs := [.int .i64 k, .float .f32 f1, .float .f32 f2, .float .f32 f3, .float .f32 f4]) rfl rfl rfl (d0.ext (Ext.alloc _ _)) rfl ?_))
    refine (C.out _).mono ?_
    rintro e w1 ⟨rfl, e1⟩
    go_wp2
    go_ret
    exact ⟨rfl, (g0.trans (Ext.alloc _ _)).trans e1⟩
end Go.Proofs.Ytbdcjhhphkckcaa
