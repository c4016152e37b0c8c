/- The harness on lists of integers: equal, marked, held. -/
import Derived.Test.YtnlhahlegedlaaaInt
namespace Go.Proofs.Ytnlhahlegedlaaa
set_option linter.unusedSimpArgs false
set_option linter.unusedVariables false
open Go.RowKit

theorem grownBy_trans {a b c : World} {row : Option Nat} (h : a.grownBy b row) (k : b.grownBy c row) : a.grownBy c row :=
  ⟨k.os.trans h.os, k.tape.trans h.tape, k.output.trans h.output, Nat.le_trans h.size k.size, fun i hi hr => (k.block i (Nat.lt_of_lt_of_le hi h.size) hr).trans (h.block i hi hr)⟩
theorem grownBy_refl (a : World) (row : Option Nat) : a.grownBy a row := ⟨rfl, rfl, rfl, Nat.le_refl _, fun _ _ _ => rfl⟩

/-- k, k + 1, .. up to i places. -/
def marks (k : Int) (n : Nat) : List Int := (List.range n).map fun (i : Nat) => k + i
theorem length_marks (k : Int) (n : Nat) : (marks k n).length = n := by simp [marks]
theorem marks_getD (k : Int) (n i : Nat) (h : i < n) : (marks k n).getD i 0 = k + i := by simp [marks, h]
/-- The first i places marked. -/
def markTo (k : Int) (xs : List Int) (i : Nat) : List Int := marks k i ++ xs.drop i
theorem markTo_set (k : Int) (xs : List Int) (i : Nat) (h : i < xs.length) : (markTo k xs i).set i (k + i) = markTo k xs (i + 1) := by
  unfold markTo
  rw [List.set_append_right _ _ (by rw [length_marks]; omega), length_marks, Nat.sub_self]
  have : xs.drop i = xs[i] :: xs.drop (i + 1) := by rw [List.drop_eq_getElem_cons h]
  rw [this, List.set_cons_zero]
  have : marks k (i + 1) = marks k i ++ [k + i] := by simp [marks, List.range_succ]
  rw [this, List.append_assoc]; rfl
theorem length_markTo (k : Int) (xs : List Int) (i : Nat) (h : i ≤ xs.length) : (markTo k xs i).length = xs.length := by simp [markTo, length_marks]; omega
theorem markTo_all (k : Int) (xs : List Int) : markTo k xs xs.length = marks k xs.length := by simp [markTo]

set_option maxRecDepth 100000 in
set_option maxHeartbeats 400000 in
theorem markInt64S_any (p : Option Addr) (n c B : Nat) (k : Int) (xs : List Int) (w : World) (hx : xs.length = n) (hn : n ≤ 1073741824) (hk0 : 0 ≤ k) (hk : k ≤ 1073741824)
    (hown : w.ownsRow B 2 1 (.slice p n c) n (xs.map (Value.int .i64))) :
    Calls Try.prog 21 #[.slice p n c, .int .i64 k] w fun e w' => e = .returned (.int .i64 (k + n)) ∧
      w'.ownsRow B 2 1 (.slice p n c) n ((marks k n).map (Value.int .i64)) ∧ w.grownBy w' (Value.slice p n c).ownBlock := by
  have Hx := hid hx
  clear hx
  go_enter Try.func21, Try.ntmps21
  go_wp2
  go_loopw [1, 5] (fun kv iv wr => ∃ i : Nat, i ≤ n ∧ iv = .int .i64 i ∧ kv = .int .i64 (k + i) ∧ wr.ownsRow B 2 1 (.slice p n c) n ((markTo k xs i).map (Value.int .i64)) ∧ w.grownBy wr (Value.slice p n c).ownBlock) (fun _ iv _ => n - (intOf iv).toNat)
  case atStart => exact ⟨0, by omega, rfl, by go_num, by simpa [markTo, marks] using hown, grownBy_refl w _⟩
  case round =>
    clear hown
    obtain ⟨i, hi, rfl, rfl, hown, hgr⟩ := hrel
    by_cases hlt : i < n
    · go_wp2_with (refine wl_stI (q := .i64) (u := k + i) rfl rfl rfl rfl (fun _ => rfl) rfl rfl (fun _ => rfl) hown (by omega) (by omega) ?_; intro w1 h1 g1)
      go_roundw
      case rel => exact ⟨i + 1, by omega, by go_num, by go_num, by rw [← markTo_set k xs i (by rw [Hx.out]; exact hlt)]; exact h1, grownBy_trans hgr g1⟩
      case measure => simp [intOf]; omega
    · obtain rfl : i = n := by omega
      go_wp2
      go_ret
      refine ⟨rfl, ?_, hgr⟩
      rw [← Hx.out, ← markTo_all, Hx.out]
      exact hown

theorem getD_eq {xs ys : List Int} (h : xs.length = ys.length) (ha : ∀ j, j < xs.length → xs.getD j 0 = ys.getD j 0) : xs = ys := by
  apply List.ext_getElem h
  intro i h1 h2
  have := ha i h1
  simpa [h1, h2] using this

set_option maxRecDepth 100000 in
set_option maxHeartbeats 1000000 in
theorem eqInt64S_any (p q : Option Addr) (c d : Nat) (n0 n : Nat) (xs ys : List Int) (w : World) (hx0 : xs.length = n0) (hy : ys.length = n) (hm : n ≤ 1073741824)
    (hp : Cs w p (xs.map (Value.int .i64))) (hq : Cs w q (ys.map (Value.int .i64))) :
    Calls Try.prog 18 #[.slice p n0 c, .slice q n d] w fun e w' => e = .returned (.bool (decide (xs = ys))) ∧ Ext w w' := by
  have Hy := hid hy
  have Hx0 := hid hx0
  clear hy hx0
  by_cases hne : n0 = n
  · subst hne
    have Hx := Hx0
    clear Hx0
    generalize n0 = n at *
    go_enter Try.func18, Try.ntmps18
    go_wp2
    go_loopw [5] (fun iv wr => ∃ i : Nat, i ≤ n ∧ iv = .int .i64 i ∧ Hid (∀ j, j < i → xs.getD j 0 = ys.getD j 0) ∧ Ext w wr) (fun iv _ => n - (intOf iv).toNat)
    case atStart => exact ⟨0, by omega, rfl, fun j hj => by omega, Ext.refl w⟩
    case round =>
      obtain ⟨i, hi, rfl, Hall, he⟩ := hrel
      by_cases hlt : i < n
      · have hp' := (hp.ext he).ext (Ext.drew wr)
        have hq' := (hq.ext he).ext (Ext.drew wr)
        by_cases hb : xs[i]?.getD 0 = ys[i]?.getD 0
        all_goals
          have Hb := hid hb
          first | (have hc : (xs[i]?.getD 0 != ys[i]?.getD 0) = false := by simp [hb]) | (have hc : (xs[i]?.getD 0 != ys[i]?.getD 0) = true := by simp [hb])
          clear hb
          go_wp2_with fail
          refine wp_region_xall (F := fun _ _ _ => False) (by kernel_rfl) (by kernel_rfl) (by kernel_rfl) ?_
          intro wf hwf
          refine x_mv rfl rfl rfl ?_
          simp only [Act.put, ev_tmp, List.setIfInBounds_toArray, List.set_cons_succ, List.set_cons_zero, List.getD_cons_succ, List.getD_cons_zero]
          refine x_mv rfl rfl rfl ?_
          simp only [Act.put, ev_tmp, List.setIfInBounds_toArray, List.set_cons_succ, List.set_cons_zero, List.getD_cons_succ, List.getD_cons_zero]
          refine x_ldI rfl rfl (fun _ => rfl) rfl (fun _ => rfl) rfl rfl (hp') (Hx.out) (by omega) (by omega) ?_
          simp only [Act.put, ev_tmp, List.setIfInBounds_toArray, List.set_cons_succ, List.set_cons_zero, List.getD_cons_succ, List.getD_cons_zero]
          refine x_mv rfl rfl rfl ?_
          simp only [Act.put, ev_tmp, List.setIfInBounds_toArray, List.set_cons_succ, List.set_cons_zero, List.getD_cons_succ, List.getD_cons_zero]
          refine x_mv rfl rfl rfl ?_
          simp only [Act.put, ev_tmp, List.setIfInBounds_toArray, List.set_cons_succ, List.set_cons_zero, List.getD_cons_succ, List.getD_cons_zero]
          refine x_ldI rfl rfl (fun _ => rfl) rfl (fun _ => rfl) rfl rfl (hq') (Hy.out) (by omega) (by omega) ?_
          simp only [Act.put, ev_tmp, List.setIfInBounds_toArray, List.set_cons_succ, List.set_cons_zero, List.getD_cons_succ, List.getD_cons_zero]
          refine x_run rfl fun K hK w1 _ => ?_
          go_simp
          refine hK _ ?_
          clear hK K
          refine x_nil ?_
          have he' := (he.trans (Ext.drew wr)).trans hwf
          clear hwf hp' hq' he
          go_wp2
        · go_roundw
          case rel =>
            refine ⟨i + 1, by omega, by go_num, fun j hj => ?_, he'⟩
            by_cases hji : j = i
            · subst hji; simpa using Hb.out
            · exact Hall j (by omega)
          case measure => simp [intOf]; omega
        · go_ret
          refine ⟨ret_bool (Eq.symm (decide_eq_false fun h => ?_)), he'⟩
          subst h
          exact Hb.out rfl
      · obtain rfl : i = n := by omega
        go_wp2
        go_ret
        exact ⟨ret_bool (Eq.symm (decide_eq_true (getD_eq (by rw [Hx.out, Hy.out]) (by rw [Hx.out]; exact Hall)))), he⟩
  · have hc : ((n0 : Int) != (n : Int)) = true := by rw [bne_iff_ne]; omega
    go_enter Try.func18, Try.ntmps18
    go_wp2
    go_ret
    exact ⟨ret_bool (Eq.symm (decide_eq_false fun h => hne (by rw [← Hx0.out, ← Hy.out, h]))), Ext.refl w⟩

/-- What 'held' answers. -/
def heldOf (k : Int) : List Int → Int
  | [] => k
  | x :: xs => if x = k then heldOf (k + 1) xs else -1
theorem heldOf_marks (n : Nat) : ∀ k, heldOf k (marks k n) = k + n := by
  induction n with
  | zero => intro k; simp [marks, heldOf]
  | succ n ih =>
    intro k
    have : marks k (n + 1) = k :: marks (k + 1) n := by
      simp only [marks, List.range_succ_eq_map, List.map_cons, List.map_map]
      congr 1
      · simp
      · apply List.map_congr_left; intro i _; simp; omega
    rw [this, heldOf, if_pos rfl, ih]; simp; omega
set_option maxRecDepth 100000 in
set_option maxHeartbeats 1000000 in
theorem heldInt64S_any (p : Option Addr) (n c : Nat) (k : Int) (w : World) (hn : n ≤ 1099511627776) (hk0 : 0 ≤ k) (hk : k ≤ 1099511627776) (hp : Cs w p ((marks k n).map (Value.int .i64))) :
    Calls Try.prog 22 #[.slice p n c, .int .i64 k] w fun e w' => e = .returned (.int .i64 (k + n)) ∧ w = w' := by
  have Hl := hid (length_marks k n)
  go_enter Try.func22, Try.ntmps22
  go_wp2
  go_loop [1, 5] (fun kv iv => ∃ i : Nat, i ≤ n ∧ iv = .int .i64 i ∧ kv = .int .i64 (k + i)) (fun _ iv => n - (intOf iv).toNat)
  case atStart => exact ⟨0, by omega, rfl, by go_num⟩
  case round =>
    obtain ⟨i, hi, rfl, rfl⟩ := hrel
    by_cases hlt : i < n
    · have hg := marks_getD k n i hlt
      have hb : ((marks k n)[i]?.getD 0 != k + (i : Int)) = false := by simpa using hg
      clear hg
      go_wp2_with (refine wl_ldI rfl rfl rfl rfl (fun _ => rfl) rfl rfl hp Hl.out (by omega) (by omega) ?_)
      go_round
      case rel => exact ⟨i + 1, by omega, by go_num, by go_num⟩
      case measure => simp [intOf]; omega
    · obtain rfl : i = n := by omega
      go_wp2
      go_ret
      exact ⟨rfl, rfl⟩
end Go.Proofs.Ytnlhahlegedlaaa
