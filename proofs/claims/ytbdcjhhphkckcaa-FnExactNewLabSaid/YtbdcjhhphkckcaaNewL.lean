/- NewLab of the program: its tensors. -/
import Derived.Test.YtbdcjhhphkckcaaNewT2
import Derived.Test.YtbdcjhhphkckcaaKf
import Derived.Test.YtbdcjhhphkckcaaHLab
import Derived.Laws.CopyRow
namespace Go.Proofs.Ytbdcjhhphkckcaa.lNewLab
set_option linter.unusedSimpArgs false
set_option linter.unusedVariables false
open Go.RowKit

section
variable {P : Program} {w : World} {ops : Array Oper} {rest : List Oper} {o : Oper} {a : Act} {Q : Exit → Act → World → Prop}
theorem run_copy1 {t ty e s b : Nat} {z : Value} [T : SlTy P t e 1 z b] {g c B : Nat} {q : Addr} {u : Value} {vs : List Value} (how : w.ownsRow B e 1 (.slice (some ⟨g, 0, none⟩) 1 1) 1 vs) (hc : Cs w (some q) [u]) (h1 : u.oneCell' = true) :
    (Builtin.copy_ #[t, t] ty #[.slice (some ⟨g, 0, none⟩) 1 1, .slice (some q) 1 c]).run P w = .ok (.int .i64 1) (w.setCell ⟨g, 0, none⟩ u) := by
  obtain ⟨ti, hi, hzz⟩ := Option.map_eq_some_iff.1 T.inf
  simp only [Prod.mk.injEq] at hzz
  rcases how.2 with ⟨h2, _⟩ | ⟨g', cap, cur, hv, hg, hh, hn, hm, hsz, ht⟩
  · cases h2
  · cases hv
    have hcs : cur.size = 1 := by omega
    have h := run_copy_row (P := P) w t t ty e g 0 1 1 q 1 c cur e [u] T.und (by rw [hi]; simp [hzz.2.1]) hh rfl (fun j v hj => hc.cell j v hj) (by simp [hcs]) (fun v hv => by simp at hv; subst hv; exact h1)
    rw [h, setCell_eq_setRow w g 0 cur e (0, 0) u hh]
    congr 2
    have : cur.toList.drop 1 = [] := List.drop_of_length_le (by simp [hcs])
    apply Array.ext'
    simp [this, Array.toList_setIfInBounds]
    cases hl : cur.toList with
    | nil => have := congrArg List.length hl; simp [hcs] at this
    | cons x xs => rw [hl] at this; simp at this; simp [this]
theorem wl_copy1 {t e b : Nat} {z : Value} [T : SlTy P t e 1 z b] {x1 x2 : Operand} {g c B : Nat} {q : Addr} {u : Value} {vs : List Value} (hg : o.guard = none) (ho : o.op = .call { callee := .builtin .copy, args := #[x1, x2], argTypes := #[t, t] })
    (hx1 : a.eval x1 = .slice (some ⟨g, 0, none⟩) 1 1) (hx2 : a.eval x2 = .slice (some q) 1 c) (how : w.ownsRow B e 1 (.slice (some ⟨g, 0, none⟩) 1 1) 1 vs) (hc : Cs w (some q) [u]) (h1 : u.oneCell' = true)
    (h : ∀ w', w'.ownsRow B e 1 (.slice (some ⟨g, 0, none⟩) 1 1) 1 [u] → w.grownBy w' (some g) → wpList P ops Q rest (a.put o.dst (.int .i64 1)) w') : wpList P ops Q (o :: rest) a w := by
  have hrun := run_copy1 (P := P) (t := t) (ty := o.type) (s := 1) (c := c) how hc h1
  have hst := how.stored 0 u
  have hl := how.1
  rw [show vs.set 0 u = [u] from by
    cases vs with
    | nil => simp at hl
    | cons x xs => simp at hl; simp [hl]] at hst
  exact wl_value hg (v := .int .i64 1) (w' := w.setCell ⟨g, 0, none⟩ u) (by simp [execOp, ho, resolve, invoke, builtin, hx1, hx2, hrun, Result.andThen]) (h _ hst.1 hst.2)
end
theorem f32_one : F32s [.float .f32 0] [0] := ⟨rfl, fun i hi => by
  have : i = 0 := by simpa using hi
  subst this
  exact ⟨0, rfl, by decide +kernel⟩⟩
set_option maxRecDepth 100000 in
set_option maxHeartbeats 1000000 in
theorem mul64_any (w : World) : Calls Try.prog 155 #[.int .u64 1, .int .u64 1] w fun e w' => e = .returned (.tuple #[.int .u64 0, .int .u64 1]) ∧ w = w' := by
  go_enter Try.func155, Try.ntmps155
  go_wp2
  go_ret2
  exact ⟨rfl, rfl⟩
set_option maxRecDepth 100000 in
set_option maxHeartbeats 1000000 in
theorem mul_any (w : World) : Calls Try.prog 149 #[.int .u64 1, .int .u64 1] w fun e w' => e = .returned (.tuple #[.int .u64 0, .int .u64 1]) ∧ w = w' := by
  go_enter Try.func149, Try.ntmps149
  go_wp2_with fail
  refine (mul64_any _).mono ?_
  rintro e w1 ⟨rfl, rfl⟩
  go_wp2
  go_ret2
  exact ⟨rfl, rfl⟩
set_option maxRecDepth 100000 in
set_option maxHeartbeats 4000000 in
theorem repeat_any (b c : Nat) (w : World) (hp : Cs w (some ⟨b, 0, none⟩) [.float .f32 0]) : Calls Try.prog 129 #[.slice (some ⟨b, 0, none⟩) 1 c, .int .i64 1] w (RetFl w [0]) := by
  go_enter Try.func129, Try.ntmps129
  go_wp2_with fail
  refine (mul_any _).mono ?_
  rintro e w1 ⟨rfl, rfl⟩
  go_wp2_with (first | ((with_reducible show wpList _ _ _ (Oper.mk _ (Op.makeSlice _ _ _) _ _ _ _ :: _) _ _); refine wl_make w.heap.size 1 rfl rfl rfl rfl (by unfold maxLen; omega) (by omega) (Nat.le_refl _) ?_; intro g8 w8 own8 e8; have hp8 := hp.ext e8) | ((with_reducible show wpList _ _ _ (Oper.mk _ (Op.call _) _ _ _ _ :: _) _ _); refine wl_copy1 rfl rfl rfl rfl own8 hp8 rfl ?_; intro w9 own9 g9))
  have e9 : Ext w w9 := e8.grown g9 (fun k hk => by have := own_le own8 k (by rw [show (Value.slice (some ⟨g8, 0, none⟩) 1 1).ownBlock = some g8 from rfl]; exact hk); exact this)
  go_loopw [8] (fun nv wr => nv = .int .i64 1 ∧ wr.ownsRow w.heap.size 22 1 (.slice (some ⟨g8, 0, none⟩) 1 1) 1 [.float .f32 0] ∧ Ext w wr) (fun _ _ => 0)
  case atStart => exact ⟨rfl, own9, e9⟩
  case round =>
    obtain ⟨rfl, own0, he⟩ := hrel
    go_wp2
    go_ret
    exact ⟨some ⟨g8, 0, none⟩, 1, [.float .f32 0], rfl, own0, f32_one, he⟩
set_option maxRecDepth 100000 in
set_option maxHeartbeats 4000000 in
theorem filled_any (w : World) : Calls Try.prog 82 #[.int .i64 1, .int .i64 1, .float .f32 0] w (RetTen w 1 1 [0]) := by
  obtain ⟨W0, hW0⟩ : ∃ W0, W0 = (w.alloc (.cells #[.int .i64 0, .int .i64 0, .slice none 0 0] 41)).alloc (.cells #[.float .f32 0] 22) := ⟨_, rfl⟩
  obtain ⟨E0, s0, b0, b1⟩ := box2 hW0
  have b0 : HB W0 w.heap.size #[.int .i64 0, .int .i64 0, .slice none 0 0] 41 := b0
  have hp : Cs W0 (some ⟨w.heap.size + 1, 0, none⟩) [.float .f32 0] := cs_heap b1
  have R := hid (repeat_any (w.heap.size + 1) 1 W0 hp)
  go_enter Try.func82, Try.ntmps82
  go_wp2_with fail
  rw [← hW0]
  clear hW0
  refine R.out.mono ?_
  rintro e w1 ⟨q, k, vs, rfl, own, hf, e1⟩
  have f1 := b0.ext e1
  have n0 := f1.cell 0 rfl; have n1 := f1.cell 1 rfl; have n2 := f1.cell 2 rfl
  have m0 := f1.froz 0; have m1 := f1.froz 1; have m2 := f1.froz 2
  go_wp2
  refine bodyPost_ret (v := .agg #[.int .i64 1, .int .i64 1, .slice q 1 k]) (by simp [results, Try.results82, go_sem, n0, n1, n2, m0, m1, m2]) rfl ?_
  exact RetTen.of rfl (own_base (own_chgB (S := fun k => k = w.heap.size) own (by (repeat (first | with_reducible exact Chg.refl _ _ | (with_reducible exact Chg.of_ext (by with_reducible assumption)) | with_reducible assumption | ((with_reducible refine Chg.setCell ?_ ?_ _); rotate_left; focus (first | (simp; done) | (simp; omega))) | (with_reducible refine Chg.alloc ?_ _) | (with_reducible refine Chg.drew ?_) | (with_reducible refine Chg.trans ?_ (Chg.of_ext (by with_reducible assumption)))))) (fun k hk => by omega)) (by omega)) hf rfl (by have := E0.trans e1; (repeat (first | with_reducible exact Ext.refl _ | with_reducible assumption | ((with_reducible refine Ext.setCell ?_ ?_ _); rotate_left; focus (first | (simp; done) | (simp; omega))) | (with_reducible refine Ext.trans ?_ (Ext.alloc _ _)) | (with_reducible refine Ext.trans ?_ (Ext.drew _)) | (with_reducible refine Ext.trans ?_ (by with_reducible assumption)))))
set_option maxRecDepth 100000 in
set_option maxHeartbeats 4000000 in
theorem l02Filled_any (w : World) : Calls Try.prog 128 #[.int .i64 1, .int .i64 1, .float .f32 0] w (RetTen w 1 1 [0]) := by
  obtain ⟨W0, hW0⟩ : ∃ W0, W0 = w.alloc (.cells #[.int .i64 0, .int .i64 0, .slice none 0 0] 41) := ⟨_, rfl⟩
  have E0 : Ext w W0 := by subst hW0; exact Ext.alloc _ _
  have s0 : W0.heap.size = w.heap.size + 1 := by simp [hW0]
  have b0 : HB W0 w.heap.size #[.int .i64 0, .int .i64 0, .slice none 0 0] 41 := by rw [hW0]; exact heap_alloc_new w _
  obtain ⟨W1, hW1⟩ : ∃ W1, W1 = (W0.alloc (.cells #[] 22)).alloc (.cells #[.int .i64 1, .int .i64 1, .slice (some ⟨w.heap.size + 1, 0, none⟩) 0 0] 41) := ⟨_, rfl⟩
  obtain ⟨E1, s1, _, hb3⟩ := box2 hW1
  rw [s0] at hb3
  have hst : W1.ownsRow (w.heap.size + 1) 22 1 (.slice (some ⟨w.heap.size + 1, 0, none⟩) 0 0) 0 [] := by
    have h1 := World.ownsRow_made (e := 22) (size := 1) W0 #[] 0 (Nat.le_refl _) (by decide) rfl
    rw [s0] at h1
    rw [hW1]
    exact own_ext h1 (Ext.alloc _ _)
  go_enter Try.func128, Try.ntmps128
  go_wp2
  rw [← hW0, ← hW1]
  clear hW1 hW0
  go_loopw [8] (fun iv wr => ∃ (i : Nat) (v : Value) (vs : List Value), i ≤ 1 ∧ iv = .int .i64 i ∧ HB wr (w.heap.size + 1 + 1) #[.int .i64 1, .int .i64 1, v] 41 ∧ wr.ownsRow (w.heap.size + 1) 22 1 v i vs ∧ Hid (F32s vs (List.replicate i 0)) ∧ Ext W0 wr) (fun iv _ => 1 - (intOf iv).toNat)
  case atStart => exact ⟨0, .slice (some ⟨w.heap.size + 1, 0, none⟩) 0 0, [], by omega, rfl, hb3, hst, F32s.nil, E1⟩
  case round =>
    clear hb3 E1 hst
    obtain ⟨i, v, vs, hi, rfl, hB, hown, HV, he⟩ := hrel
    obtain ⟨q6, c6, rfl⟩ := own_slice hown
    by_cases hlt : i < 1
    · obtain rfl : i = 0 := by omega
      have o1 := hB.cell 2 rfl
      have htag := own_tag hown hB (by decide)
      have hz := hB.lt
      have hsz := he.size
      go_wp2_with ((with_reducible show wpList _ _ _ (Oper.mk _ (Op.buildSlice _ _ _) _ _ _ _ :: Oper.mk _ (Op.call _) _ _ _ _ :: _) _ _); refine wl_app1b (u := .float .f32 0) rfl rfl rfl rfl rfl rfl rfl (fun _ => rfl) (fun _ => rfl) hown (by unfold maxLen; omega) (by omega) (by omega) ?_; intro g9 c9 w9 own9 g9' hg9; have blk : HB w9 (w.heap.size + 1 + 1) #[.int .i64 1, .int .i64 1, .slice q6 0 c6] 41 := (g9'.block _ hz (fun hh => htag _ hh.symm rfl)).trans hB; have l5 := blk.cell 2 rfl; have l6 := blk.froz 2)
      go_roundw
      case rel =>
        have e9 : Ext W0 w9 := he.grown g9' (fun k hk => by have := own_le hown k hk; omega)
        have hchg := chg_cell w9 (w.heap.size + 1 + 1) 2 (.slice (some ⟨g9, 0, none⟩) 1 c9)
        have hvs : vs = [] := List.eq_nil_of_length_eq_zero (by have := hown.1; simpa using this)
        subst hvs
        exact ⟨1, .slice (some ⟨g9, 0, none⟩) 1 c9, [.float .f32 0], by omega, by go_num, blk.set 2 _, own_chgK own9 hchg (own_tag own9 blk (by decide)), f32_one, e9.chg hchg (fun k hk => by omega)⟩
      case measure => simp [intOf]
    · obtain rfl : i = 1 := by omega
      have f1 := b0.ext he
      have n0 := f1.cell 0 rfl; have n1 := f1.cell 1 rfl; have n2 := f1.cell 2 rfl
      have m0 := f1.froz 0; have m1 := f1.froz 1; have m2 := f1.froz 2
      have k0 := hB.cell 0 rfl; have k1 := hB.cell 1 rfl; have k2 := hB.cell 2 rfl
      go_wp2
      refine bodyPost_ret (v := .agg #[.int .i64 1, .int .i64 1, .slice q6 1 c6]) (by simp [results, Try.results128, go_sem, n0, n1, n2, m0, m1, m2]) rfl ?_
      exact RetTen.of rfl (own_base (own_chgB (S := fun k => k = w.heap.size) hown (by (repeat (first | with_reducible exact Chg.refl _ _ | (with_reducible exact Chg.of_ext (by with_reducible assumption)) | with_reducible assumption | ((with_reducible refine Chg.setCell ?_ ?_ _); rotate_left; focus (first | (simp; done) | (simp; omega))) | (with_reducible refine Chg.alloc ?_ _) | (with_reducible refine Chg.drew ?_) | (with_reducible refine Chg.trans ?_ (Chg.of_ext (by with_reducible assumption)))))) (fun k hk => by omega)) (by omega)) HV.out rfl (by have := E0.trans he; (repeat (first | with_reducible exact Ext.refl _ | with_reducible assumption | ((with_reducible refine Ext.setCell ?_ ?_ _); rotate_left; focus (first | (simp; done) | (simp; omega))) | (with_reducible refine Ext.trans ?_ (Ext.alloc _ _)) | (with_reducible refine Ext.trans ?_ (Ext.drew _)) | (with_reducible refine Ext.trans ?_ (by with_reducible assumption)))))
end Go.Proofs.Ytbdcjhhphkckcaa.lNewLab
