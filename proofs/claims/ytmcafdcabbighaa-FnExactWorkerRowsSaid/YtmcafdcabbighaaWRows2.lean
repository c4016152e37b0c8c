/- WorkerRows: the program's. -/
import Derived.Test.YtmcafdcabbighaaWRows
namespace Go.Proofs.Ytmcafdcabbighaa
set_option linter.unusedSimpArgs false
set_option linter.unusedVariables false
open Go.RowKit

set_option maxRecDepth 100000 in
set_option maxHeartbeats 1000000 in
theorem WorkerRows_yes (r k : Nat) (w : World) (hr1 : 1 ≤ r) (hr : r ≤ 16) (hk1 : 1 ≤ k) (hk : k ≤ 8) (hkr : k ≤ r) :
    Calls Try.prog 33 #[.int .i64 r, .int .i64 k] w (OutOk w (.sl (.sl .int)) (wrRows r k k, true)) := by
  have c1 : inB (r : Int) 1 16 = true := inB_true.2 (by omega)
  have c2 : inB (k : Int) 1 8 = true := inB_true.2 (by omega)
  have c3 : inB (k : Int) 1 (r : Int) = true := inB_true.2 (by omega)
  have hq : (r : Int) / (k : Int) = ((r / k : Nat) : Int) := by simp
  have hm : (r : Int) % (k : Int) = ((r % k : Nat) : Int) := by simp
  have hq' : r / k ≤ 16 := Nat.le_trans (Nat.div_le_self r k) hr
  have hF := fun i => wrF_le (k := k) hr i
  have HN : ∀ i, Hid (wrN r k i = r / k + if i < r % k then 1 else 0) := fun i => rfl
  have HFs : ∀ i, Hid (wrF r k (i + 1) = wrF r k i + wrN r k i) := fun i => rfl
  have hn17 := fun i => wrN_le (k := k) hr i
  generalize r / k = q at *
  generalize r % k = m at *
  go_enter Try.func33, Try.ntmps33
  go_wp2_with fail
  refine (isSide_any _ _).mono ?_
  rintro e w1 ⟨rfl, rfl⟩
  go_wp2_with fail
  all_goals
    refine (within_any _ _ _ _).mono ?_
    rintro e w1 ⟨rfl, rfl⟩
    go_wp2
  all_goals
    have hstart : (w.alloc (.cells #[] 29)).ownsRow w.heap.size 29 (Sh.sz (.sl .int)) (.slice (some ⟨w.heap.size, 0, none⟩) 0 0) 0 [] := World.ownsRow_made w #[] 0 (Nat.le_refl _) (by decide) rfl
    go_loopw [6, 7, 22] (fun v fv iv wr => ∃ (i : Nat) (css : List (List Value)) (bss : List (List Nat)), i ≤ k ∧ iv = .int .i64 i ∧ fv = .int .i64 (wrF r k i) ∧ GrowOwn wr w.heap.size 29 (.sl .int) v (wrRows r k i) css bss ∧ Ext w wr) (fun _ _ iv _ => k - (intOf iv).toNat)
    case atStart => exact ⟨0, [], [], by omega, rfl, rfl, GrowOwn.empty hstart, Ext.alloc w _⟩
    case round =>
      clear hstart
      obtain ⟨i, css, bss, hi, rfl, rfl, hown, he⟩ := hrel
      by_cases hlt : i < k
      · have hfi := hF i
        have hni := hn17 i
        by_cases him : i < m
        all_goals
          have hN := (HN i).out
          first | rw [if_pos him] at hN | (rw [if_neg him, Nat.add_zero] at hN)
          generalize hNe : wrN r k i = N at *
          have HNe := hid hNe
          clear hNe
          generalize hFe : wrF r k i = F at *
          have HFe := hid hFe
          clear hFe
          subst hN
          have hl := hid (wrRows_len r k i)
          have hrow := hown.row
          rw [hl.out] at hrow
          go_wp2_with (refine wl_app1b (u := .slice (some ⟨wr.heap.size, 0, none⟩) 2 2) rfl rfl rfl rfl rfl (by rfl) (by rfl) (fun _ => rfl) (fun _ => rfl) (own_ext hrow (Ext.alloc _ _)) (by unfold maxLen; omega) (by omega) (by have := he.size; simp; omega) ?_; intro g c w1 h1 g1 hw1)
          go_roundw
          case rel =>
            refine ⟨i + 1, css ++ [[.slice (some ⟨wr.heap.size, 0, none⟩) 2 2]], bss ++ [[wr.heap.size]], by omega, by go_num, ?_, ?_, (he.trans (Ext.alloc wr _)).grown g1 (own_le hrow)⟩
            · rw [(HFs i).out, HFe.out, HNe.out]; rfl
            · rw [wrRows_succ, HFe.out, HNe.out]
              exact hown.snoc (Ext.alloc wr _) (own_ints2 _ _) (by simp) (by simp) he.size hl.out h1 g1 hw1
          case measure => simp [intOf]; omega
      · obtain rfl : i = k := by omega
        go_wp2
        go_ret2
        obtain ⟨bs, h1, h2, h3⟩ := hown.own
        exact ⟨_, bs, rfl, h1, h2, h3, he⟩

set_option maxRecDepth 100000 in
set_option maxHeartbeats 1000000 in
theorem WorkerRows_any (r k : Int) (w : World) : Calls Try.prog 33 #[.int .i64 r, .int .i64 k] w (OutOk w (.sl (.sl .int)) (wrR r k)) := by
  by_cases h : inB r 1 16 = true ∧ inB k 1 (min r 8) = true
  · obtain ⟨h1, h2⟩ := h
    obtain ⟨a1, a2⟩ := inB_true.1 h1
    obtain ⟨b1, b2⟩ := inB_true.1 h2
    have hr : wrR r k = (wrRows r.toNat k.toNat k.toNat, true) := by unfold wrR; rw [if_pos ⟨h1, h2⟩]
    rw [hr]
    obtain ⟨r, rfl⟩ : ∃ m : Nat, r = m := ⟨r.toNat, by omega⟩
    obtain ⟨k, rfl⟩ : ∃ m : Nat, k = m := ⟨k.toNat, by omega⟩
    exact WorkerRows_yes r k w (by omega) (by omega) (by omega) (by omega) (by omega)
  · rw [wrR_no h]
    by_cases h1 : inB r 1 16 = true
    · have h2 : inB k 1 (min r 8) = false := by simpa [h1] using h
      have h3 : inB k 1 (min 8 r) = false := by rw [← h2]; congr 1; omega
      by_cases h8 : 8 ≤ r
      · have h4 : inB k 1 8 = false := by rw [← h3]; congr 1; omega
        have h5 : r = 8 → inB k 1 r = false := fun h => by rw [h]; exact h4
        go_enter Try.func33, Try.ntmps33
        go_wp2_with fail
        refine (isSide_any _ _).mono ?_
        rintro e w1 ⟨rfl, rfl⟩
        go_wp2_with fail
        all_goals
          refine (within_any _ _ _ _).mono ?_
          rintro e w1 ⟨rfl, rfl⟩
          go_wp2
          go_ret2
          exact outOk_no rfl (Ext.refl _)
      · have h4 : inB k 1 r = false := by rw [← h3]; congr 1; omega
        go_enter Try.func33, Try.ntmps33
        go_wp2_with fail
        refine (isSide_any _ _).mono ?_
        rintro e w1 ⟨rfl, rfl⟩
        go_wp2_with fail
        all_goals
          refine (within_any _ _ _ _).mono ?_
          rintro e w1 ⟨rfl, rfl⟩
          go_wp2
          go_ret2
          exact outOk_no rfl (Ext.refl _)
    · have h1 : inB r 1 16 = false := by simpa using h1
      go_enter Try.func33, Try.ntmps33
      go_wp2_with fail
      refine (isSide_any _ _).mono ?_
      rintro e w1 ⟨rfl, rfl⟩
      go_wp2
      go_ret2
      exact outOk_no rfl (Ext.refl _)
end Go.Proofs.Ytmcafdcabbighaa
