/- WorkerRows of the program and of the reference. -/
import Derived.Test.YtmcafdcabbighaaGrow
import Derived.Test.YtmcafdcabbighaaHInt64SS
import Derived.Test.YtmcafdcabbighaaBatch
namespace Go.Proofs.Ytmcafdcabbighaa
set_option linter.unusedSimpArgs false
set_option linter.unusedVariables false
open Go.RowKit

def wrN (r k i : Nat) : Nat := r / k + if i < r % k then 1 else 0
def wrF (r k : Nat) : Nat → Nat
  | 0 => 0
  | i + 1 => wrF r k i + wrN r k i
def wrRows (r k n : Nat) : List (List Int) := (List.range n).map fun i => [(wrF r k i : Int), (wrN r k i : Int)]
theorem wrRows_len (r k n : Nat) : (wrRows r k n).length = n := by simp [wrRows]
theorem wrRows_succ (r k n : Nat) : wrRows r k (n + 1) = wrRows r k n ++ [[(wrF r k n : Int), (wrN r k n : Int)]] := by simp [wrRows, List.range_succ]
theorem wrN_le {r k : Nat} (hr : r ≤ 16) (i : Nat) : wrN r k i ≤ 17 := by
  unfold wrN
  have := Nat.div_le_self r k
  split <;> omega
theorem wrF_le {r k : Nat} (hr : r ≤ 16) : ∀ i, wrF r k i ≤ 17 * i
  | 0 => by simp [wrF]
  | i + 1 => by have := wrF_le (k := k) hr i; have := wrN_le (k := k) hr i; simp only [wrF]; omega

theorem own_ints2 {w : World} (a b : Int) : Own (w.alloc (.cells #[.int .i64 a, .int .i64 b] 2)) (.sl .int) [.slice (some ⟨w.heap.size, 0, none⟩) 2 2] [a, b] [w.heap.size] :=
  own_ints.2 ⟨some ⟨w.heap.size, 0, none⟩, 2, rfl, .inr ⟨w.heap.size, _, _, rfl, heap_alloc_new w _, rfl⟩, Nat.le_refl 2, by unfold maxLen; decide, rfl⟩

set_option maxRecDepth 100000 in
set_option maxHeartbeats 1000000 in
theorem l10Rows_any (r k : Nat) (w : World) (hr1 : 1 ≤ r) (hr : r ≤ 16) (hk1 : 1 ≤ k) (hk : k ≤ 8) :
    Calls Try.prog 79 #[.int .i64 r, .int .i64 k] w (RetOwn w (.sl (.sl .int)) (wrRows r k k)) := by
  have hq : (r : Int) / (k : Int) = ((r / k : Nat) : Int) := by simp
  have hm : (r : Int) % (k : Int) = ((r % k : Nat) : Int) := by simp
  have hq' : r / k ≤ 16 := Nat.le_trans (Nat.div_le_self r k) hr
  have hF := fun i => wrF_le (k := k) hr i
  have HN : ∀ i, Hid (wrN r k i = r / k + if i < r % k then 1 else 0) := fun i => rfl
  have HFs : ∀ i, Hid (wrF r k (i + 1) = wrF r k i + wrN r k i) := fun i => rfl
  have hn17 := fun i => wrN_le (k := k) hr i
  generalize r / k = q at *
  generalize r % k = m at *
  go_enter Try.func79, Try.ntmps79
  go_wp2
  have hstart : (w.alloc (.cells #[] 29)).ownsRow w.heap.size 29 (Sh.sz (.sl .int)) (.slice (some ⟨w.heap.size, 0, none⟩) 0 0) 0 [] := World.ownsRow_made w #[] 0 (Nat.le_refl _) (by decide) rfl
  go_loopw [5, 6, 7] (fun v fv iv wr => ∃ (i : Nat) (css : List (List Value)) (bss : List (List Nat)), i ≤ k ∧ iv = .int .i64 i ∧ fv = .int .i64 (wrF r k i) ∧ GrowOwn wr w.heap.size 29 (.sl .int) v (wrRows r k i) css bss ∧ Ext w wr) (fun _ _ iv _ => k - (intOf iv).toNat)
  case atStart => exact ⟨0, [], [], by omega, rfl, rfl, GrowOwn.empty hstart, Ext.alloc w _⟩
  case round =>
    clear hstart
    obtain ⟨i, css, bss, hi, rfl, rfl, hown, he⟩ := hrel
    by_cases hlt : i < k
    · have hfi := hF i
      have hni := hn17 i
      by_cases him : i < m
      all_goals
        have hN := (HN i).out
        first | rw [if_pos him] at hN | (rw [if_neg him, Nat.add_zero] at hN)
        generalize hNe : wrN r k i = N at *
        have HNe := hid hNe
        clear hNe
        generalize hFe : wrF r k i = F at *
        have HFe := hid hFe
        clear hFe
        subst hN
        have hl := hid (wrRows_len r k i)
        have hrow := hown.row
        rw [hl.out] at hrow
        go_wp2_with (refine wl_app1b (u := .slice (some ⟨wr.heap.size, 0, none⟩) 2 2) rfl rfl rfl rfl rfl (by rfl) (by rfl) (fun _ => rfl) (fun _ => rfl) (own_ext hrow (Ext.alloc _ _)) (by unfold maxLen; omega) (by omega) (by have := he.size; simp; omega) ?_; intro g c w1 h1 g1 hw1)
        go_roundw
        case rel =>
          refine ⟨i + 1, css ++ [[.slice (some ⟨wr.heap.size, 0, none⟩) 2 2]], bss ++ [[wr.heap.size]], by omega, by go_num, ?_, ?_, (he.trans (Ext.alloc wr _)).grown g1 (own_le hrow)⟩
          · rw [(HFs i).out, HFe.out, HNe.out]; rfl
          · rw [wrRows_succ, HFe.out, HNe.out]
            exact hown.snoc (Ext.alloc wr _) (own_ints2 _ _) (by simp) (by simp) he.size hl.out h1 g1 hw1
        case measure => simp [intOf]; omega
    · obtain rfl : i = k := by omega
      go_wp2
      go_ret
      obtain ⟨bs, h1, h2, h3⟩ := hown.own
      exact ⟨_, bs, rfl, h1, h2, h3, he⟩

/-- What WorkerRows gives. -/
def wrR (r k : Int) : List (List Int) × Bool := if inB r 1 16 = true ∧ inB k 1 (min r 8) = true then (wrRows r.toNat k.toNat k.toNat, true) else ([], false)
theorem wrR_no {r k : Int} (h : ¬ (inB r 1 16 = true ∧ inB k 1 (min r 8) = true)) : wrR r k = ([], false) := by unfold wrR; rw [if_neg h]
/-- A list of one's own, and a word whether it went well. -/
def OutOk (w : World) (s : Sh) (r : s.T × Bool) (e : Ending) (w' : World) : Prop :=
  ∃ cs bs, e = .returned (.tuple #[ofCs s cs, .bool r.2]) ∧ Own w' s cs r.1 bs ∧ bs.Nodup ∧ (∀ b ∈ bs, w.heap.size ≤ b) ∧ Ext w w'
theorem own_nil {w : World} {e : Sh} : Own w (.sl e) [.slice none 0 0] [] [] :=
  own_sl.2 ⟨none, 0, [], [], rfl, .inl ⟨rfl, rfl, rfl, rfl⟩, Nat.le_refl _, Nat.zero_le _, ⟨rfl, rfl, fun i cs bs d h => by simp at h⟩, rfl⟩
theorem outOk_no {w : World} {e : Sh} {en : Ending} {w' : World} (h : en = .returned (.tuple #[.slice none 0 0, .bool false])) (hx : Ext w w') : OutOk w (.sl e) ([], false) en w' :=
  ⟨[.slice none 0 0], [], h, own_nil, by simp, by simp, hx⟩

set_option maxRecDepth 100000 in
set_option maxHeartbeats 1000000 in
theorem l10Workers_any (r k : Int) (w : World) : Calls Try.prog 78 #[.int .i64 r, .int .i64 k] w fun e w' => e = .returned (.bool (inB r 1 16 && inB k 1 (min r 8))) ∧ w = w' := by
  by_cases h1 : inB r 1 16 = true
  · go_enter Try.func78, Try.ntmps78
    go_wp2_with (first | (refine (l00In_any _ _ _ _).mono ?_; rintro e w1 ⟨rfl, rfl⟩) | (refine (l00Min_any _ _ _).mono ?_; rintro e w1 ⟨rfl, rfl⟩))
    go_ret
    exact ⟨ret_bool (by rw [h1]; rfl), rfl⟩
  · have h1 : inB r 1 16 = false := by simpa using h1
    go_enter Try.func78, Try.ntmps78
    go_wp2_with (first | (refine (l00In_any _ _ _ _).mono ?_; rintro e w1 ⟨rfl, rfl⟩) | (refine (l00Min_any _ _ _).mono ?_; rintro e w1 ⟨rfl, rfl⟩))
    go_ret
    exact ⟨ret_bool (by rw [h1]; rfl), rfl⟩

set_option maxRecDepth 100000 in
set_option maxHeartbeats 1000000 in
theorem specWorkerRows_any (r k : Int) (w : World) : Calls Try.prog 32 #[.int .i64 r, .int .i64 k] w (OutOk w (.sl (.sl .int)) (wrR r k)) := by
  by_cases h : inB r 1 16 = true ∧ inB k 1 (min r 8) = true
  · obtain ⟨h1, h2⟩ := h
    obtain ⟨a1, a2⟩ := inB_true.1 h1
    obtain ⟨b1, b2⟩ := inB_true.1 h2
    have hr : wrR r k = (wrRows r.toNat k.toNat k.toNat, true) := by unfold wrR; rw [if_pos ⟨h1, h2⟩]
    rw [hr]
    clear hr
    have hb : (inB r 1 16 && inB k 1 (min r 8)) = true := by rw [h1, h2]; rfl
    obtain ⟨r, rfl⟩ : ∃ m : Nat, r = m := ⟨r.toNat, by omega⟩
    obtain ⟨k, rfl⟩ : ∃ m : Nat, k = m := ⟨k.toNat, by omega⟩
    go_enter Try.func32, Try.ntmps32
    go_wp2_with fail
    refine (l10Workers_any _ _ _).mono ?_
    rintro e w1 ⟨rfl, rfl⟩
    rw [hb]
    go_wp2_with fail
    refine (l10Rows_any r k _ (by omega) (by omega) (by omega) (by omega)).mono ?_
    rintro e w1 ⟨cs, bs, rfl, ow, nd, lo, he⟩
    go_wp2
    go_ret2
    exact ⟨cs, bs, rfl, ow, nd, lo, he⟩
  · rw [wrR_no h]
    have hb : (inB r 1 16 && inB k 1 (min r 8)) = false := by simpa using h
    go_enter Try.func32, Try.ntmps32
    go_wp2_with fail
    refine (l10Workers_any _ _ _).mono ?_
    rintro e w1 ⟨rfl, rfl⟩
    rw [hb]
    go_wp2
    go_ret2
    exact outOk_no rfl (Ext.refl _)
end Go.Proofs.Ytmcafdcabbighaa
