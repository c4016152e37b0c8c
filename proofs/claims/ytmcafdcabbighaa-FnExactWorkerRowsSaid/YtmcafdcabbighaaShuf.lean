/- Shuffled rows: the program's and the reference's. -/
import Derived.Test.YtmcafdcabbighaaInt
namespace Go.Proofs.Ytmcafdcabbighaa
open Go.RowKit

/-- Two places change what they hold. -/
def swp (l : List Int) (i j : Nat) : List Int := (l.set i (l.getD j 0)).set j (l.getD i 0)
theorem length_swp (l : List Int) (i j : Nat) : (swp l i j).length = l.length := by simp [swp]
def shufGo : Nat → List Int → Int → List Int × Int
  | 0, l, s => (l, s)
  | i + 1, l, s => shufGo i (swp l (i + 1) (nxt s / 65536 % ((i + 1 : Nat) + 1 : Int)).toNat) (nxt s)
def upTo (n : Nat) : List Int := (List.range n).map fun (i : Nat) => (i : Int)
def shuf (count : Nat) (s : Int) : List Int × Int := shufGo (count - 1) (upTo count) s
theorem length_upTo (n : Nat) : (upTo n).length = n := by simp [upTo]
theorem upTo_succ (n : Nat) : upTo (n + 1) = upTo n ++ [(n : Int)] := by simp [upTo, List.range_succ]
theorem shufGo_length : ∀ i l s, (shufGo i l s).1.length = l.length
  | 0, _, _ => rfl
  | i + 1, l, s => by unfold shufGo; rw [shufGo_length i, length_swp]
theorem shufGo_bd : ∀ i l s, 0 ≤ s → s ≤ 2147483647 → 0 ≤ (shufGo i l s).2 ∧ (shufGo i l s).2 ≤ 2147483647
  | 0, _, _, h0, h1 => ⟨h0, h1⟩
  | i + 1, l, s, _, _ => by unfold shufGo; exact shufGo_bd i _ _ (nxt_bd s).1 (nxt_bd s).2

set_option maxRecDepth 100000 in
set_option maxHeartbeats 1000000 in
theorem shuffled_any (n : Nat) (s : Int) (w : World) (hn1 : 1 ≤ n) (hn : n ≤ 16) (h0 : 0 ≤ s) (h1 : s ≤ 2147483647) :
    Calls Try.prog 66 #[.int .i64 n, .int .i64 s] w fun e w' => ∃ g c, e = .returned (.tuple #[.slice (some ⟨g, 0, none⟩) n c, .int .i64 (shuf n s).2]) ∧
      w'.ownsRow w.heap.size 2 1 (.slice (some ⟨g, 0, none⟩) n c) n ((shuf n s).1.map (Value.int .i64)) ∧ Ext w w' := by
  go_enter Try.func66, Try.ntmps66
  go_wp2
  have hstart : (w.alloc (.cells #[] 2)).ownsRow w.heap.size 2 1 (.slice (some ⟨w.heap.size, 0, none⟩) 0 0) 0 [] := World.ownsRow_made w #[] 0 (Nat.le_refl _) (by decide) rfl
  go_loopw [6, 12] (fun v i wr => ∃ k g c : Nat, k ≤ n ∧ i = .int .i64 k ∧ v = .slice (some ⟨g, 0, none⟩) k c ∧ wr.ownsRow w.heap.size 2 1 (.slice (some ⟨g, 0, none⟩) k c) k ((upTo k).map (Value.int .i64)) ∧ Ext w wr) (fun _ i _ => n - (intOf i).toNat)
  case atStart => exact ⟨0, _, _, by omega, rfl, rfl, hstart, Ext.alloc w _⟩
  case round =>
    clear hstart
    obtain ⟨k, g, c, hk, rfl, rfl, hown, he⟩ := hrel
    by_cases hlt : k < n
    · go_wp2_with (refine wl_app1 (u := .int .i64 k) rfl rfl rfl rfl rfl (by rfl) (by rfl) (fun _ => rfl) (fun _ => rfl) hown (by unfold maxLen; omega) (by omega) he.size ?_; intro g1 c1 w1 h1 hg1)
      go_roundw
      case rel => exact ⟨k + 1, g1, c1, by omega, by go_num, rfl, by rw [upTo_succ, List.map_append]; exact h1, he.grown hg1 (fun j hj => by cases hj; exact (own_B hown).1)⟩
      case measure => simp [intOf]; omega
    · obtain rfl : k = n := by omega
      go_wp2
      have hfin : shuf k s = shufGo (k - 1) (upTo k) s := rfl
      have Hfin := hid hfin
      clear hfin
      go_loopw [1, 8] (fun sv iv wr => ∃ (i : Nat) (l : List Int) (sd : Int), i < k ∧ iv = .int .i64 i ∧ sv = .int .i64 sd ∧ 0 ≤ sd ∧ sd ≤ 2147483647 ∧ l.length = k ∧
        shuf k s = shufGo i l sd ∧ wr.ownsRow w.heap.size 2 1 (.slice (some ⟨g, 0, none⟩) k c) k (l.map (Value.int .i64)) ∧ Ext w wr) (fun _ iv _ => (intOf iv).toNat)
      case atStart => exact ⟨k - 1, upTo k, s, by omega, by go_num, rfl, h0, h1, length_upTo k, Hfin.out, hown, he⟩
      case round =>
        clear hown he Hfin
        obtain ⟨i, l, sd, hi, rfl, rfl, h0, h1, hl, hfin, hown, he⟩ := hrel
        have Hl := hid hl
        have Hfin := hid hfin
        clear hl hfin
        by_cases hlt : 1 ≤ i
        · have nb := nxt_bd sd
          go_wp2_with (go_at_call 76; refine (nextSeed_any _ _ (by omega) (by omega)).mono ?_; rintro e w' ⟨rfl, rfl⟩)
          have m0 := Int.emod_nonneg (nxt sd / 65536) (show (i : Int) + 1 ≠ 0 by omega)
          have m1 := Int.emod_lt_of_pos (nxt sd / 65536) (show 0 < (i : Int) + 1 by omega)
          obtain ⟨j, hj⟩ : ∃ j : Nat, nxt sd / 65536 % ((i : Int) + 1) = (j : Int) := ⟨(nxt sd / 65536 % ((i : Int) + 1)).toNat, by omega⟩
          have hji : j ≤ i := by omega
          have hjk : j < k := by omega
          clear m0 m1
          rw [hj]
          have Hj := hid hj
          clear hj
          have hz : (l.map (Value.int .i64)).length = k := by rw [List.length_map]; exact Hl.out
          have ci : wr.cell? ⟨g, i, none⟩ = some (.int .i64 (l[i]?.getD 0)) := by rw [hown.cellAt i (by omega), List.getElem?_map]; simp [show i < l.length by rw [Hl.out]; omega]
          have cj : wr.cell? ⟨g, j, none⟩ = some (.int .i64 (l[j]?.getD 0)) := by rw [hown.cellAt j (by omega), List.getElem?_map]; simp [show j < l.length by rw [Hl.out]; omega]
          have fi := hown.frozenAt i
          have fj := hown.frozenAt j
          obtain ⟨v', hy'⟩ := cell?_setCell_some (w := wr) (p := ⟨g, i, none⟩) (x := .int .i64 (l[j]?.getD 0)) (q := ⟨g, j, none⟩) (v := .int .i64 (l[j]?.getD 0)) cj
          go_region
          have hB := (own_B hown).1
          have s1 := hown.stored i (.int .i64 (l[j]?.getD 0))
          have s2 := s1.1.stored j (.int .i64 (l[i]?.getD 0))
          have e2 := (he.setCell (p := ⟨g, i, none⟩) hB (.int .i64 (l[j]?.getD 0))).setCell (p := ⟨g, j, none⟩) hB (.int .i64 (l[i]?.getD 0))
          have hsw : ((l.map (Value.int .i64)).set i (.int .i64 (l[j]?.getD 0))).set j (.int .i64 (l[i]?.getD 0)) = (swp l i j).map (Value.int .i64) := by
            simp [swp, List.map_set]
          have s3 := s2.1
          rw [hsw] at s3
          clear s1 s2 hsw hy' ci cj fi fj
          go_wp2
          go_roundw
          case rel =>
            refine ⟨i - 1, swp l i j, nxt sd, by omega, by go_num, rfl, nb.1, nb.2, by rw [length_swp]; exact Hl.out, ?_, s3.drew, e2.trans (Ext.drew _)⟩
            rw [Hfin.out]
            obtain ⟨m, rfl⟩ : ∃ m, i = m + 1 := ⟨i - 1, by omega⟩
            rw [shufGo, Nat.add_sub_cancel]
            have : (nxt sd / 65536 % ((m + 1 : Nat) + 1 : Int)).toNat = j := by rw [Hj.out]; rfl
            rw [this]
          case measure => simp [intOf]; omega
        · obtain rfl : i = 0 := by omega
          go_wp2
          go_ret2
          have hf : shuf k s = (l, sd) := by rw [Hfin.out]; rfl
          rw [hf]
          exact ⟨g, c, rfl, hown, he⟩
set_option maxRecDepth 100000 in
set_option maxHeartbeats 1000000 in
theorem l07Shuffle_any (n : Nat) (s : Int) (w : World) (hn1 : 1 ≤ n) (hn : n ≤ 16) (h0 : 0 ≤ s) (h1 : s ≤ 2147483647) :
    Calls Try.prog 63 #[.int .i64 n, .int .i64 s] w fun e w' => ∃ g c, e = .returned (.tuple #[.slice (some ⟨g, 0, none⟩) n c, .int .i64 (shuf n s).2]) ∧
      w'.ownsRow w.heap.size 2 1 (.slice (some ⟨g, 0, none⟩) n c) n ((shuf n s).1.map (Value.int .i64)) ∧ Ext w w' := by
  go_enter Try.func63, Try.ntmps63
  go_wp2
  have hstart : (w.alloc (.cells #[] 2)).ownsRow w.heap.size 2 1 (.slice (some ⟨w.heap.size, 0, none⟩) 0 0) 0 [] := World.ownsRow_made w #[] 0 (Nat.le_refl _) (by decide) rfl
  go_loopw [6, 7] (fun v i wr => ∃ k g c : Nat, k ≤ n ∧ i = .int .i64 k ∧ v = .slice (some ⟨g, 0, none⟩) k c ∧ wr.ownsRow w.heap.size 2 1 (.slice (some ⟨g, 0, none⟩) k c) k ((upTo k).map (Value.int .i64)) ∧ Ext w wr) (fun _ i _ => n - (intOf i).toNat)
  case atStart => exact ⟨0, _, _, by omega, rfl, rfl, hstart, Ext.alloc w _⟩
  case round =>
    clear hstart
    obtain ⟨k, g, c, hk, rfl, rfl, hown, he⟩ := hrel
    by_cases hlt : k < n
    · go_wp2_with (refine wl_app1 (u := .int .i64 k) rfl rfl rfl rfl rfl (by rfl) (by rfl) (fun _ => rfl) (fun _ => rfl) hown (by unfold maxLen; omega) (by omega) he.size ?_; intro g1 c1 w1 h1 hg1)
      go_roundw
      case rel => exact ⟨k + 1, g1, c1, by omega, by go_num, rfl, by rw [upTo_succ, List.map_append]; exact h1, he.grown hg1 (fun j hj => by cases hj; exact (own_B hown).1)⟩
      case measure => simp [intOf]; omega
    · obtain rfl : k = n := by omega
      go_wp2
      have hfin : shuf k s = shufGo (k - 1) (upTo k) s := rfl
      have Hfin := hid hfin
      clear hfin
      go_loopw [1, 8] (fun sv iv wr => ∃ (i : Nat) (l : List Int) (sd : Int), i < k ∧ iv = .int .i64 i ∧ sv = .int .i64 sd ∧ 0 ≤ sd ∧ sd ≤ 2147483647 ∧ l.length = k ∧
        shuf k s = shufGo i l sd ∧ wr.ownsRow w.heap.size 2 1 (.slice (some ⟨g, 0, none⟩) k c) k (l.map (Value.int .i64)) ∧ Ext w wr) (fun _ iv _ => (intOf iv).toNat)
      case atStart => exact ⟨k - 1, upTo k, s, by omega, by go_num, rfl, h0, h1, length_upTo k, Hfin.out, hown, he⟩
      case round =>
        clear hown he Hfin
        obtain ⟨i, l, sd, hi, rfl, rfl, h0, h1, hl, hfin, hown, he⟩ := hrel
        have Hl := hid hl
        have Hfin := hid hfin
        clear hl hfin
        by_cases hlt : 1 ≤ i
        · have nb := nxt_bd sd
          go_wp2_with fail
          refine (l07Next_any _ _ (by omega) (by omega)).mono ?_
          rintro e w' ⟨rfl, rfl⟩
          have m0 := Int.emod_nonneg (nxt sd / 65536) (show (i : Int) + 1 ≠ 0 by omega)
          have m1 := Int.emod_lt_of_pos (nxt sd / 65536) (show 0 < (i : Int) + 1 by omega)
          obtain ⟨j, hj⟩ : ∃ j : Nat, nxt sd / 65536 % ((i : Int) + 1) = (j : Int) := ⟨(nxt sd / 65536 % ((i : Int) + 1)).toNat, by omega⟩
          have hji : j ≤ i := by omega
          have hjk : j < k := by omega
          clear m0 m1
          have hz : (l.map (Value.int .i64)).length = k := by rw [List.length_map]; exact Hl.out
          have ci : wr.cell? ⟨g, i, none⟩ = some (.int .i64 (l[i]?.getD 0)) := by rw [hown.cellAt i (by omega), List.getElem?_map]; simp [show i < l.length by rw [Hl.out]; omega]
          have cj : wr.cell? ⟨g, j, none⟩ = some (.int .i64 (l[j]?.getD 0)) := by rw [hown.cellAt j (by omega), List.getElem?_map]; simp [show j < l.length by rw [Hl.out]; omega]
          have fi := hown.frozenAt i
          have fj := hown.frozenAt j
          obtain ⟨v', hy'⟩ := cell?_setCell_some (w := wr) (p := ⟨g, i, none⟩) (x := .int .i64 (l[j]?.getD 0)) (q := ⟨g, j, none⟩) (v := .int .i64 (l[j]?.getD 0)) cj
          go_wp2
          have hB := (own_B hown).1
          have s1 := hown.stored i (.int .i64 (l[j]?.getD 0))
          have s2 := s1.1.stored j (.int .i64 (l[i]?.getD 0))
          have e2 := (he.setCell (p := ⟨g, i, none⟩) hB (.int .i64 (l[j]?.getD 0))).setCell (p := ⟨g, j, none⟩) hB (.int .i64 (l[i]?.getD 0))
          have hsw : ((l.map (Value.int .i64)).set i (.int .i64 (l[j]?.getD 0))).set j (.int .i64 (l[i]?.getD 0)) = (swp l i j).map (Value.int .i64) := by
            simp [swp, List.map_set]
          have s3 := s2.1
          rw [hsw] at s3
          clear s1 s2 hsw hy' ci cj fi fj
          go_roundw
          case rel =>
            refine ⟨i - 1, swp l i j, nxt sd, by omega, by go_num, rfl, nb.1, nb.2, by rw [length_swp]; exact Hl.out, ?_, s3, e2⟩
            rw [Hfin.out]
            obtain ⟨m, rfl⟩ : ∃ m, i = m + 1 := ⟨i - 1, by omega⟩
            rw [shufGo, Nat.add_sub_cancel]
            have : (nxt sd / 65536 % ((m + 1 : Nat) + 1 : Int)).toNat = j := by rw [show ((m + 1 : Nat) : Int) + 1 = ((m + 1 : Nat) : Int) + 1 from rfl, hj]; rfl
            rw [this]
          case measure => simp [intOf]; omega
        · obtain rfl : i = 0 := by omega
          go_wp2
          go_ret2
          have hf : shuf k s = (l, sd) := by rw [Hfin.out]; rfl
          rw [hf]
          exact ⟨g, c, rfl, hown, he⟩
end Go.Proofs.Ytmcafdcabbighaa
