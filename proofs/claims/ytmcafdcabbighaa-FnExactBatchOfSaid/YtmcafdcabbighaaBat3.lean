/- BatchOf: the program's; the law. -/
import Derived.Test.YtmcafdcabbighaaBat2
namespace Go.Proofs.Ytmcafdcabbighaa
set_option linter.unusedSimpArgs false
set_option linter.unusedVariables false
open Go.RowKit

theorem subp_row {g l c : Nat} (h : c ≠ l) : subp (some ⟨g, 0, none⟩) 1 l c = some ⟨g, l, none⟩ := by
  unfold subp; rw [if_neg h]; simp [Addr.add_lit]

set_option maxRecDepth 100000 in
set_option maxHeartbeats 1000000 in
theorem BatchOf_any (n b s st : Int) (w : World) : Calls Try.prog 31 #[.int .i64 n, .int .i64 b, .int .i64 s, .int .i64 st] w (RowOk w.heap.size w (batR n b s st)) := by
  by_cases h : inB n 1 16 = true ∧ inB b 1 16 = true ∧ inB s 0 2147483647 = true ∧ inB st 0 1000 = true
  · obtain ⟨h1, h2, h3, h4⟩ := h
    obtain ⟨a1, a2⟩ := inB_true.1 h1
    obtain ⟨b1, b2⟩ := inB_true.1 h2
    obtain ⟨c1, c2⟩ := inB_true.1 h3
    obtain ⟨d1, d2⟩ := inB_true.1 h4
    obtain ⟨n, rfl⟩ : ∃ m : Nat, n = m := ⟨n.toNat, by omega⟩
    obtain ⟨b, rfl⟩ : ∃ m : Nat, b = m := ⟨b.toNat, by omega⟩
    obtain ⟨st, rfl⟩ : ∃ m : Nat, st = m := ⟨st.toNat, by omega⟩
    have hr : batR (n : Int) b s st = (batXs n b s st, true) := by unfold batR; rw [if_pos ⟨h1, h2, h3, h4⟩]; rfl
    rw [hr]
    clear hr
    obtain ⟨k1, k2, k3, k4, k5⟩ := bat_facts (n := n) (b := b) (st := st) (by omega) (by omega) (by omega) (by omega) (by omega)
    have hk : ((n : Int) + b - 1) / b = (batK n b : Int) := by unfold batK; rw [show (n : Int) + b - 1 = ((n + b - 1 : Nat) : Int) by omega]; simp
    have hf : (st : Int) % (batK n b : Int) * b = (batF n b st : Int) := by unfold batF; simp
    have hq : (st : Int) / (batK n b : Int) = ((st / batK n b : Nat) : Int) := by simp
    have hl : (shuf n (batS n b s st)).1.length = n := by rw [shuf, shufGo_length, length_upTo]
    have hX : (batXs n b s st).length = min (batF n b st + b) n - batF n b st := by unfold batXs; rw [List.length_drop, List.length_take, hl]; omega
    have hXe : batXs n b s st = ((shuf n (batS n b s st)).1.take (min (batF n b st + b) n)).drop (batF n b st) := rfl
    have hS : batS n b s st = nxt ((s + 7919 * ((st / batK n b : Nat) : Int)) % 2147483648) := rfl
    have nb := nxt_bd ((s + 7919 * ((st / batK n b : Nat) : Int)) % 2147483648)
    rw [← hS] at nb
    generalize batF n b st = F at *
    generalize hqq : st / batK n b = q at *
    generalize hkk : batK n b = K at *
    have Hqq := hid hqq
    have Hkk := hid hkk
    clear hqq hkk
    generalize batXs n b s st = X at *
    have HX := hid hX
    have HXe := hid hXe
    have HS := hid hS
    clear hX hXe hS
    go_enter Try.func31, Try.ntmps31
    go_wp2_with fail
    refine (isSide_any _ _).mono ?_
    rintro e w1 ⟨rfl, rfl⟩
    go_wp2_with fail
    refine (isSide_any _ _).mono ?_
    rintro e w1 ⟨rfl, rfl⟩
    go_wp2_with fail
    refine (isSeed_any _ _).mono ?_
    rintro e w1 ⟨rfl, rfl⟩
    go_wp2_with fail
    refine (within_any _ _ _ _).mono ?_
    rintro e w1 ⟨rfl, rfl⟩
    go_wp2_with fail
    refine (nextSeed_any _ _ (by omega) (by omega)).mono ?_
    rintro e w1 ⟨rfl, rfl⟩
    rw [← HS.out]
    generalize batS n b s st = S at *
    go_wp2_with fail
    refine (shuffled_any n S _ (by omega) (by omega) nb.1 nb.2).mono ?_
    rintro e w1 ⟨g, c, rfl, hown, he⟩
    have hc := own_Cs hown
    have hcap := (own_cap hown).1
    generalize (shuf n S).1 = R at *
    have hRl : (R.map (Value.int .i64)).length = n := by simp [hl]
    have hsub := hc.sub (s := 1) (l := F) (hi := min (F + b) n) (c := c) (by omega) (by omega)
    rw [Nat.mul_one, Nat.mul_one, ← List.map_take, ← List.map_drop, ← HXe.out, subp_row (by omega)] at hsub
    have hXn : X.length ≤ 16 := by have := HX.out; omega
    have hXc : X.length ≤ c - F := by have := HX.out; omega
    go_wp2_with fail
    all_goals
      first
        | rw [show ((F : Int) + (b : Int)).toNat - F = X.length by have := HX.out; omega]
        | rw [show (n : Int).toNat - F = X.length by have := HX.out; omega]
        | rw [show n - F = X.length by have := HX.out; omega]
      refine (clone_any _ _ _ X _ rfl (by omega) hsub hXc rfl).mono ?_
      rintro e w2 ⟨p, d, rfl, own2, e2⟩
      go_wp2
      go_ret2
      exact ⟨p, d, rfl, own_base own2 he.size, he.trans e2⟩
  · rw [batR_no h]
    have hno : ∀ {e w'}, e = Ending.returned (.tuple #[.slice none 0 0, .bool false]) → Ext w w' → RowOk w.heap.size w ([], false) e w' := fun he hx => ⟨none, 0, he, World.ownsRow_nil _ _ _ _, hx⟩
    by_cases h1 : inB n 1 16 = true
    · by_cases h2 : inB b 1 16 = true
      · by_cases h3 : inB s 0 2147483647 = true
        · have h4 : inB st 0 1000 = false := by simpa [h1, h2, h3] using h
          go_enter Try.func31, Try.ntmps31
          go_wp2_with (first | (refine (isSide_any _ _).mono ?_; rintro e w1 ⟨rfl, rfl⟩) | (refine (isSeed_any _ _).mono ?_; rintro e w1 ⟨rfl, rfl⟩) | (refine (within_any _ _ _ _).mono ?_; rintro e w1 ⟨rfl, rfl⟩))
          go_ret2
          exact hno rfl (Ext.refl _)
        · have h3 : inB s 0 2147483647 = false := by simpa using h3
          go_enter Try.func31, Try.ntmps31
          go_wp2_with (first | (refine (isSide_any _ _).mono ?_; rintro e w1 ⟨rfl, rfl⟩) | (refine (isSeed_any _ _).mono ?_; rintro e w1 ⟨rfl, rfl⟩) | (refine (within_any _ _ _ _).mono ?_; rintro e w1 ⟨rfl, rfl⟩))
          go_ret2
          exact hno rfl (Ext.refl _)
      · have h2 : inB b 1 16 = false := by simpa using h2
        go_enter Try.func31, Try.ntmps31
        go_wp2_with (first | (refine (isSide_any _ _).mono ?_; rintro e w1 ⟨rfl, rfl⟩) | (refine (isSeed_any _ _).mono ?_; rintro e w1 ⟨rfl, rfl⟩) | (refine (within_any _ _ _ _).mono ?_; rintro e w1 ⟨rfl, rfl⟩))
        go_ret2
        exact hno rfl (Ext.refl _)
    · have h1 : inB n 1 16 = false := by simpa using h1
      go_enter Try.func31, Try.ntmps31
      go_wp2_with (first | (refine (isSide_any _ _).mono ?_; rintro e w1 ⟨rfl, rfl⟩) | (refine (isSeed_any _ _).mono ?_; rintro e w1 ⟨rfl, rfl⟩) | (refine (within_any _ _ _ _).mono ?_; rintro e w1 ⟨rfl, rfl⟩))
      go_ret2
      exact hno rfl (Ext.refl _)
end Go.Proofs.Ytmcafdcabbighaa
