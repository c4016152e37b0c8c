/- BatchOf: the reference's inner part. -/
import Derived.Test.YtmcafdcabbighaaBatch
namespace Go.Proofs.Ytmcafdcabbighaa
set_option linter.unusedSimpArgs false
set_option linter.unusedVariables false
open Go.RowKit

set_option maxRecDepth 100000 in
set_option maxHeartbeats 1000000 in
theorem l07Batch_any (n b st : Nat) (s : Int) (w : World) (hn : 1 ≤ n) (hn' : n ≤ 16) (hb : 1 ≤ b) (hb' : b ≤ 16) (hs : st ≤ 1000) (h0 : 0 ≤ s) (h1 : s ≤ 2147483647) :
    Calls Try.prog 75 #[.int .i64 n, .int .i64 b, .int .i64 s, .int .i64 st] w fun e w' => ∃ q d, e = .returned (.slice q (batXs n b s st).length d) ∧
      w'.ownsRow w.heap.size 2 1 (.slice q (batXs n b s st).length d) (batXs n b s st).length ((batXs n b s st).map (Value.int .i64)) ∧ Ext w w' := by
  obtain ⟨k1, k2, k3, k4, k5⟩ := bat_facts hn hn' hb hb' hs
  have hk : ((n : Int) + b - 1) / b = (batK n b : Int) := by unfold batK; rw [show (n : Int) + b - 1 = ((n + b - 1 : Nat) : Int) by omega]; simp
  have hf : (st : Int) % (batK n b : Int) * b = (batF n b st : Int) := by unfold batF; simp
  have hq : (st : Int) / (batK n b : Int) = ((st / batK n b : Nat) : Int) := by simp
  have hl : (shuf n (batS n b s st)).1.length = n := by rw [shuf, shufGo_length, length_upTo]
  have hX : (batXs n b s st).length = min (batF n b st + b) n - batF n b st := by unfold batXs; rw [List.length_drop, List.length_take, hl]; omega
  have hXe : batXs n b s st = ((shuf n (batS n b s st)).1.take (min (batF n b st + b) n)).drop (batF n b st) := rfl
  have hS : batS n b s st = nxt ((s + 7919 * ((st / batK n b : Nat) : Int)) % 2147483648) := rfl
  have nb := nxt_bd ((s + 7919 * ((st / batK n b : Nat) : Int)) % 2147483648)
  rw [← hS] at nb
  generalize batF n b st = F at *
  generalize hqq : st / batK n b = q at *
  generalize hkk : batK n b = K at *
  have Hqq := hid hqq
  have Hkk := hid hkk
  clear hqq hkk
  generalize batXs n b s st = X at *
  have HX := hid hX
  have HXe := hid hXe
  have HS := hid hS
  clear hX hXe hS
  go_enter Try.func75, Try.ntmps75
  go_wp2_with fail
  simp only [hk]
  go_wp2_with fail
  refine (l07Next_any _ _ (by omega) (by omega)).mono ?_
  rintro e w1 ⟨rfl, rfl⟩
  rw [← HS.out]
  generalize batS n b s st = S at *
  go_wp2_with fail
  refine (l07Shuffle_any n S _ hn (by omega) nb.1 nb.2).mono ?_
  rintro e w1 ⟨g, c, rfl, hown, he⟩
  have hc := own_Cs hown
  have hcap := (own_cap hown).1
  generalize (shuf n S).1 = R at *
  have hRl : (R.map (Value.int .i64)).length = n := by simp [hl]
  go_wp2_with fail
  refine (l00Min_any _ _ _).mono ?_
  rintro e w2 ⟨rfl, rfl⟩
  go_wp2_with (refine wl_slice rfl rfl rfl rfl rfl (u := min (F + b) n) (l := F) rfl (by omega) (by omega) (by omega) ?_)
  have hsub := hc.sub (s := 1) (l := F) (hi := min (F + b) n) (c := c) (by omega) (by omega)
  rw [Nat.mul_one, Nat.mul_one, ← List.map_take, ← List.map_drop, ← HXe.out] at hsub
  rw [← HX.out]
  have hXn : X.length ≤ 16 := by have := HX.out; omega
  have hXc : X.length ≤ c - F := by have := HX.out; omega
  refine (l00Own_any _ _ _ X _ rfl (by omega) hsub hXc (by unfold subp; split <;> rfl)).mono ?_
  rintro e w2 ⟨p, d, rfl, own2, e2⟩
  go_wp2
  go_ret
  exact ⟨p, d, rfl, own_base own2 he.size, he.trans e2⟩

/-- What BatchOf gives. -/
def batR (n b s st : Int) : List Int × Bool := if inB n 1 16 = true ∧ inB b 1 16 = true ∧ inB s 0 2147483647 = true ∧ inB st 0 1000 = true then (batXs n.toNat b.toNat s st.toNat, true) else ([], false)
theorem batR_no {n b s st : Int} (h : ¬ (inB n 1 16 = true ∧ inB b 1 16 = true ∧ inB s 0 2147483647 = true ∧ inB st 0 1000 = true)) : batR n b s st = ([], false) := by unfold batR; rw [if_neg h]
theorem batXs_len (n b st : Nat) (s : Int) (hn : n ≤ 16) : (batXs n b s st).length ≤ 16 := by
  unfold batXs; rw [List.length_drop, List.length_take]; omega
theorem batR_length (n b s st : Int) : (batR n b s st).1.length ≤ 16 := by
  unfold batR
  split
  · rename_i h
    have := inB_true.1 h.1
    exact batXs_len _ _ _ _ (by omega)
  · simp
/-- A slice of integers and a word whether it went well. -/
def RowOk (B : Nat) (w : World) (r : List Int × Bool) (e : Ending) (w' : World) : Prop :=
  ∃ p c, e = .returned (.tuple #[.slice p r.1.length c, .bool r.2]) ∧ w'.ownsRow B 2 1 (.slice p r.1.length c) r.1.length (r.1.map (Value.int .i64)) ∧ Ext w w'

set_option maxRecDepth 100000 in
set_option maxHeartbeats 1000000 in
theorem specBatchOf_any (n b s st : Int) (w : World) : Calls Try.prog 30 #[.int .i64 n, .int .i64 b, .int .i64 s, .int .i64 st] w (RowOk w.heap.size w (batR n b s st)) := by
  by_cases h1 : inB n 1 16 = true
  · by_cases h2 : inB b 1 16 = true
    · by_cases h3 : inB s 0 2147483647 = true
      · by_cases h4 : inB st 0 1000 = true
        · obtain ⟨a1, a2⟩ := inB_true.1 h1
          obtain ⟨b1, b2⟩ := inB_true.1 h2
          obtain ⟨c1, c2⟩ := inB_true.1 h3
          obtain ⟨d1, d2⟩ := inB_true.1 h4
          obtain ⟨m, rfl⟩ : ∃ m : Nat, n = m := ⟨n.toNat, by omega⟩
          obtain ⟨k, rfl⟩ : ∃ m : Nat, b = m := ⟨b.toNat, by omega⟩
          obtain ⟨t, rfl⟩ : ∃ m : Nat, st = m := ⟨st.toNat, by omega⟩
          have hr : batR (m : Int) k s t = (batXs m k s t, true) := by unfold batR; rw [if_pos ⟨h1, h2, h3, h4⟩]; rfl
          rw [hr]
          clear hr
          go_enter Try.func30, Try.ntmps30
          go_wp2_with (refine (l00In_any _ _ _ _).mono ?_; rintro e w1 ⟨rfl, rfl⟩)
          refine (l07Seed_any _ _).mono ?_
          rintro e w1 ⟨rfl, rfl⟩
          go_wp2_with (refine (l00In_any _ _ _ _).mono ?_; rintro e w1 ⟨rfl, rfl⟩)
          refine (l07Batch_any m k t s _ (by omega) (by omega) (by omega) (by omega) (by omega) c1 c2).mono ?_
          rintro e w1 ⟨q, d, rfl, hown, he⟩
          go_wp2
          go_ret2
          exact ⟨q, d, rfl, hown, he⟩
        · have h4' : inB st 0 1000 = false := by simpa using h4
          rw [batR_no (fun h => h4 h.2.2.2)]
          go_enter Try.func30, Try.ntmps30
          go_wp2_with (first | (refine (l00In_any _ _ _ _).mono ?_; rintro e w1 ⟨rfl, rfl⟩) | (refine (l07Seed_any _ _).mono ?_; rintro e w1 ⟨rfl, rfl⟩))
          go_ret2
          exact ⟨none, 0, rfl, World.ownsRow_nil _ _ _ _, Ext.refl _⟩
      · have h3' : inB s 0 2147483647 = false := by simpa using h3
        rw [batR_no (fun h => h3 h.2.2.1)]
        go_enter Try.func30, Try.ntmps30
        go_wp2_with (first | (refine (l00In_any _ _ _ _).mono ?_; rintro e w1 ⟨rfl, rfl⟩) | (refine (l07Seed_any _ _).mono ?_; rintro e w1 ⟨rfl, rfl⟩))
        go_ret2
        exact ⟨none, 0, rfl, World.ownsRow_nil _ _ _ _, Ext.refl _⟩
    · have h2' : inB b 1 16 = false := by simpa using h2
      rw [batR_no (fun h => h2 h.2.1)]
      go_enter Try.func30, Try.ntmps30
      go_wp2_with (first | (refine (l00In_any _ _ _ _).mono ?_; rintro e w1 ⟨rfl, rfl⟩) | (refine (l07Seed_any _ _).mono ?_; rintro e w1 ⟨rfl, rfl⟩))
      go_ret2
      exact ⟨none, 0, rfl, World.ownsRow_nil _ _ _ _, Ext.refl _⟩
  · have h1' : inB n 1 16 = false := by simpa using h1
    rw [batR_no (fun h => h1 h.1)]
    go_enter Try.func30, Try.ntmps30
    go_wp2_with (first | (refine (l00In_any _ _ _ _).mono ?_; rintro e w1 ⟨rfl, rfl⟩) | (refine (l07Seed_any _ _).mono ?_; rintro e w1 ⟨rfl, rfl⟩))
    go_ret2
    exact ⟨none, 0, rfl, World.ownsRow_nil _ _ _ _, Ext.refl _⟩
end Go.Proofs.Ytmcafdcabbighaa
