/- ShuffleRows of the program and of the reference; the law that compares them: it answers true at every input. -/
import Derived.Test.YtmcafdcabbighaaShuf
import Derived.Test.YtmcafdcabbighaaI64
namespace Go.Proofs.Ytmcafdcabbighaa
open Go.RowKit

/-- What ShuffleRows gives. -/
def shufR (n s : Int) : List Int × Int × Bool := if inB n 1 16 = true ∧ inB s 0 2147483647 = true then ((shuf n.toNat s).1, (shuf n.toNat s).2, true) else ([], 0, false)
/-- A slice of integers, a number and a word whether it went well. -/
def RowIntOk (B : Nat) (w : World) (r : List Int × Int × Bool) (e : Ending) (w' : World) : Prop :=
  ∃ p c, e = .returned (.tuple #[.slice p r.1.length c, .int .i64 r.2.1, .bool r.2.2]) ∧ w'.ownsRow B 2 1 (.slice p r.1.length c) r.1.length (r.1.map (Value.int .i64)) ∧ Ext w w'
theorem shufR_no {n s : Int} (h : ¬ (inB n 1 16 = true ∧ inB s 0 2147483647 = true)) : shufR n s = ([], 0, false) := by unfold shufR; rw [if_neg h]
theorem shufR_length (n s : Int) : (shufR n s).1.length ≤ 16 := by
  unfold shufR
  split
  · rename_i h
    have := inB_true.1 h.1
    simp only [shuf]
    rw [shufGo_length, length_upTo]; omega
  · simp

set_option maxRecDepth 100000 in
set_option maxHeartbeats 1000000 in
theorem ShuffleRows_any (n s : Int) (w : World) : Calls Try.prog 20 #[.int .i64 n, .int .i64 s] w (RowIntOk w.heap.size w (shufR n s)) := by
  by_cases h1 : inB n 1 16 = true
  · by_cases h2 : inB s 0 2147483647 = true
    · obtain ⟨a1, a2⟩ := inB_true.1 h1
      obtain ⟨b1, b2⟩ := inB_true.1 h2
      obtain ⟨m, rfl⟩ : ∃ m : Nat, n = m := ⟨n.toNat, by omega⟩
      have hr : shufR (m : Int) s = ((shuf m s).1, (shuf m s).2, true) := by unfold shufR; rw [if_pos ⟨h1, h2⟩]; rfl
      have hl : (shuf m s).1.length = m := by rw [shuf, shufGo_length, length_upTo]
      rw [hr]
      have Hl := hid hl
      clear hr hl
      go_enter Try.func20, Try.ntmps20
      go_wp2_with fail
      refine (isSide_any _ _).mono ?_
      rintro e w1 ⟨rfl, rfl⟩
      go_wp2_with fail
      refine (isSeed_any _ _).mono ?_
      rintro e w1 ⟨rfl, rfl⟩
      go_wp2_with fail
      refine (shuffled_any m s _ (by omega) (by omega) b1 b2).mono ?_
      rintro e w1 ⟨g, c, rfl, hown, he⟩
      go_wp2
      go_ret3
      refine ⟨some ⟨g, 0, none⟩, c, ?_, ?_, he⟩
      · rw [Hl.out]; rfl
      · rw [Hl.out]; exact hown
    · have h2' : inB s 0 2147483647 = false := by simpa using h2
      rw [shufR_no (fun h => h2 h.2)]
      go_enter Try.func20, Try.ntmps20
      go_wp2_with fail
      refine (isSide_any _ _).mono ?_
      rintro e w1 ⟨rfl, rfl⟩
      go_wp2_with fail
      refine (isSeed_any _ _).mono ?_
      rintro e w1 ⟨rfl, rfl⟩
      go_wp2
      go_ret3
      exact ⟨none, 0, rfl, World.ownsRow_nil _ _ _ _, Ext.refl _⟩
  · have h1' : inB n 1 16 = false := by simpa using h1
    rw [shufR_no (fun h => h1 h.1)]
    go_enter Try.func20, Try.ntmps20
    go_wp2_with fail
    refine (isSide_any _ _).mono ?_
    rintro e w1 ⟨rfl, rfl⟩
    go_wp2
    go_ret3
    exact ⟨none, 0, rfl, World.ownsRow_nil _ _ _ _, Ext.refl _⟩

set_option maxRecDepth 100000 in
set_option maxHeartbeats 1000000 in
theorem specShuffleRows_any (n s : Int) (w : World) : Calls Try.prog 19 #[.int .i64 n, .int .i64 s] w (RowIntOk w.heap.size w (shufR n s)) := by
  by_cases h1 : inB n 1 16 = true
  · by_cases h2 : inB s 0 2147483647 = true
    · obtain ⟨a1, a2⟩ := inB_true.1 h1
      obtain ⟨b1, b2⟩ := inB_true.1 h2
      obtain ⟨m, rfl⟩ : ∃ m : Nat, n = m := ⟨n.toNat, by omega⟩
      have hr : shufR (m : Int) s = ((shuf m s).1, (shuf m s).2, true) := by unfold shufR; rw [if_pos ⟨h1, h2⟩]; rfl
      have hl : (shuf m s).1.length = m := by rw [shuf, shufGo_length, length_upTo]
      rw [hr]
      have Hl := hid hl
      clear hr hl
      go_enter Try.func19, Try.ntmps19
      go_wp2_with fail
      refine (l00In_any _ _ _ _).mono ?_
      rintro e w1 ⟨rfl, rfl⟩
      go_wp2_with fail
      refine (l07Seed_any _ _).mono ?_
      rintro e w1 ⟨rfl, rfl⟩
      go_wp2_with fail
      refine (l07Shuffle_any m s _ (by omega) (by omega) b1 b2).mono ?_
      rintro e w1 ⟨g, c, rfl, hown, he⟩
      go_wp2
      go_ret3
      refine ⟨some ⟨g, 0, none⟩, c, ?_, ?_, he⟩
      · rw [Hl.out]; rfl
      · rw [Hl.out]; exact hown
    · have h2' : inB s 0 2147483647 = false := by simpa using h2
      rw [shufR_no (fun h => h2 h.2)]
      go_enter Try.func19, Try.ntmps19
      go_wp2_with fail
      refine (l00In_any _ _ _ _).mono ?_
      rintro e w1 ⟨rfl, rfl⟩
      go_wp2_with fail
      refine (l07Seed_any _ _).mono ?_
      rintro e w1 ⟨rfl, rfl⟩
      go_wp2
      go_ret3
      exact ⟨none, 0, rfl, World.ownsRow_nil _ _ _ _, Ext.refl _⟩
  · have h1' : inB n 1 16 = false := by simpa using h1
    rw [shufR_no (fun h => h1 h.1)]
    go_enter Try.func19, Try.ntmps19
    go_wp2_with fail
    refine (l00In_any _ _ _ _).mono ?_
    rintro e w1 ⟨rfl, rfl⟩
    go_wp2
    go_ret3
    exact ⟨none, 0, rfl, World.ownsRow_nil _ _ _ _, Ext.refl _⟩

set_option maxRecDepth 100000 in
set_option maxHeartbeats 1000000 in
theorem law_any (n s : Int) (w : World) : Calls Try.prog 4 #[.int .i64 n, .int .i64 s] w fun e w' => e = .returned (.bool true) ∧ Ext w w' := by
  have hlen := shufR_length n s
  generalize hr : shufR n s = r at *
  have Hr := hid hr
  clear hr
  obtain ⟨xs, last, ok⟩ := r
  simp only at hlen
  generalize hL : xs.length = L at *
  have HL := hid hL
  clear hL
  go_enter Try.func4, Try.ntmps4
  go_wp2_with fail
  have c1 := specShuffleRows_any n s w
  rw [Hr.out] at c1
  refine c1.mono ?_
  rintro e w1 ⟨p0, d0, rfl, own0, e1⟩
  simp only [HL.out] at own0 ⊢
  clear c1
  go_wp2_with fail
  have c1 := ShuffleRows_any n s w1
  rw [Hr.out] at c1
  refine c1.mono ?_
  rintro e w2 ⟨p1, d1, rfl, own1, e2⟩
  simp only [HL.out] at own1 ⊢
  clear c1
  have lt0 := hid (own_lt own0)
  have own0' := own_ext own0 e2
  go_wp2_with fail
  refine (eqInt64S_any _ _ _ _ _ _ _ _ _ HL.out HL.out (by omega) (own_Cs own1) (own_Cs own0')).mono ?_
  rintro e w3 ⟨rfl, e3⟩
  replace own1 := own_ext own1 e3
  replace own0 := own_ext own0' e3
  clear own0'
  go_wp2_with fail
  refine (markInt64S_any _ _ _ _ _ _ _ HL.out (by omega) (by omega) (by omega) own1).mono ?_
  rintro e w4 ⟨rfl, ownm, g4⟩
  have le1 := own_le own1
  replace own0 := own_apart own0 lt0.out le1 g4
  have e4 := ((e1.trans e2).trans e3).grown g4 (fun k hk => Nat.le_trans e1.size (le1 k hk))
  clear own1 le1 g4 lt0 e1 e2 e3
  go_wp2_with fail
  refine (heldInt64S_any _ _ _ _ _ (by omega) (by omega) (by omega) (own_Cs ownm)).mono ?_
  rintro e w5 ⟨rfl, rfl⟩
  go_wp2_with fail
  have c1 := ShuffleRows_any n s w4
  rw [Hr.out] at c1
  refine c1.mono ?_
  rintro e w5 ⟨p2, d2, rfl, own2, e5⟩
  simp only [HL.out] at own2 ⊢
  clear c1
  replace own0 := own_ext own0 e5
  replace ownm := own_ext ownm e5
  replace e4 := e4.trans e5
  clear e5
  go_wp2_with fail
  refine (eqInt64S_any _ _ _ _ _ _ _ _ _ HL.out HL.out (by omega) (own_Cs own2) (own_Cs own0)).mono ?_
  rintro e w6 ⟨rfl, e6⟩
  replace ownm := own_ext ownm e6
  replace e4 := e4.trans e6
  clear e6 own0 own2
  go_wp2_with fail
  refine (heldInt64S_any _ _ _ _ _ (by omega) (by omega) (by omega) (own_Cs ownm)).mono ?_
  rintro e w7 ⟨rfl, rfl⟩
  go_wp2
  go_ret
  exact ⟨rfl, e4⟩
end Go.Proofs.Ytmcafdcabbighaa
