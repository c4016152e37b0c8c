/- States: which can be stored. -/
import Derived.Test.YtbdcjhhphkckcaaKc
import Derived.Test.YtbdcjhhphkckcaaKd
import Derived.Test.YtbdcjhhphkckcaaSameV
namespace Go.Proofs.Ytbdcjhhphkckcaa
set_option linter.unusedSimpArgs false
set_option linter.unusedVariables false
open Go.RowKit

def stoB (l : List shLayer.T) (s : List (List Nat)) (x3 x4 : Int) : Bool :=
  modB l && (decide (s.length ≤ 4) && (inB x3 0 1000 && (inB x4 0 2147483647 && s.all fun x => decide (x.length = (parF l).length))))
theorem layD_le {d : shLayer.T} (h : layD d = true) : d.2.2.2.1.length ≤ 64 ∧ d.2.2.2.2.1.length ≤ 8 := by
  obtain ⟨k, i, o, a, b, u⟩ := d
  unfold layD layB at h
  dsimp only at h ⊢
  simp only [Bool.and_eq_true, inB_true, decide_eq_true_eq] at h
  obtain ⟨h1, h2, h3, _, h5, h6⟩ := h
  have hm := mul_bd h2 h3
  have key : ∀ (k i o : Int) (x y : Nat), 0 ≤ i * o ∧ i * o ≤ 64 → 1 ≤ i ∧ i ≤ 8 → 1 ≤ o ∧ o ≤ 8 → (x : Int) = wCnt k i o → (y : Int) = bCnt k i o → x ≤ 64 ∧ y ≤ 8 := by
    intro k i o x y h1 h2 h3 h4 h5
    unfold wCnt at h4; unfold bCnt at h5
    split at h4 <;> split at h5 <;> (try split at h4) <;> (try split at h5) <;> (try split at h4) <;> (try split at h5) <;> omega
  exact key k i o _ _ hm h2 h3 h5 h6
theorem modGo_allS : ∀ {p : Option Int} {l : List shLayer.T}, modGo p l = true → ∀ d ∈ l, layD d = true
  | _, [], _, d, hd => by simp at hd
  | p, x :: l, h, d, hd => by
    simp only [modGo, Bool.and_eq_true] at h
    rcases List.mem_cons.1 hd with rfl | hd
    · exact h.1
    · exact modGo_allS h.2.2 d hd
theorem parF_small : ∀ {l : List shLayer.T}, (∀ d ∈ l, layD d = true) → (parF l).length ≤ 72 * l.length
  | [], _ => by simp [parF]
  | d :: l, h => by
    have h1 := layD_le (h d (by simp))
    have h2 := parF_small (l := l) fun x hx => h x (by simp [hx])
    have : parF (d :: l) = ((d.2.2.2.1 : List Nat) ++ d.2.2.2.2.1) ++ parF l := by simp [parF]
    rw [this, List.length_append, List.length_append, List.length_cons]
    omega
theorem modB_par {l : List shLayer.T} (h : modB l = true) : (parF l).length ≤ 432 := by
  unfold modB at h
  simp only [Bool.and_eq_true, decide_eq_true_eq] at h
  have := parF_small (modGo_allS h.2.2)
  omega

theorem getD_len {s : List (List Nat)} {i : Nat} (h : i < s.length) : s.getD i [] = s[i] := by simp [h]
theorem all_len {s : List (List Nat)} {N : Nat} (h : ∀ j, j < s.length → (s.getD j []).length = N) : (s.all fun x => decide (x.length = N)) = true := by
  rw [List.all_eq_true]
  intro x hx
  obtain ⟨j, hj, rfl⟩ := List.mem_iff_getElem.1 hx
  have := h j hj
  rw [getD_len hj] at this
  simpa using this
theorem not_all_len {s : List (List Nat)} {N j : Nat} (hj : j < s.length) (h : ¬ (s.getD j []).length = N) : (s.all fun x => decide (x.length = N)) = false := by
  rw [getD_len hj] at h
  rw [Bool.eq_false_iff]
  intro h2
  rw [List.all_eq_true] at h2
  exact h (by simpa using h2 s[j] (List.getElem_mem hj))

end Go.Proofs.Ytbdcjhhphkckcaa
