/- Which numbers of two trainings differ: the plain part, and whether they fit. -/
import Derived.Test.YtangnigplachdaaAllN
import Derived.Test.YtangnigplachdaaSyn
import Derived.Test.YtangnigplachdaaKc
import Derived.Test.YtangnigplachdaaTab
import Derived.Test.YtangnigplachdaaKe
import Derived.Test.YtangnigplachdaaConfD
namespace Go.Proofs.Ytangnigplachdaa
set_option linter.unusedSimpArgs false
set_option linter.unusedVariables false
open Go.RowKit

def kiB (a b : List shLayer.T) (i : Nat) : Bool := ((a.zip b).drop i).all fun x => kio x.1 x.2
theorem kiB_at {a b : List shLayer.T} {i : Nat} (h1 : i < a.length) (h2 : i < b.length) : kiB a b i = (kio a[i] b[i] && kiB a b (i + 1)) := by
  unfold kiB
  rw [List.drop_eq_getElem_cons (by rw [List.length_zip]; omega), List.all_cons, List.getElem_zip]
theorem kiB_end {a b : List shLayer.T} {i : Nat} (h : a.length ≤ i) : kiB a b i = true := by
  unfold kiB
  rw [List.drop_of_length_le (by rw [List.length_zip]; omega)]; rfl
def fitB (a b : shTrainState.T) : Bool := stoB a.1.1 a.2.1 a.2.2.1 a.2.2.2.1 && (stoB b.1.1 b.2.1 b.2.2.1 b.2.2.2.1 && (decide ((a.1.1 : List shLayer.T).length = (b.1.1 : List shLayer.T).length) && (decide ((a.2.1 : List (List Nat)).length = (b.2.1 : List (List Nat)).length) && kiB a.1.1 b.1.1 0)))
def chgTo (xs ys : List Nat) (n : Nat) : List Int := (List.range n).filterMap fun j => if xs.getD j 0 = ys.getD j 0 then none else some (j : Int)
theorem chgTo_eq {xs ys : List Nat} {n : Nat} (h : xs.getD n 0 = ys.getD n 0) : chgTo xs ys (n + 1) = chgTo xs ys n := by
  unfold chgTo
  rw [List.range_succ, List.filterMap_append]
  simp only [List.filterMap_cons, List.filterMap_nil, if_pos h, List.append_nil]
theorem chgTo_ne {xs ys : List Nat} {n : Nat} (h : ¬ xs.getD n 0 = ys.getD n 0) : chgTo xs ys (n + 1) = chgTo xs ys n ++ [(n : Int)] := by
  unfold chgTo
  rw [List.range_succ, List.filterMap_append]
  simp only [List.filterMap_cons, List.filterMap_nil, if_neg h]
theorem chgTo_le (xs ys : List Nat) : ∀ n, (chgTo xs ys n).length ≤ n
  | 0 => by simp [chgTo]
  | n + 1 => by
    have := chgTo_le xs ys n
    by_cases h : xs.getD n 0 = ys.getD n 0
    · rw [chgTo_eq h]; omega
    · rw [chgTo_ne h, List.length_append]; simp; omega
theorem lay_lens {x y : shLayer.T} (hx : layD x = true) (hy : layD y = true) (h : kio x y = true) : (x.2.2.2.1 : List Nat).length = (y.2.2.2.1 : List Nat).length ∧ (x.2.2.2.2.1 : List Nat).length = (y.2.2.2.2.1 : List Nat).length := by
  obtain ⟨h1, h2, h3⟩ := kio_iff.1 h
  unfold layD layB at hx hy
  simp only [Bool.and_eq_true, decide_eq_true_eq] at hx hy
  obtain ⟨_, _, _, _, a5, a6⟩ := hx
  obtain ⟨_, _, _, _, b5, b6⟩ := hy
  rw [h1, h2, h3] at a5 a6
  exact ⟨by omega, by omega⟩
theorem par_lens : ∀ {a b : List shLayer.T}, a.length = b.length → (∀ d ∈ a, layD d = true) → (∀ d ∈ b, layD d = true) → kiB a b 0 = true → (parF a).length = (parF b).length
  | [], [], _, _, _, _ => rfl
  | [], _ :: _, h, _, _, _ => by simp at h
  | _ :: _, [], h, _, _, _ => by simp at h
  | x :: a, y :: b, h, h1, h2, h3 => by
    have h3' : kio x y = true ∧ kiB a b 0 = true := by
      unfold kiB at h3 ⊢
      simpa using h3
    have ih := par_lens (a := a) (b := b) (by simpa using h) (fun d hd => h1 d (by simp [hd])) (fun d hd => h2 d (by simp [hd])) h3'.2
    obtain ⟨g1, g2⟩ := lay_lens (h1 x (by simp)) (h2 y (by simp)) h3'.1
    unfold parF at *
    rw [List.flatMap_cons, List.flatMap_cons, List.length_append, List.length_append, List.length_append, List.length_append, g1, g2, ih]
theorem sto_lay {l : List shLayer.T} {s : List (List Nat)} {x3 x4 : Int} (h : stoB l s x3 x4 = true) : (∀ d ∈ l, layD d = true) ∧ ∀ x ∈ s, x.length = (parF l).length := by
  unfold stoB at h
  simp only [Bool.and_eq_true, decide_eq_true_eq, List.all_eq_true] at h
  have hM := modOk h.1
  exact ⟨fun d hd => by obtain ⟨i, hi, rfl⟩ := List.mem_iff_getElem.1 hd; exact hM.lay i hi, h.2.2.2.2⟩
theorem num_lens {a b : shTrainState.T} (h : fitB a b = true) : (lAllNumbers.numF a.1.1 a.2.1).length = (lAllNumbers.numF b.1.1 b.2.1).length ∧ (lAllNumbers.numF a.1.1 a.2.1).length ≤ 2160 := by
  unfold fitB at h
  simp only [Bool.and_eq_true, decide_eq_true_eq] at h
  obtain ⟨h1, h2, h3, h4, h5⟩ := h
  obtain ⟨a1, a2⟩ := sto_lay h1
  obtain ⟨b1, b2⟩ := sto_lay h2
  obtain ⟨c1, c2, c3⟩ := lAllNumbers.sto_small h1
  have hp := par_lens h3 a1 b1 h5
  have f1 := lAllNumbers.flat_small a2
  have f2 := lAllNumbers.flat_small b2
  have f3 := lAllNumbers.flat_le c3
  have f4 : 432 * (a.2.1 : List (List Nat)).length ≤ 432 * 4 := Nat.mul_le_mul_left _ c2
  unfold lAllNumbers.numF
  rw [List.length_append, List.length_append, f1, f2, hp, h4]
  refine ⟨rfl, ?_⟩
  rw [hp, h4] at f1
  omega
theorem fit_nums {a : shTrainState.T} (h : Fit shTrainState a) (i : Nat) : (lAllNumbers.numF a.1.1 a.2.1).getD i 0 < 4294967296 := by
  have hall : ∀ x ∈ lAllNumbers.numF a.1.1 a.2.1, x < 4294967296 := by
    obtain ⟨⟨f1, _⟩, f2, _⟩ := h
    intro x hx
    unfold lAllNumbers.numF parF at hx
    rcases List.mem_append.1 hx with hx | hx
    · obtain ⟨d, hd, hx⟩ := List.mem_flatMap.1 hx
      have hf := f1 d hd
      rcases List.mem_append.1 hx with hx | hx
      · exact hf.2.2.2.1 x hx
      · exact hf.2.2.2.2.1 x hx
    · obtain ⟨l, hl, hx⟩ := List.mem_flatten.1 hx
      exact f2 l hl x hx
  rw [List.getD_eq_getElem?_getD]
  cases hi : (lAllNumbers.numF a.1.1 a.2.1)[i]? with
  | none => simp
  | some x => exact hall x (List.mem_of_getElem? hi)
end Go.Proofs.Ytangnigplachdaa
