/- The confusion of labels: the plain part. -/
import Derived.Test.YtlimabbeaimdgaaRMod
import Derived.Test.YtlimabbeaimdgaaGrt
import Derived.Test.YtlimabbeaimdgaaCont2
import Derived.Test.YtlimabbeaimdgaaLbl
import Derived.Test.YtlimabbeaimdgaaCCor
import Derived.Test.YtlimabbeaimdgaaTab
namespace Go.Proofs.Ytlimabbeaimdgaa
set_option linter.unusedSimpArgs false
set_option linter.unusedVariables false
open Go.RowKit

theorem made_ints (n : Nat) : (madeCells (Value.int .i64 0).cells (n * 1)).toList = (List.replicate n (0 : Int)).map (Value.int .i64) := by
  apply List.ext_getElem
  · simp [madeCells]
  · intro i h1 h2
    simp [madeCells] at h1 h2 ⊢
    simp [Value.cells, Nat.mod_one]
theorem made_nils (n : Nat) : (madeCells (Value.slice none 0 0).cells (n * 1)).toList = List.replicate n (Value.slice none 0 0) := by
  apply List.ext_getElem
  · simp [madeCells]
  · intro i h1 h2
    simp [madeCells] at h1 h2 ⊢
    simp [Value.cells, Nat.mod_one]
/-- One more at a place. -/
def incT (T : List (List Int)) (a b : Nat) : List (List Int) := T.set a ((T.getD a []).set b ((T.getD a []).getD b 0 + 1))
def tabF (O : Nat) (l : List Int) (g : Nat → Nat) : Nat → List (List Int)
  | 0 => List.replicate O (List.replicate O 0)
  | r + 1 => incT (tabF O l g r) (l.getD r 0).toNat (g r)
theorem tabF_len (O : Nat) (l : List Int) (g : Nat → Nat) : ∀ r, (tabF O l g r).length = O ∧ ∀ x ∈ tabF O l g r, x.length = O
  | 0 => by
    refine ⟨by simp [tabF], fun x hx => ?_⟩
    rw [tabF, List.mem_replicate] at hx
    rw [hx.2]; simp
  | r + 1 => by
    obtain ⟨h1, h2⟩ := tabF_len O l g r
    refine ⟨by simp [tabF, incT, h1], fun x hx => ?_⟩
    rw [tabF, incT] at hx
    by_cases ha : (l.getD r 0).toNat < (tabF O l g r).length
    · rcases List.mem_or_eq_of_mem_set hx with h | h
      · exact h2 x h
      · subst h
        rw [List.length_set]
        rw [List.getD_eq_getElem?_getD, List.getElem?_eq_getElem ha]
        exact h2 _ (by simp)
    · rw [List.set_eq_of_length_le (by omega)] at hx
      exact h2 x hx
theorem tabF_get {O : Nat} {l : List Int} {g : Nat → Nat} {r a : Nat} (ha : a < O) : ∃ x, (tabF O l g r)[a]? = some x ∧ (tabF O l g r).getD a [] = x ∧ x.length = O := by
  obtain ⟨h1, h2⟩ := tabF_len O l g r
  have hl : a < (tabF O l g r).length := by omega
  exact ⟨(tabF O l g r)[a], by simp, by simp [List.getD_eq_getElem?_getD, hl], h2 _ (by simp)⟩
/-- Numbers stay small. -/
theorem tabF_bd (O : Nat) (l : List Int) (g : Nat → Nat) : ∀ r, ∀ a b, 0 ≤ ((tabF O l g r).getD a []).getD b 0 ∧ ((tabF O l g r).getD a []).getD b 0 ≤ r
  | 0, a, b => by
    simp only [tabF, List.getD_eq_getElem?_getD, List.getElem?_replicate]
    split
    · simp only [Option.getD_some, List.getElem?_replicate]
      split <;> simp
    · simp
  | r + 1, a, b => by
    have ih := tabF_bd O l g r
    have h0 := ih a b
    rw [tabF, incT]
    generalize (l.getD r 0).toNat = A
    generalize g r = C
    have h1 := ih A C
    generalize tabF O l g r = T at *
    simp only [List.getD_eq_getElem?_getD] at *
    rw [List.getElem?_set]
    split
    · rename_i hA
      subst hA
      split
      · simp only [Option.getD_some]
        rw [List.getElem?_set]
        split
        · split
          · simp only [Option.getD_some]; omega
          · simp; omega
        · omega
      · rename_i hl
        simp [List.getElem?_eq_none (show T.length ≤ A by omega)] at h0 ⊢
        omega
    · omega
/-- The sum of the diagonal's first n numbers. -/
def diag (T : List (List Int)) : Nat → Int
  | 0 => 0
  | n + 1 => diag T n + (T.getD n []).getD n 0
theorem diag_inc {T : List (List Int)} {O a b : Nat} (h1 : T.length = O) (h2 : ∀ x ∈ T, x.length = O) (ha : a < O) (hb : b < O) : ∀ n, diag (incT T a b) n = diag T n + if a = b ∧ a < n then 1 else 0
  | 0 => by simp [diag]
  | n + 1 => by
    have ih := diag_inc h1 h2 ha hb n
    have hx : (T.getD a []).length = O := by
      rw [List.getD_eq_getElem?_getD, List.getElem?_eq_getElem (by omega)]
      exact h2 _ (by simp)
    have hs : ((incT T a b).getD n []).getD n 0 = (T.getD n []).getD n 0 + if a = b ∧ a = n then 1 else 0 := by
      unfold incT
      by_cases hn : a = n
      · subst hn
        have e1 : (T.set a ((T.getD a []).set b ((T.getD a []).getD b 0 + 1))).getD a [] = (T.getD a []).set b ((T.getD a []).getD b 0 + 1) := by
          rw [List.getD_eq_getElem?_getD, List.getElem?_set_self (by omega), Option.getD_some]
        rw [e1]
        generalize T.getD a [] = R at *
        by_cases hb2 : a = b
        · subst hb2
          rw [List.getD_eq_getElem?_getD, List.getElem?_set_self (by omega), if_pos ⟨rfl, rfl⟩]; rfl
        · rw [List.getD_eq_getElem?_getD, List.getElem?_set_ne (fun h => hb2 h.symm), if_neg (fun h => hb2 h.1), ← List.getD_eq_getElem?_getD]; omega
      · have e1 : (T.set a ((T.getD a []).set b ((T.getD a []).getD b 0 + 1))).getD n [] = T.getD n [] := by
          rw [List.getD_eq_getElem?_getD, List.getElem?_set_ne hn, ← List.getD_eq_getElem?_getD]
        rw [e1, if_neg (fun h => hn h.2)]; omega
    rw [diag, diag, ih, hs]
    by_cases hab : a = b
    · by_cases hlt : a < n
      · rw [if_pos ⟨hab, hlt⟩, if_neg (by omega), if_pos ⟨hab, by omega⟩]; omega
      · by_cases han : a = n
        · rw [if_neg (by omega), if_pos ⟨hab, han⟩, if_pos ⟨hab, by omega⟩]; omega
        · rw [if_neg (by omega), if_neg (by omega), if_neg (by omega)]; omega
    · rw [if_neg (fun h => hab h.1), if_neg (fun h => hab h.1), if_neg (fun h => hab h.1)]; omega
theorem diag_rep (O : Nat) : ∀ n, diag (List.replicate O (List.replicate O (0 : Int))) n = 0
  | 0 => rfl
  | n + 1 => by
    rw [diag, diag_rep O n]
    simp only [List.getD_eq_getElem?_getD, List.getElem?_replicate]
    split
    · simp only [Option.getD_some, List.getElem?_replicate]
      split <;> simp
    · simp
/-- How many rows have their label as output. -/
def hits (l : List Int) (g : Nat → Nat) : Nat → Int
  | 0 => 0
  | r + 1 => hits l g r + if ((g r : Nat) : Int) = l.getD r 0 then 1 else 0
theorem hits_bd (l : List Int) (g : Nat → Nat) : ∀ r, 0 ≤ hits l g r ∧ hits l g r ≤ r
  | 0 => by simp [hits]
  | r + 1 => by have := hits_bd l g r; rw [hits]; split <;> omega
theorem diag_tab {O : Nat} {l : List Int} {g : Nat → Nat} : ∀ r, (∀ i, i < r → 0 ≤ l.getD i 0 ∧ l.getD i 0 < O) → (∀ i, i < r → g i < O) → diag (tabF O l g r) O = hits l g r
  | 0, _, _ => diag_rep O O
  | r + 1, h1, h2 => by
    have ih := diag_tab r (fun i hi => h1 i (by omega)) (fun i hi => h2 i (by omega))
    obtain ⟨k1, k2⟩ := tabF_len O l g r
    obtain ⟨h3, h4⟩ := h1 r (by omega)
    have h5 := h2 r (by omega)
    rw [tabF, diag_inc k1 k2 (by omega) h5, ih, hits]
    congr 1
    by_cases hq : ((g r : Nat) : Int) = l.getD r 0
    · rw [if_pos hq, if_pos ⟨by omega, by omega⟩]
    · rw [if_neg hq, if_neg (fun h => hq (by omega))]
theorem diag_bd {T : List (List Int)} {m : Int} (h : ∀ a b, 0 ≤ (T.getD a []).getD b 0 ∧ (T.getD a []).getD b 0 ≤ m) : ∀ n, 0 ≤ diag T n ∧ diag T n ≤ n * m
  | 0 => by simp [diag]
  | n + 1 => by
    have ih := diag_bd h n
    have := h n n
    rw [diag]
    have h2 : ((n + 1 : Nat) : Int) * m = n * m + m := by rw [Int.natCast_add, Int.add_mul]; simp
    omega
/-- The first rows are made. -/
theorem rep_put (O i : Nat) (hi : i < O) : (List.replicate i (List.replicate O (0 : Int)) ++ List.replicate (O - i) []).set i (List.replicate O 0) = List.replicate (i + 1) (List.replicate O (0 : Int)) ++ List.replicate (O - (i + 1)) [] := by
  obtain ⟨k, hk⟩ : ∃ k, O - i = k + 1 := ⟨O - i - 1, by omega⟩
  rw [List.set_append_right _ _ (by simp), List.length_replicate, Nat.sub_self, hk, List.replicate_succ (n := k), List.set_cons_zero, show O - (i + 1) = k by omega, List.replicate_succ' (n := i), List.append_assoc]
  rfl
/-- The best outputs of rows. -/
def bestF (L : List shLayer.T) (xs : List Nat) (C m r : Nat) : Nat := gi (curF L (rowT xs C r) L.length) m
def okL (d : shModel.T) (x : shTensor.T) (l : List Int) : Prop := (modB d.1 = true ∧ tenB x.1 x.2.1 (x.2.2.1 : List Nat).length = true ∧ x.2.1 = inL d.1 0) ∧ (l.length : Int) = x.1 ∧ lblB (outL d.1) l = true
instance (d : shModel.T) (x : shTensor.T) (l : List Int) : Decidable (okL d x l) := by unfold okL; infer_instance
end Go.Proofs.Ytlimabbeaimdgaa
