/- Reductions: lists of lists added up, in plain terms. -/
import Derived.Test.YtbdcjhhphkckcaaCont2
import Derived.Test.YtbdcjhhphkckcaaKd
import Derived.Test.YtbdcjhhphkckcaaCpyM
namespace Go.Proofs.Ytbdcjhhphkckcaa
set_option linter.unusedSimpArgs false
set_option linter.unusedVariables false
open Go.RowKit

theorem tab_selfR (xs : List Nat) : tab xs.length (fun i => xs.getD i 0) = xs := by
  apply List.ext_getElem?
  intro j
  unfold tab
  by_cases hj : j < xs.length
  · simp [hj]
  · simp [show xs.length ≤ j by omega]
/-- The sums of two lists. -/
def addF (a b : List Nat) : List Nat := tab a.length fun i => fop .add .f32 (a.getD i 0) (b.getD i 0)
theorem addF_len (a b : List Nat) : (addF a b).length = a.length := tab_len _ _
/-- The sum at place j behind i additions, from list f on. -/
def sumK (l : List (List Nat)) (f j : Nat) : Nat → Nat
  | 0 => (l.getD f []).getD j 0
  | i + 1 => fop .add .f32 (sumK l f j i) ((l.getD ((f + i + 1) % l.length) []).getD j 0)
def fstR (k : Int) (n j : Nat) : Nat := if k = 2 then j % n else 0
def ringF (k : Int) (l : List (List Nat)) : List Nat := tab (l.getD 0 []).length fun j => sumK l (fstR k l.length j) j (l.length - 1)
/-- The list of pairs, the last one maybe alone. -/
def prF (l : List (List Nat)) (j : Nat) : List Nat := if 2 * j + 1 < l.length then addF (l.getD (2 * j) []) (l.getD (2 * j + 1) []) else l.getD (2 * j) []
def ltab (n : Nat) (f : Nat → List Nat) : List (List Nat) := (List.range n).map f
theorem ltab_len (n : Nat) (f : Nat → List Nat) : (ltab n f).length = n := by simp [ltab]
theorem ltab_get {n i : Nat} (f : Nat → List Nat) (h : i < n) : (ltab n f).getD i [] = f i := by simp [ltab, h]
theorem ltab_succ (n : Nat) (f : Nat → List Nat) : ltab (n + 1) f = ltab n f ++ [f n] := by simp [ltab, List.range_succ]
def pairF (l : List (List Nat)) : List (List Nat) := ltab ((l.length + 1) / 2) (prF l)
theorem pairF_len (l : List (List Nat)) : (pairF l).length = (l.length + 1) / 2 := ltab_len _ _
def treeN : Nat → List (List Nat) → List Nat
  | 0, l => l.getD 0 []
  | n + 1, l => if l.length ≤ 1 then l.getD 0 [] else treeN n (pairF l)
theorem treeN_eq : ∀ (n m : Nat) (l : List (List Nat)), l.length ≤ n → l.length ≤ m → treeN n l = treeN m l
  | 0, 0, _, _, _ => rfl
  | 0, m + 1, l, h, _ => by show l.getD 0 [] = treeN (m + 1) l; unfold treeN; rw [if_pos (by omega)]
  | n + 1, 0, l, _, h => by show treeN (n + 1) l = l.getD 0 []; unfold treeN; rw [if_pos (by omega)]
  | n + 1, m + 1, l, h1, h2 => by
    unfold treeN
    by_cases h : l.length ≤ 1
    · rw [if_pos h, if_pos h]
    · rw [if_neg h, if_neg h]
      exact treeN_eq n m (pairF l) (by rw [pairF_len]; omega) (by rw [pairF_len]; omega)
def treeF (l : List (List Nat)) : List Nat := treeN l.length l
theorem treeF_one {l : List (List Nat)} (h : l.length ≤ 1) : treeF l = l.getD 0 [] := by
  unfold treeF
  cases hl : l.length with
  | zero => rfl
  | succ n => unfold treeN; rw [if_pos (by omega)]
theorem treeF_pair {l : List (List Nat)} (h : 1 < l.length) : treeF l = treeF (pairF l) := by
  obtain ⟨n, hn⟩ : ∃ n, l.length = n + 1 := ⟨l.length - 1, by omega⟩
  unfold treeF
  rw [hn]
  show (if l.length ≤ 1 then l.getD 0 [] else treeN n (pairF l)) = _
  rw [if_neg (by omega)]
  exact treeN_eq _ _ _ (by rw [pairF_len]; omega) (Nat.le_refl _)
/-- What a reduction makes of lists. -/
def redF (k : Int) (l : List (List Nat)) : List Nat := if k = 1 then treeF l else ringF k l
/-- All lists are as long. -/
def EvenL (l : List (List Nat)) (N : Nat) : Prop := ∀ i, i < l.length → (l.getD i []).length = N
theorem EvenL.pair {l : List (List Nat)} {N : Nat} (h : EvenL l N) : EvenL (pairF l) N := by
  intro i hi
  rw [pairF_len] at hi
  unfold pairF
  rw [ltab_get _ hi]
  unfold prF
  by_cases h1 : 2 * i + 1 < l.length
  · rw [if_pos h1, addF_len]; exact h _ (by omega)
  · rw [if_neg h1]; exact h _ (by omega)
theorem EvenL.tree : ∀ {n : Nat} {l : List (List Nat)} {N : Nat}, l.length = n → 1 ≤ n → EvenL l N → (treeF l).length = N := by
  intro n
  induction n using Nat.strongRecOn with
  | _ n ih =>
    intro l N hl h1 h
    by_cases h2 : l.length ≤ 1
    · rw [treeF_one h2]; exact h 0 (by omega)
    · rw [treeF_pair (by omega)]
      exact ih _ (by rw [← hl]; omega) (pairF_len l) (by omega) h.pair
theorem EvenL.red {l : List (List Nat)} {N : Nat} (h : EvenL l N) (h1 : 1 ≤ l.length) (k : Int) : (redF k l).length = N := by
  unfold redF
  split
  · exact h.tree rfl h1
  · unfold ringF; rw [tab_len]; exact h 0 (by omega)
/-- Adding one list after another. -/
def lineF (l : List (List Nat)) (t : Nat) : List Nat := tab (l.getD 0 []).length fun j => sumK l 0 j t
theorem lineF_zero (l : List (List Nat)) : lineF l 0 = l.getD 0 [] := by
  unfold lineF
  apply List.ext_getElem?
  intro j
  unfold tab sumK
  by_cases hj : j < (l.getD 0 []).length
  · simp only [List.getElem?_map, List.getElem?_range hj, Option.map_some]
    rw [List.getD_eq_getElem?_getD (l := l.getD 0 []) (i := j), List.getElem?_eq_getElem hj]; rfl
  · rw [List.getElem?_eq_none (by rw [List.length_map, List.length_range]; omega), List.getElem?_eq_none (by omega)]
theorem lineF_succ (l : List (List Nat)) {t : Nat} (h : t + 1 < l.length) : lineF l (t + 1) = addF (lineF l t) (l.getD (t + 1) []) := by
  unfold addF
  have e : (lineF l t).length = (l.getD 0 []).length := tab_len _ _
  rw [e]
  unfold lineF tab
  apply List.map_congr_left
  intro j hj
  rw [List.mem_range] at hj
  show sumK l 0 j (t + 1) = _
  rw [show (List.getD ((List.range (l.getD 0 []).length).map fun j => sumK l 0 j t) j 0) = sumK l 0 j t from tab_get (fun j => sumK l 0 j t) hj]
  show fop .add .f32 (sumK l 0 j t) ((l.getD ((0 + t + 1) % l.length) []).getD j 0) = _
  rw [Nat.zero_add, Nat.mod_eq_of_lt h]
theorem lineF_last {l : List (List Nat)} {k : Int} (h : k ≠ 1) (h2 : k ≠ 2) : redF k l = lineF l (l.length - 1) := by
  unfold redF; rw [if_neg h]; unfold ringF fstR lineF; simp only [if_neg h2]
/-- Lists of floats behind a slice. -/
structure Fls (w : World) (p : Option Addr) (n : Nat) (us : List Value) (l : List (List Nat)) : Prop where
  cs : Cs w p us
  at' : ∀ i, i < n → ∃ q c vs, us[i]? = some (.slice q (l.getD i []).length c) ∧ Cs w q vs ∧ F32s vs (l.getD i []) ∧ (l.getD i []).length ≤ c
  len : l.length = n
  cnt : us.length = n
theorem Fls.ext {w w' : World} {p : Option Addr} {n : Nat} {us : List Value} {l : List (List Nat)} (h : Fls w p n us l) (e : Ext w w') : Fls w' p n us l :=
  ⟨h.cs.ext e, fun i hi => by obtain ⟨q, c, vs, h1, h2, h3, h4⟩ := h.at' i hi; exact ⟨q, c, vs, h1, h2.ext e, h3, h4⟩, h.len, h.cnt⟩
theorem fls_of {w : World} {v : Value} {l : List (List Nat)} (h : Rep w (.sl (.sl .flt)) [v] l) : ∃ p c us, v = .slice p l.length c ∧ Fls w p l.length us l ∧ l.length ≤ c ∧ c ≤ maxLen ∧ ∀ i, i < l.length → (l.getD i []).length ≤ maxLen := by
  obtain ⟨p, c, css, h1, a2, a3, a4, a5⟩ := h
  cases h1
  have a6 : ∀ c ∈ css, c.length = 1 := fun c hc => by obtain ⟨i, hi, rfl⟩ := List.mem_iff_getElem.1 hc; obtain ⟨_, h⟩ := a5.get' i (by rw [← a5.length]; exact hi); exact h.size
  have hget : ∀ i (hi : i < l.length), ∃ q c vs, css.flatten[i]? = some (.slice q (l.getD i []).length c) ∧ Cs w q vs ∧ F32s vs (l.getD i []) ∧ (l.getD i []).length ≤ c ∧ c ≤ maxLen := by
    intro i hi
    obtain ⟨h1, h2⟩ := a5.get' i hi
    obtain ⟨q, c, vs, g1, k1, k2, k3, k4⟩ := rep_flts.1 h2
    have e : l.getD i [] = l[i] := by simp [hi]
    rw [e]
    refine ⟨q, c, vs, ?_, k1, k2, k3, k4⟩
    have := flat_get' (j := 0) a6 h1 (by decide)
    rw [Nat.mul_one, Nat.add_zero, g1] at this
    simpa using this
  refine ⟨p, c, css.flatten, rfl, ⟨a2, fun i hi => ?_, rfl, ?_⟩, a3, a4, fun i hi => ?_⟩
  · obtain ⟨q, c, vs, k1, k2, k3, k4, _⟩ := hget i hi; exact ⟨q, c, vs, k1, k2, k3, k4⟩
  · rw [flat_len' a6, Nat.mul_one, a5.length]
  · obtain ⟨q, c, vs, k1, k2, k3, k4, k5⟩ := hget i hi; exact Nat.le_trans k4 k5
end Go.Proofs.Ytbdcjhhphkckcaa
