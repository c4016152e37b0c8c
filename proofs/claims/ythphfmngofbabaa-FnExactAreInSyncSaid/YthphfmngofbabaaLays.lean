/- Layers and slots behind slices. -/
import Derived.Test.YthphfmngofbabaaSameU
namespace Go.Proofs.Ythphfmngofbabaa
set_option linter.unusedSimpArgs false
set_option linter.unusedVariables false
open Go.RowKit

/-- Two lists of layers behind slices, two lists of slots. -/
structure Lays (w : World) (p : Option Addr) (n : Nat) (css : List (List Value)) (l : List shLayer.T) : Prop where
  cs : Cs w p css.flatten
  all : All2 (Rep w shLayer) css l
  size : ∀ c ∈ css, c.length = shLayer.sz
  one : ∀ c ∈ css, ∀ u ∈ c, u.oneCell' = true
  len : l.length = n
  cnt : css.length = n
  fit : ∀ x ∈ l, Fit shLayer x
  le : n ≤ maxLen
theorem Lays.ext {w w' : World} {p : Option Addr} {n : Nat} {css : List (List Value)} {l : List shLayer.T} (h : Lays w p n css l) (e : Ext w w') : Lays w' p n css l :=
  ⟨h.cs.ext e, h.all.imp fun _ _ => Rep.ext e, h.size, h.one, h.len, h.cnt, h.fit, h.le⟩
theorem lays_of {w : World} {v : Value} {l : List shLayer.T} (h : Rep w (.sl shLayer) [v] l) (hf : Fit (.sl shLayer) l) : ∃ p c css, v = .slice p l.length c ∧ Lays w p l.length css l := by
  obtain ⟨p, c, css, h1, a2, a3, a4, a5⟩ := h
  cases h1
  refine ⟨p, c, css, rfl, a2, a5, fun c hc => ?_, fun c hc => ?_, rfl, a5.length, hf, Nat.le_trans a3 a4⟩
  · obtain ⟨i, hi, rfl⟩ := List.mem_iff_getElem.1 hc; obtain ⟨_, h⟩ := a5.get' i (by rw [← a5.length]; exact hi); exact h.size
  · obtain ⟨i, hi, rfl⟩ := List.mem_iff_getElem.1 hc; obtain ⟨_, h⟩ := a5.get' i (by rw [← a5.length]; exact hi); exact h.one
structure Slts (w : World) (p : Option Addr) (n : Nat) (us : List Value) (l : List (List Nat)) : Prop where
  cs : Cs w p us
  at' : ∀ i, i < n → ∃ q c, us[i]? = some (.slice q (l.getD i []).length c) ∧ Fl3 w q (l.getD i [])
  len : l.length = n
  cnt : us.length = n
  le : n ≤ maxLen
theorem Slts.ext {w w' : World} {p : Option Addr} {n : Nat} {us : List Value} {l : List (List Nat)} (h : Slts w p n us l) (e : Ext w w') : Slts w' p n us l :=
  ⟨h.cs.ext e, fun i hi => by obtain ⟨q, c, h1, h2⟩ := h.at' i hi; exact ⟨q, c, h1, h2.ext e⟩, h.len, h.cnt, h.le⟩
theorem slts_of {w : World} {v : Value} {l : List (List Nat)} (h : Rep w (.sl (.sl .flt)) [v] l) (hf : Fit (.sl (.sl .flt)) l) : ∃ p c us, v = .slice p l.length c ∧ Slts w p l.length us l := by
  obtain ⟨p, c, css, h1, a2, a3, a4, a5⟩ := h
  cases h1
  have a6 : ∀ c ∈ css, c.length = 1 := fun c hc => by obtain ⟨i, hi, rfl⟩ := List.mem_iff_getElem.1 hc; obtain ⟨_, h⟩ := a5.get' i (by rw [← a5.length]; exact hi); exact h.size
  refine ⟨p, c, css.flatten, rfl, a2, fun i hi => ?_, rfl, by rw [flat_len' a6, a5.length, Nat.mul_one], Nat.le_trans a3 a4⟩
  obtain ⟨h1, h2⟩ := a5.get' i hi
  obtain ⟨p1, c1, g1, k1⟩ := fl3_of h2 (hf _ (by simp))
  have hd : l.getD i [] = l[i] := by simp [show i < l.length from hi]
  rw [hd]
  refine ⟨p1, c1, ?_, k1⟩
  have := flat_get' (j := 0) a6 h1 (by decide)
  rw [Nat.mul_one, Nat.add_zero, g1] at this
  simpa using this
end Go.Proofs.Ythphfmngofbabaa
