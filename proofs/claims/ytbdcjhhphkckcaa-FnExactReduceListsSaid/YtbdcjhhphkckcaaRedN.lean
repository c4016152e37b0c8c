/- Lists of lists that grow by lists of others. -/
import Derived.Test.YtbdcjhhphkckcaaRedA
namespace Go.Proofs.Ytbdcjhhphkckcaa
set_option linter.unusedSimpArgs false
set_option linter.unusedVariables false
open Go.RowKit

/-- The lists of a growing list, none of which lies in its own row. -/
structure Nx (w : World) (v : Value) (m : Nat) (us : List Value) (l : List (List Nat)) : Prop where
  at' : ∀ i, i < m → ∃ q c vs, us[i]? = some (.slice q (l.getD i []).length c) ∧ Cs w q vs ∧ F32s vs (l.getD i []) ∧ (l.getD i []).length ≤ c ∧ (vs ≠ [] → ∀ b, v.ownBlock = some b → (adr q 0).block ≠ b)
  len : l.length = m
  cnt : us.length = m
theorem Nx.ext {w w' : World} {v : Value} {m : Nat} {us : List Value} {l : List (List Nat)} (h : Nx w v m us l) (e : Ext w w') : Nx w' v m us l :=
  ⟨fun i hi => by obtain ⟨q, c, vs, h1, h2, h3, h4, h5⟩ := h.at' i hi; exact ⟨q, c, vs, h1, h2.ext e, h3, h4, h5⟩, h.len, h.cnt⟩
theorem Nx.nil {w : World} {v : Value} : Nx w v 0 [] [] := ⟨fun i hi => by omega, rfl, rfl⟩
theorem Nx.snoc {w w' : World} {v : Value} {m : Nat} {us : List Value} {l : List (List Nat)} (h : Nx w v m us l) {q : Option Addr} {k c : Nat} {vs : List Value} {x : List Nat} (hk : x.length = k) (hc : Cs w q vs) (hf : F32s vs x) (hkc : k ≤ c)
    (hn : vs ≠ [] → ∀ b, v.ownBlock = some b → (adr q 0).block ≠ b) {g c9 : Nat} (gr : w.grownBy w' v.ownBlock) (hg : v.ownBlock = some g ∨ w.heap.size ≤ g) : Nx w' (.slice (some ⟨g, 0, none⟩) (m + 1) c9) (m + 1) (us ++ [.slice q k c]) (l ++ [x]) := by
  subst hk
  have keep : ∀ {p : Option Addr} {ws : List Value}, Cs w p ws → (ws ≠ [] → ∀ b, v.ownBlock = some b → (adr p 0).block ≠ b) → Cs w' p ws ∧ (ws ≠ [] → ∀ b, (Value.slice (some ⟨g, 0, none⟩) (m + 1) c9).ownBlock = some b → (adr p 0).block ≠ b) := by
    intro p ws h1 h2
    refine ⟨h1.keep fun h3 => gr.block _ (h1.blk h3) (fun hh => h2 h3 _ hh.symm rfl), fun h3 b hb => ?_⟩
    simp [Value.ownBlock] at hb
    subst hb
    rcases hg with hg | hg
    · exact h2 h3 _ hg
    · have := h1.blk h3; omega
  refine ⟨fun i hi => ?_, by rw [List.length_append, h.len]; rfl, by rw [List.length_append, h.cnt]; rfl⟩
  by_cases hm : i < m
  · obtain ⟨p, d, ws, h1, h2, h3, h4, h5⟩ := h.at' i hm
    have e : (l ++ [x]).getD i [] = l.getD i [] := by rw [List.getD_eq_getElem?_getD, List.getD_eq_getElem?_getD, List.getElem?_append_left (by rw [h.len]; exact hm)]
    obtain ⟨k1, k2⟩ := keep h2 h5
    rw [e]
    exact ⟨p, d, ws, by rw [List.getElem?_append_left (by rw [h.cnt]; exact hm)]; exact h1, k1, h3, h4, k2⟩
  · obtain rfl : i = m := by omega
    have e : (l ++ [x]).getD i [] = x := by rw [List.getD_eq_getElem?_getD, List.getElem?_append_right (by rw [h.len]; exact Nat.le_refl _), h.len, Nat.sub_self]; rfl
    obtain ⟨k1, k2⟩ := keep hc hn
    rw [e]
    exact ⟨q, c, vs, by rw [List.getElem?_append_right (by rw [h.cnt]; exact Nat.le_refl _), h.cnt, Nat.sub_self]; rfl, k1, hf, hkc, k2⟩
theorem Nx.fls {w : World} {q : Option Addr} {m c B : Nat} {us : List Value} {l : List (List Nat)} {e : TypeId} (h : Nx w (.slice q m c) m us l) (o : w.ownsRow B e 1 (.slice q m c) m us) : Fls w q m us l :=
  ⟨own_Cs o, fun i hi => by obtain ⟨q, c, vs, h1, h2, h3, h4, _⟩ := h.at' i hi; exact ⟨q, c, vs, h1, h2, h3, h4⟩, h.len, h.cnt⟩
theorem drop_at {us : List Value} (t : Nat) : (us.drop 1)[t]? = us[t + 1]? := by rw [List.getElem?_drop, Nat.add_comm]
theorem Fls.tail {w : World} {p : Option Addr} {n c : Nat} {us : List Value} {l : List (List Nat)} (h : Fls w p n us l) (h1 : 1 ≤ n) (hc : n ≤ c) : Cs w (subp p 1 1 c) (us.drop 1) := by
  have := h.cs.sub (s := 1) (l := 1) (hi := n) (c := c) h1 hc
  rwa [Nat.mul_one, Nat.mul_one, List.take_of_length_le (by rw [h.cnt]; exact Nat.le_refl _)] at this
end Go.Proofs.Ytbdcjhhphkckcaa
