/- The forward pass: a layer as a thing. -/
import Derived.Test.YtnlhahlegedlaaaFwd9
import Derived.Test.YtnlhahlegedlaaaMod
import Derived.Test.YtnlhahlegedlaaaPar
namespace Go.Proofs.Ytnlhahlegedlaaa
set_option linter.unusedSimpArgs false
set_option linter.unusedVariables false
open Go.RowKit

def layF (d : shLayer.T) (xs : List Nat) : List Nat := runF d.1 d.2.1.toNat d.2.2.1.toNat d.2.2.2.1 d.2.2.2.2.1 xs
theorem layD_int {d : shLayer.T} (h : layD d = true) : (d.2.1.toNat : Int) = d.2.1 ∧ (d.2.2.1.toNat : Int) = d.2.2.1 ∧ d.2.1.toNat ≤ 8 ∧ 1 ≤ d.2.1.toNat ∧ d.2.2.1.toNat ≤ 8 ∧ 1 ≤ d.2.2.1.toNat := by
  unfold layD layB inB at h
  simp only [Bool.and_eq_true, decide_eq_true_eq] at h
  omega
theorem softF_len (xs : List Nat) : (softF xs).length = xs.length := tab_len _ _
theorem normF_len (ws bs xs : List Nat) : (normF ws bs xs).length = xs.length := tab_len _ _
theorem layF_len {d : shLayer.T} (h : layD d = true) {xs : List Nat} (hx : (xs.length : Int) = d.2.1) : ((layF d xs).length : Int) = d.2.2.1 := by
  obtain ⟨a1, a2, _⟩ := layD_int h
  have h' : layB d.1 d.2.1.toNat d.2.2.1.toNat d.2.2.2.1.length d.2.2.2.2.1.length = true := by rw [a1, a2]; exact h
  obtain ⟨b0, _, _, _, _, b5, _⟩ := lay_of h'
  unfold layF runF
  split
  · rw [softF_len]; rcases b5 with b | b <;> omega
  · split
    · rw [normF_len]; rcases b5 with b | b <;> omega
    · rw [tab_len]; exact a2
theorem run_lay (cs : List Value) (d : shLayer.T) (p : Option Addr) (n c : Nat) (us : List Value) (xs : List Nat) (w : World) (h : Rep w shLayer cs d) (hv : layD d = true) (hn : xs.length = n) (hx : (n : Int) = d.2.1) (hp : Cs w p us) (hf : F32s us xs) :
    Calls Try.prog 109 #[.agg cs.toArray, .slice p n c] w (RetFl w (layF d xs)) := by
  obtain ⟨pw, cw, pb, cb, uw, ub, rfl, k1, k2, k3, k4, k5, k6⟩ := lay_nums h
  obtain ⟨a1, a2, _⟩ := layD_int hv
  have hk : layB d.1 d.2.1.toNat d.2.2.1.toNat d.2.2.2.1.length d.2.2.2.2.1.length = true := by rw [a1, a2]; exact hv
  have := run_any d.1 d.2.1.toNat d.2.2.1.toNat _ _ p pw pb c cw cb us uw ub xs d.2.2.2.1 d.2.2.2.2.1 w hk (by omega) rfl rfl hp hf k1 k2 k4 k5 k3
  rw [a1, a2, show d.2.1.toNat = n by omega] at this
  unfold layF
  rw [show d.2.1.toNat = n by omega]
  exact this
theorem l03Run_lay (q : Addr) (cs : List Value) (d : shLayer.T) (p : Option Addr) (n c : Nat) (us : List Value) (xs : List Nat) (w : World) (h : Rep w shLayer cs d) (g : ∀ (j : Nat) (v : Value), cs[j]? = some v → w.cell? (q.add j) = some v) (hv : layD d = true) (hn : xs.length = n) (hx : (n : Int) = d.2.1) (hp : Cs w p us) (hf : F32s us xs) :
    Calls Try.prog 107 #[.pointer (some q), .slice p n c] w (RetFl w (layF d xs)) := by
  obtain ⟨pw, cw, pb, cb, uw, ub, rfl, k1, k2, k3, k4, k5, k6⟩ := lay_nums h
  obtain ⟨a1, a2, _⟩ := layD_int hv
  have hk : layB d.1 d.2.1.toNat d.2.2.1.toNat d.2.2.2.1.length d.2.2.2.2.1.length = true := by rw [a1, a2]; exact hv
  have := l03Run_any (sp := q.spot) q.block q.off d.1 d.2.1.toNat d.2.2.1.toNat _ _ p pw pb c cw cb us uw ub xs d.2.2.2.1 d.2.2.2.2.1 w hk (by omega) rfl rfl hp hf k1 k2 k4 k5 (g 0 _ rfl) (by rw [a1]; exact g 1 _ rfl) (by rw [a2]; exact g 2 _ rfl) (g 3 _ rfl) (g 4 _ rfl)
  rw [show d.2.1.toNat = n by omega] at this
  unfold layF
  rw [show d.2.1.toNat = n by omega]
  exact this
theorem layers_at {w : World} {q : Addr} {cs : List Value} {d : shLayer.T} (h : Rep w shLayer cs d) (g : ∀ (j : Nat) (v : Value), cs[j]? = some v → w.cell? (q.add j) = some v) : Calls Try.prog 106 #[.pointer (some q)] w (RetB w (layD d)) := by
  obtain ⟨pw, cw, pb, cb, rfl, k1, k2⟩ := lay_vals h
  exact l03Layer_any (sp := q.spot) q.block q.off d.1 d.2.1 d.2.2.1 pw pb _ cw _ cb w (g 0 _ rfl) (g 1 _ rfl) (g 2 _ rfl) (g 3 _ rfl) (g 4 _ rfl) k1 k2
theorem valid_at {w : World} {cs : List Value} {d : shLayer.T} (h : Rep w shLayer cs d) : Calls Try.prog 108 #[.agg cs.toArray] w (RetB w (layD d)) := by
  obtain ⟨pw, cw, pb, cb, rfl, k1, k2⟩ := lay_vals h
  exact ValidLayer_any d.1 d.2.1 d.2.2.1 pw pb _ cw _ cb w k1 k2
theorem cs_add {w : World} {q : Addr} {cs : List Value} (h : Cs w (some q) cs) (j : Nat) (v : Value) (hv : cs[j]? = some v) : w.cell? (q.add j) = some v := h.cell j v hv
/-- A list of numbers and a word. -/
theorem out_flts {w w' : World} {xs : List Nat} {e : Ending} {q : Option Addr} {c : Nat} {vs : List Value} (h : w'.ownsRow w.heap.size 26 1 (.slice q xs.length c) xs.length vs) (hf : F32s vs xs) (he : e = .returned (.tuple #[.slice q xs.length c, .bool true])) (hx : Ext w w') : OutOk w (.sl .flt) (xs, true) e w' := by
  have h1 := own_flts.2 ⟨q, c, vs, rfl, ownRow_of h, hf, (own_cap h).1, (own_cap h).2, rfl⟩
  refine ⟨[.slice q xs.length c], _, he, h1, ?_, ?_, hx⟩
  · cases q <;> simp [blocksOf]
  · intro b hb
    cases q with
    | none => simp [blocksOf] at hb
    | some a => simp [blocksOf] at hb; subst hb; exact own_le h _ rfl
end Go.Proofs.Ytnlhahlegedlaaa
