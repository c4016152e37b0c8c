/- RunModel. -/
import Derived.Test.YtbdcjhhphkckcaaKf
namespace Go.Proofs.Ytbdcjhhphkckcaa.lRunModel
set_option linter.unusedSimpArgs false
set_option linter.unusedVariables false
open Go.RowKit

theorem out_ten {w w' : World} {r c : Int} {xs : List Nat} {q : Option Addr} {cp n : Nat} {vs : List Value} {en : Ending} (hl : xs.length = n) (h : w'.ownsRow w.heap.size 22 1 (.slice q n cp) n vs) (hf : F32s vs xs)
    (he : en = .returned (.tuple #[.agg #[.int .i64 r, .int .i64 c, .slice q n cp], .bool true])) (hx : Ext w w') : OutOk w shTensor ((r, c, xs, ()), true) en w' := by
  obtain ⟨q', c', bs, h1, h2, h3, h4, _⟩ := retFl_thing2 hl (retFl_of hl h hf (e := .returned (.slice q n cp)) rfl hx)
  cases h1
  exact ⟨[.int .i64 r, .int .i64 c, .slice q n cp], bs, he, own_ten hl h2, h3, h4, hx⟩
theorem own_heap {w : World} {B te s n c : Nat} {q : Option Addr} {vs : List Value} (h : w.ownsRow B te s (.slice q n c) n vs) {t : TypeId} (hne : te ≠ t) : ∀ b ∈ blocksOf q, ∀ Z, w.heap[b]? ≠ some (.cells Z t) := by
  intro b hb Z he
  cases q with
  | none => simp [blocksOf] at hb
  | some a => simp [blocksOf] at hb; subst hb; exact own_tag h he hne _ rfl rfl
theorem outT_ten {w w' : World} {r c : Int} {xs : List Nat} {q : Option Addr} {cp n : Nat} {vs : List Value} {en : Ending} {t : TypeId} (hl : xs.length = n) (h : w'.ownsRow w.heap.size 22 1 (.slice q n cp) n vs) (hf : F32s vs xs) (hne : 22 ≠ t)
    (he : en = .returned (.tuple #[.agg #[.int .i64 r, .int .i64 c, .slice q n cp], .bool true])) (hx : Ext w w') : OutT w t shTensor ((r, c, xs, ()), true) en w' := by
  subst hl
  refine ⟨[.int .i64 r, .int .i64 c, .slice q xs.length cp], blocksOf q, he, own_ten rfl (own_flts.2 ⟨q, cp, vs, rfl, ownRow_of h, hf, (own_cap h).1, (own_cap h).2, rfl⟩), ?_, ?_, own_heap h hne, hx⟩
  · cases q <;> simp [blocksOf]
  · intro b hb
    cases q with
    | none => simp [blocksOf] at hb
    | some a => simp [blocksOf] at hb; subst hb; exact own_le h _ rfl
theorem outT_no_ten {w : World} {en : Ending} {w' : World} {t : TypeId} (h : en = .returned (.tuple #[.agg #[.int .i64 0, .int .i64 0, .slice none 0 0], .bool false])) (hx : Ext w w') : OutT w t shTensor ((0, 0, [], ()), false) en w' :=
  ⟨[.int .i64 0, .int .i64 0, .slice none 0 0], [], h, own_ten rfl own_nil, by simp, by simp, by simp, hx⟩
def res (d : shModel.T) (x : shTensor.T) : shTensor.T × Bool := if modB d.1 = true ∧ tenB x.1 x.2.1 (x.2.2.1 : List Nat).length = true ∧ x.2.1 = inL d.1 0 then ((x.1, outL d.1, rowsM d.1 x.2.2.1 x.2.1.toNat x.1.toNat, ()), true) else ((0, 0, [], ()), false)
theorem res_bd (d : shModel.T) (x : shTensor.T) (_ : tot shModel d ≤ 1048576) (_ : tot shTensor x ≤ 1048576) (_ : Fit shModel d) (_ : Fit shTensor x) : tot shTensor (res d x).1 ≤ 1048576 := by
  unfold res
  split
  · rename_i h
    obtain ⟨h1, h2, h3⟩ := h
    have hM := modOk h1
    obtain ⟨R, C, e1, e2, hR, hR1, hC, hC1, hn⟩ := tenB_of h2
    obtain ⟨m, hm, hm1, hm8⟩ := outL_nat hM
    have hl := rowsM_len (xs := x.2.2.1) (c := C) hM (by rw [← e2]; exact h3) hm hn R (Nat.le_refl _)
    have h4 := Nat.mul_le_mul hR1 hm8
    rw [e1, e2]
    simp only [Int.toNat_natCast]
    generalize rowsM d.1 x.2.2.1 C R = z at *
    have h5 : tot shTensor ((R : Int), outL d.1, z, ()) = tot (.sl .flt) z := by simp only [tot]; omega
    have h6 : tot shTensor ((R : Int), outL d.1, z, ()) ≤ 1048576 := by rw [h5, tot_flts]; omega
    exact h6
  · simp [tot]
end Go.Proofs.Ytbdcjhhphkckcaa.lRunModel
