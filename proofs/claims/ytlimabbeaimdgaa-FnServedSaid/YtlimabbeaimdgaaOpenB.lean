/- Lists of bytes as arguments, read. -/
import Derived.Test.YtlimabbeaimdgaaKb
import Derived.Test.YtlimabbeaimdgaaDr2
namespace Go.Proofs.Ytlimabbeaimdgaa
set_option linter.unusedSimpArgs false
set_option linter.unusedVariables false
open Go.RowKit Go.WideShapes Go.Deep Go.ChangeShapes

theorem open_bytes {H : Type} {enc : TypeId × Value → H} {P : Program} {w : World} {base : Nat} {spare : Nat → Bool} {held : Bool} {r : Reach} {b0 : Nat} {t e : TypeId} {v : Value} {d : DataW H} {ps : List MemPlace} (ht : P.underlying t = some (.slice e)) (he : P.underlying e = some (.int .u8)) (hce : P.cellsOf e = 1)
    (hval : Value.okWide P w r b0 t v) (hd : DataW.Trod enc P w base spare held t v d ps) :
    ∃ (p : Option Addr) (n c : Nat) (bs : List Nat), v = .slice p n c ∧ Cs w p (u8s bs) ∧ bs.length = n ∧ ∀ b ∈ bs, b < 256 := by
  obtain ⟨p0, n0, c0, rfl⟩ := okWide_slice ht hval
  obtain ⟨fuel, hx⟩ := hd
  cases fuel with
  | zero => simp [DataW.trod] at hx
  | succ k =>
    rcases open_slice ht hx with ⟨hv, _⟩ | ⟨a, ln, cp, m, n', D, Pl, hv, _, hl, hm, hmm, _, hel⟩
    · cases hv
      exact ⟨none, 0, 0, [], rfl, Cs.nil w none, rfl, fun b hb => by simp at hb⟩
    · have hv : [Value.slice p0 n0 c0] = [.slice (some a) ln cp] := hv
      injection hv with hv _
      injection hv with e1 e2 e3
      subst e1; subst e2; subst e3
      have hlm : n0 ≤ m := by rw [hmm]; split <;> omega
      obtain ⟨l, hl1, hl2⟩ := choose_list (A := Nat) (R := fun i b => w.cell? (a.add i) = some (.int .u8 (b : Int)) ∧ b < 256) n0 (fun i hi => by
        obtain ⟨cs', h1, h2⟩ := hel i (by omega)
        obtain ⟨z, rfl, _, hw⟩ := DataW.trod_int he h2
        rw [hce, Nat.mul_one] at h1
        obtain ⟨_, _, h6⟩ := World.cells?_some h1
        have h7 := h6 0 (by omega)
        rw [Go.Proofs.Ytlimabbeaimdgaa.add_add, Nat.add_zero] at h7
        simp only [Lit.wf, Bool.and_eq_true, decide_eq_true_eq] at hw
        have hw1 : 0 ≤ z ∧ z ≤ 255 := hw
        refine ⟨z.toNat, ?_, by omega⟩
        rw [h7, Int.toNat_of_nonneg hw1.1]; rfl)
      refine ⟨some a, n0, c0, l, rfl, ⟨fun i u hu => ?_, fun _ => rfl⟩, hl1, fun b hb => ?_⟩
      · unfold u8s at hu
        rw [List.getElem?_map] at hu
        cases hli : l[i]? with
        | none => rw [hli] at hu; simp at hu
        | some b => rw [hli] at hu; simp at hu; subst hu; exact (hl2 i b hli).1
      · obtain ⟨i, hi, rfl⟩ := List.mem_iff_getElem.1 hb
        exact (hl2 i _ (by simp)).2
end Go.Proofs.Ytlimabbeaimdgaa
