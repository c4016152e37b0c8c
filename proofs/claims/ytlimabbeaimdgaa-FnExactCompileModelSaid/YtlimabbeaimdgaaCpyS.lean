/- Models with other parameters, and copied: the reference's part. -/
import Derived.Test.YtlimabbeaimdgaaCpyM
import Derived.Test.YtlimabbeaimdgaaKd
namespace Go.Proofs.Ytlimabbeaimdgaa
set_option linter.unusedSimpArgs false
set_option linter.unusedVariables false
open Go.RowKit

/-- Where the parameters of a layer begin. -/
def off (L : List shLayer.T) (j : Nat) : Nat := (parF (L.take j)).length
/-- A layer with numbers out of a list. -/
def wLay (d : shLayer.T) (xs : List Nat) (o : Nat) : shLayer.T := (d.1, d.2.1, d.2.2.1, (xs.take (o + (d.2.2.2.1 : List Nat).length)).drop o, (xs.take (o + (d.2.2.2.1 : List Nat).length + (d.2.2.2.2.1 : List Nat).length)).drop (o + (d.2.2.2.1 : List Nat).length), ())
def wthF (L : List shLayer.T) (xs : List Nat) (i : Nat) : List shLayer.T := (List.range i).filterMap fun j => L[j]?.map fun d => wLay d xs (off L j)
theorem wthF_succ {L : List shLayer.T} {xs : List Nat} {i : Nat} {d : shLayer.T} (h : L[i]? = some d) : wthF L xs (i + 1) = wthF L xs i ++ [wLay d xs (off L i)] := by
  unfold wthF
  rw [List.range_succ, List.filterMap_append]
  simp [h]
theorem wthF_len {L : List shLayer.T} {xs : List Nat} : ∀ {i : Nat}, i ≤ L.length → (wthF L xs i).length = i
  | 0, _ => rfl
  | i + 1, h => by
    rw [wthF_succ (d := L[i]) (by simp), List.length_append, wthF_len (by omega)]; rfl
theorem off_succ {L : List shLayer.T} {i : Nat} {d : shLayer.T} (h : L[i]? = some d) : off L (i + 1) = off L i + ((d.2.2.2.1 : List Nat).length + (d.2.2.2.2.1 : List Nat).length) := by
  obtain ⟨hi, rfl⟩ := List.getElem?_eq_some_iff.1 h
  unfold off
  rw [parF_take hi, List.length_append, List.length_append]
theorem off_le (L : List shLayer.T) (i : Nat) : off L i ≤ (parF L).length := parF_le L i
/-- Its own parameters make the model again. -/
theorem parF_split {L : List shLayer.T} {i : Nat} {d : shLayer.T} (h : L[i]? = some d) : parF L = parF (L.take i) ++ ((d.2.2.2.1 : List Nat) ++ ((d.2.2.2.2.1 : List Nat) ++ parF (L.drop (i + 1)))) := by
  obtain ⟨hi, rfl⟩ := List.getElem?_eq_some_iff.1 h
  conv => lhs; rw [← List.take_append_drop i L]
  unfold parF
  rw [List.flatMap_append, List.drop_eq_getElem_cons hi, List.flatMap_cons, List.append_assoc]
theorem wLay_self {L : List shLayer.T} {i : Nat} {d : shLayer.T} (h : L[i]? = some d) : wLay d (parF L) (off L i) = d := by
  obtain ⟨a, b, c, ws, bs, u⟩ := d
  have hs := parF_split h
  have ho : off L i = (parF (L.take i)).length := rfl
  unfold wLay
  dsimp only at hs ⊢
  rw [ho]
  generalize parF (L.take i) = A at *
  generalize parF (L.drop (i + 1)) = C at *
  rw [hs]
  have e1 : ((A ++ (ws ++ (bs ++ C))).take (A.length + List.length ws)).drop A.length = ws := by
    rw [← List.append_assoc, ← List.length_append, List.take_left, List.drop_left]
  have e2 : ((A ++ (ws ++ (bs ++ C))).take (A.length + List.length ws + List.length bs)).drop (A.length + List.length ws) = bs := by
    rw [← List.append_assoc, ← List.append_assoc, ← List.length_append, ← List.length_append, List.take_left, List.drop_left]
  rw [e1, e2]
theorem wthF_self {L : List shLayer.T} : ∀ {i : Nat}, i ≤ L.length → wthF L (parF L) i = L.take i
  | 0, _ => rfl
  | i + 1, h => by
    have hd : L[i]? = some L[i] := by simp
    rw [wthF_succ hd, wthF_self (by omega), wLay_self hd, take_snoc hd]
theorem part_len {xs : List Nat} {a b : Nat} (h1 : a ≤ b) (h2 : b ≤ xs.length) : ((xs.take b).drop a).length = b - a := by
  rw [List.length_drop, List.length_take, Nat.min_eq_left h2]
theorem small_off {L : List shLayer.T} (h : Small L) : (parF L).length ≤ 1536 := by
  obtain ⟨h1, h2⟩ := h
  have : ∀ (M : List shLayer.T), (∀ d ∈ M, (d.2.2.2.1 : List Nat).length ≤ 64 ∧ (d.2.2.2.2.1 : List Nat).length ≤ 64) → (parF M).length ≤ 128 * M.length := by
    intro M
    induction M with
    | nil => intro _; simp [parF]
    | cons d M ih =>
      intro hM
      have hd := hM d (by simp)
      have hr := ih (fun y hy => hM y (by simp [hy]))
      unfold parF at *
      rw [List.flatMap_cons, List.length_append, List.length_append, List.length_cons]
      omega
  have := this L h2
  omega
end Go.Proofs.Ytlimabbeaimdgaa
