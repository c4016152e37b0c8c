/- Bytes that are read one piece after another: the program's source. -/
import Derived.Test.YtlimabbeaimdgaaSrc
namespace Go.Proofs.Ytlimabbeaimdgaa
set_option linter.unusedSimpArgs false
set_option linter.unusedVariables false
open Go.RowKit

theorem ba_ext (l : List UInt8) (i j : Nat) : (⟨l.toArray⟩ : ByteArray).extract i j = ⟨((l.take j).drop i).toArray⟩ := by
  apply ByteArray.ext
  rw [ByteArray.data_extract]
  rw [List.drop_take]
  simp
theorem ba_size (l : List UInt8) : (⟨l.toArray⟩ : ByteArray).size = l.length := by simp [ByteArray.size]

/-- A source of the program: what is left, and whether there was too little. -/
def SrcAt (w : World) (b : Nat) (l : List UInt8) (f : Bool) : Prop := w.heap[b]? = some (.cells #[.string ⟨l.toArray⟩, .bool f] 134 (0, 0))
theorem SrcAt.c0 {w : World} {b : Nat} {l : List UInt8} {f : Bool} (h : SrcAt w b l f) : w.cell? ⟨b, 0, none⟩ = some (.string ⟨l.toArray⟩) := by
  unfold SrcAt at h; unfold World.cell?; rw [h]; rfl
theorem SrcAt.c1 {w : World} {b : Nat} {l : List UInt8} {f : Bool} (h : SrcAt w b l f) : w.cell? ⟨b, 1, none⟩ = some (.bool f) := by
  unfold SrcAt at h; unfold World.cell?; rw [h]; rfl
theorem SrcAt.z0 {w : World} {b : Nat} {l : List UInt8} {f : Bool} (h : SrcAt w b l f) (o : Nat) : w.frozen? ⟨b, o, none⟩ = false := by
  unfold SrcAt at h; unfold World.frozen?; rw [h]; rfl
theorem SrcAt.set0 {w : World} {b : Nat} {l : List UInt8} {f : Bool} (h : SrcAt w b l f) (m : List UInt8) : SrcAt (w.setCell ⟨b, 0, none⟩ (.string ⟨m.toArray⟩)) b m f := by
  unfold SrcAt at h ⊢
  simp [World.setCell, Array.getElem?_modify, h]
theorem SrcAt.set1 {w : World} {b : Nat} {l : List UInt8} {f : Bool} (h : SrcAt w b l f) (g : Bool) : SrcAt (w.setCell ⟨b, 1, none⟩ (.bool g)) b l g := by
  unfold SrcAt at h ⊢
  simp [World.setCell, Array.getElem?_modify, h]
theorem chg_set (w : World) (b o : Nat) (u : Value) : Chg (fun k => k = b) w (w.setCell ⟨b, o, none⟩ u) :=
  Chg.setCell (S := fun k => k = b) (Chg.refl _ w) (p := ⟨b, o, none⟩) rfl u

set_option maxRecDepth 100000 in
set_option maxHeartbeats 1000000 in
theorem take_any (b : Nat) (l : List UInt8) (f : Bool) (n : Nat) (w : World) (h : SrcAt w b l f) (hl : l.length ≤ 1073741824) :
    Calls Try.prog 183 #[.pointer (some ⟨b, 0, none⟩), .int .i64 n] w fun e w' =>
      e = .returned (.string ⟨(if l.length < n then [] else l.take n).toArray⟩) ∧ SrcAt w' b (if l.length < n then l else l.drop n) (f || decide (l.length < n)) ∧ Chg (fun k => k = b) w w' := by
  have hz := ba_size l
  have c0 := h.c0
  have c1 := h.c1
  have z0 := h.z0 0
  have z1 := h.z0 1
  by_cases hlt : l.length < n
  · rw [if_pos hlt, if_pos hlt, decide_eq_true hlt, Bool.or_true]
    go_enter Try.func183, Try.ntmps183
    go_wp2
    go_ret
    exact ⟨rfl, h.set1 true, chg_set w b 1 _⟩
  · rw [if_neg hlt, if_neg hlt, decide_eq_false hlt, Bool.or_false]
    have x1 := ba_ext l 0 n
    have x2 := ba_ext l n l.length
    rw [List.take_of_length_le (Nat.le_refl _)] at x2
    rw [List.drop_zero] at x1
    go_enter Try.func183, Try.ntmps183
    go_wp2
    go_ret
    exact ⟨rfl, h.set0 _, chg_set w b 0 _⟩
end Go.Proofs.Ytlimabbeaimdgaa
