/- ArchiveOf of the program and of the reference. -/
import Derived.Test.YtlimabbeaimdgaaBy2
import Derived.Test.YtlimabbeaimdgaaKb
import Derived.Test.YtlimabbeaimdgaaHStringS
import Derived.Test.YtlimabbeaimdgaaKc
namespace Go.Proofs.Ytlimabbeaimdgaa.lArchiveOf
set_option linter.unusedSimpArgs false
set_option linter.unusedVariables false
open Go.RowKit

def go : List UInt8 → List ByteArray → Option (List UInt8)
  | a, [] => some a
  | a, s :: l => if s.size ≤ 20000 then go (a ++ (leB s.size 4 ++ s.data.toList)) l else none
def fin : Option (List UInt8) → ByteArray × Bool
  | some a => (⟨a.toArray⟩, true)
  | none => (⟨#[]⟩, false)
def res (l : List ByteArray) : ByteArray × Bool := if l.length ≤ 8 then fin (go [] l) else (⟨#[]⟩, false)
def Got (w : World) (r : ByteArray × Bool) (e : Ending) (w' : World) : Prop := e = .returned (.tuple #[.string r.1, .bool r.2]) ∧ Ext w w'
theorem strs_of {w : World} {cs : List Value} {D : List ByteArray} (h : Rep w (.sl .str) cs D) : ∃ p c, cs = [.slice p D.length c] ∧ Cs w p (D.map Value.string) ∧ D.length ≤ maxLen := by
  obtain ⟨p, c, h1, h2, h3, h4⟩ := rep_strs.1 h
  exact ⟨p, c, h1, h2, Nat.le_trans h3 h4⟩
theorem ba_app (a b : List UInt8) : (⟨a.toArray⟩ : ByteArray) ++ (⟨b.toArray⟩ : ByteArray) = ⟨(a ++ b).toArray⟩ := by
  apply ByteArray.ext
  rw [ByteArray.data_append]; simp
theorem ba_app2 (a : List UInt8) (b : ByteArray) : (⟨a.toArray⟩ : ByteArray) ++ b = ⟨(a ++ b.data.toList).toArray⟩ := by
  apply ByteArray.ext
  rw [ByteArray.data_append]; simp

section
variable {P : Program} {w wf : World} {ops : Array Oper} {rest : List Oper} {o : Oper} {a : Act} {Q : Act → Prop} {F : Option Tmp → World → World → Value → Prop}
theorem x_sadd {t t' : TypeId} {x y : Operand} {s1 s2 : ByteArray} (hw : Region.wanted o (yielded ops a.tmps) = true) (ho : o.op = .binOp .add t x y t') (hx : a.eval x = .string s1) (hy : a.eval y = .string s2) (hs : s1.size + s2.size ≤ 9223372036854775807)
    (h : wpX P ops F w wf Q rest (a.put o.dst (.string (s1 ++ s2)))) : wpX P ops F w wf Q (o :: rest) a :=
  x_pure hw (fun w1 _ => by simp [execOp, ho, hx, hy, binOp, eqGuard_arith (op := .add) rfl, run_string_add_sum w1 s1 s2 hs]) h
end
theorem own_form {w : World} {B e s n : Nat} {v : Value} {vs : List Value} (h : w.ownsRow B e s v n vs) : ∃ q c, v = .slice q n c := by
  rcases h.2 with ⟨h1, h2⟩ | ⟨g, cap, cur, h1, _⟩
  · exact ⟨none, 0, by rw [h1, h2]⟩
  · exact ⟨_, _, h1⟩

end Go.Proofs.Ytlimabbeaimdgaa.lArchiveOf
