/- Regions whose order is drawn: fields of elements. -/
import Derived.Test.YtmbckkcgiafagaaZ16FnMode
set_option linter.unusedSimpArgs false
set_option linter.unusedVariables false
set_option maxRecDepth 100000
set_option maxHeartbeats 16000000
namespace Go.Proofs.Ytmbckkcgiafagaa
open Go.RowKit
section
variable {P : Program} {ops : Array Oper} {Q : Exit → Act → World → Prop} {S : World → Prop} {a : Act} {w : World}
theorem hs_fa {n k : Nat} {listed : Array Bool} {o : Oper} {e : TypeId} {f off : Nat} {x : Operand} {p : Option Addr} {i : Nat} (hB : takeB ops listed k = true) (ho : ops[k]? = some o) (hg : o.guard = none) (hQ : ∀ c a w,Q (.panic c) (a.put o.dst (.pointer (some (adr p (i + off))))) w → Q (.panic c) a w) (hS : S w)
 (hop : o.op = .fieldAddr e x f) (hx : a.eval x = .pointer (some (adr p i))) (hfo : ∀ (q : Addr) (w : World),(Instr.fieldAt e (.pointer (some q)) f).run P w = .ok (.pointer (some (q.add off))) w)
 (h : wpT P ops Q S n (listed.setIfInBounds k true) (a.put o.dst (.pointer (some (adr p (i + off))))) w) : wpT P ops Q S (n + 1) listed a w :=
 jad _ hB ho hg hQ hS (fun W _ => by
  have hadd : (adr p i).add off = adr p (i + off) := by unfold adr;rw [add_add]
  simp [execOp,hop,hx,hfo,hadd]) h
theorem hs_ld1 {n k : Nat} {listed : Array Bool} {o : Oper} {t : TypeId} [Cell1 P t] {x : Operand} {q : Addr} {u : Value} (hB : takeB ops listed k = true) (ho : ops[k]? = some o) (hg : o.guard = none) (hQ : ∀ c a w,Q (.panic c) (a.put o.dst u) w → Q (.panic c) a w) (hS : S w)
 (hop : o.op = .load t x) (hx : a.eval x = .pointer (some q)) (hc : ∀ W,S W → W.cell? q = some u)
 (h : wpT P ops Q S n (listed.setIfInBounds k true) (a.put o.dst u) w) : wpT P ops Q S (n + 1) listed a w :=
 jad _ hB ho hg hQ hS (fun W hW => by simp [execOp,hop,hx,jce (hc W hW)]) h
def readyB (ops : Array Oper) (listed : Array Bool) (l : List Nat) : Bool := Region.ready .any ops listed == l && l.all fun x => x != ops.size - 1
theorem hs_three {n x y z : Nat} {listed : Array Bool} (hB : readyB ops listed [x,y,z] = true) (hx : wpOp P ops Q x (fun a' w' => S w' ∧ wpT P ops Q S n (listed.setIfInBounds x true) a' w') a w)
 (hy : wpOp P ops Q y (fun a' w' => S w' ∧ wpT P ops Q S n (listed.setIfInBounds y true) a' w') a w) (hz : wpOp P ops Q z (fun a' w' => S w' ∧ wpT P ops Q S n (listed.setIfInBounds z true) a' w') a w) : wpT P ops Q S (n + 1) listed a w := by
 simp only [readyB,Bool.and_eq_true,beq_iff_eq,List.all_eq_true,bne_iff_ne] at hB;obtain ⟨h1,h2⟩ := hB;refine ⟨by rw [h1];simp,fun i hi => ?_⟩;rw [h1] at hi;refine ⟨h2 i hi,?_⟩;simp only [List.mem_cons,List.not_mem_nil,or_false] at hi;rcases hi with rfl | rfl | rfl
 · exact hx
 · exact hy
 · exact hz
theorem hs_pair {n x y : Nat} {listed : Array Bool} (hB : readyB ops listed [x,y] = true) (hx : wpOp P ops Q x (fun a' w' => S w' ∧ wpT P ops Q S n (listed.setIfInBounds x true) a' w') a w)
 (hy : wpOp P ops Q y (fun a' w' => S w' ∧ wpT P ops Q S n (listed.setIfInBounds y true) a' w') a w) : wpT P ops Q S (n + 1) listed a w := by
 simp only [readyB,Bool.and_eq_true,beq_iff_eq,List.all_eq_true,bne_iff_ne] at hB;obtain ⟨h1,h2⟩ := hB;refine ⟨by rw [h1];simp,fun i hi => ?_⟩;rw [h1] at hi;refine ⟨h2 i hi,?_⟩;simp only [List.mem_cons,List.not_mem_nil,or_false] at hi;rcases hi with rfl | rfl
 · exact hx
 · exact hy
theorem wp_cut {c : Code} (F : Value → Value → Nat → Nat → World → Prop) (upd : Value → Value → Nat → Nat → Act → Act)
 (h1 : c.wp P (fun ex a' w' => ∃ ua ub b1 b2,ex = .normal ∧ a' = upd ua ub b1 b2 a ∧ F ua ub b1 b2 w') a w) (h2 : ∀ ua ub b1 b2 w',F ua ub b1 b2 w' → Q .normal (upd ua ub b1 b2 a) w') : c.wp P Q a w := by
 refine Code.wp_mono (fun ex a' w' h => ?_) h1;obtain ⟨ua,ub,b1,b2,rfl,rfl,hF⟩ := h;exact h2 ua ub b1 b2 w' hF
end
end Go.Proofs.Ytmbckkcgiafagaa
