/- The workers' gradients, of the program: the walk. -/
import Derived.Test.YtmbckkcgiafagaaZ21FnFuse
set_option linter.unusedSimpArgs false
set_option linter.unusedVariables false
set_option maxRecDepth 100000
set_option maxHeartbeats 16000000
namespace Go.Proofs.Ytmbckkcgiafagaa
open Go.RowKit
def PtRet (B : Nat) (L : List jaa.T) (K : Nat) (xs : List Nat) (K2 : Nat) (ys : List Nat) (a k : Nat) (u : Value) (w' : World) : Prop :=
 ∃ (q : Option Addr) (nq c : Nat) (qw : Option Addr) (nw cw : Nat) (css : List (List Value)) (bss : List (List Nat)) (ops : List shOp.T) (x : Int) (z0 : Nat),u = .tuple #[.slice q nq c,.slice qw nw cw,.bool true] ∧ GrowOwn w' B 98 shOp (.slice q nq c) (ops ++ [(5,x,0,z0,t0,())]) css bss ∧ ops.length + 1 = nq ∧ w'.ownsRow B 2 1 (.slice qw nw cw) nw ((wWts L K xs K2 ys a k).map (Value.int .i64)) ∧ (wWts L K xs K2 ys a k).length = nw ∧ ∀ z,wTape L K xs K2 ys a k z = ops ++ [(5,x,0,z,t0,())]
theorem GrowOwn.baseW {w : World} {B B' : Nat} {te : TypeId} {E : Sh} {v : Value} {l : List E.T} {css : List (List Value)} {bss : List (List Nat)} (h : GrowOwn w B te E v l css bss) (hB : B' ≤ B) : GrowOwn w B' te E v l css bss :=
 ⟨ja0 h.row hB,h.els,h.nodup,fun b hb => ⟨Nat.le_trans hB (h.lo b hb).1,(h.lo b hb).2⟩⟩
theorem PtRet.base {B B' : Nat} {L : List jaa.T} {K : Nat} {xs : List Nat} {K2 : Nat} {ys : List Nat} {a k : Nat} {u : Value} {w : World} (h : PtRet B L K xs K2 ys a k u w) (hB : B' ≤ B) : PtRet B' L K xs K2 ys a k u w := by
 obtain ⟨q,nq,c,qw,nw,cw,css,bss,ops,x,z0,h1,h2,h3,h4,h5⟩ := h;exact ⟨q,nq,c,qw,nw,cw,css,bss,ops,x,z0,h1,h2.baseW hB,h3,ja0 h4 hB,h5⟩
theorem PtRet.ext {B : Nat} {L : List jaa.T} {K : Nat} {xs : List Nat} {K2 : Nat} {ys : List Nat} {a k : Nat} {u : Value} {w w' : World} (h : PtRet B L K xs K2 ys a k u w) (e : Ext w w') : PtRet B L K xs K2 ys a k u w' := by
 obtain ⟨q,nq,c,qw,nw,cw,css,bss,ops,x,z0,h1,h2,h3,h4,h5⟩ := h;exact ⟨q,nq,c,qw,nw,cw,css,bss,ops,x,z0,h1,h2.ext e,h3,jak h4 e,h5⟩
end Go.Proofs.Ytmbckkcgiafagaa
