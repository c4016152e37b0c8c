/- A part of the proofs: HInt64SS, TnWt, TnWg. -/
import Derived.Test.YtmbckkcgiafagaaZ06FnFuse
import Derived.Test.YtmbckkcgiafagaaZ02FnFuse
import Derived.Test.YtmbckkcgiafagaaTnMeFnFu
import Derived.Test.YtmbckkcgiafagaaZ07FnFuse
import Derived.Test.YtmbckkcgiafagaaZ03FnFuse
set_option linter.unusedSimpArgs false
set_option linter.unusedVariables false
set_option maxRecDepth 100000
set_option maxHeartbeats 16000000
namespace Go.Proofs.Ytmbckkcgiafagaa
open Go.RowKit
-- the slice type is an instance of Ty
instance elInt64SS : ElTy Try.prog 45 (.sl .int) := ⟨by kernel_rfl,by kernel_rfl⟩
def InpW (ops : List shOp.T) (ws : List Int) : Prop := ∀ z ∈ ws,0 ≤ z ∧ z < (ops.length : Int) ∧ (ops.getD z.toNat o0).1 = 0
theorem InpW.app {ops : List shOp.T} {ws : List Int} (h : InpW ops ws) (more : List shOp.T) : InpW (ops ++ more) ws := by
 intro z hz;obtain ⟨a,b,c⟩ := h z hz;refine ⟨a,by rw [List.length_append];omega,?_⟩;rw [getD_appl _ _ _ _ (by omega)];exact c
def partL (xs : List Nat) (a n C : Nat) : List Nat := (xs.take ((a + n) * C)).drop (a * C)
def wTape (L : List jaa.T) (K : Nat) (xs : List Nat) (K2 : Nat) (ys : List Nat) (a c z : Nat) : List shOp.T := mtape L ((c : Int),(K : Int),partL xs a c K,()) ((c : Int),(K2 : Int),partL ys a c K2,()) z
def wWts (L : List jaa.T) (K : Nat) (xs : List Nat) (K2 : Nat) (ys : List Nat) (a c : Nat) : List Int := wtsOf L c K (partL xs a c K) c K2 (partL ys a c K2)
structure WgOwn (w' : World) (B : Nat) (Ls : List (List Nat)) (ys : List Nat) (v : Value) (q : Option Addr) (n c : Nat) (css : List (List Value)) (bss : List (List Nat)) (vs : List Value) : Prop where
 ls : GrowOwn w' B 25 (.sl .flt) v Ls css bss
 fs : w'.ownsRow B 33 1 (.slice q n c) n vs
 fl : F32s vs ys
 ne : ∀ b,(Value.slice q n c).ownBlock = some b → v.ownBlock ≠ some b ∧ b ∉ bss.flatten
theorem WgOwn.ext {w w' : World} {B : Nat} {Ls : List (List Nat)} {ys : List Nat} {v : Value} {q : Option Addr} {n c : Nat} {css : List (List Value)} {bss : List (List Nat)} {vs : List Value} (h : WgOwn w B Ls ys v q n c css bss vs) (e : Ext w w') : WgOwn w' B Ls ys v q n c css bss vs :=
 ⟨h.ls.ext e,jak h.fs e,h.fl,h.ne⟩
theorem WgOwn.base {w : World} {B B' : Nat} {Ls : List (List Nat)} {ys : List Nat} {v : Value} {q : Option Addr} {n c : Nat} {css : List (List Value)} {bss : List (List Nat)} {vs : List Value} (h : WgOwn w B Ls ys v q n c css bss vs) (hB : B' ≤ B) : WgOwn w B' Ls ys v q n c css bss vs :=
 ⟨⟨ja0 h.ls.row hB,h.ls.els,h.ls.nodup,fun b hb => ⟨Nat.le_trans hB (h.ls.lo b hb).1,(h.ls.lo b hb).2⟩⟩,ja0 h.fs hB,h.fl,h.ne⟩
end Go.Proofs.Ytmbckkcgiafagaa
