/- A part of the proofs: TnR, TnT, TnW. -/
import Derived.Test.YtmbckkcgiafagaaTnPFnFu
import Derived.Test.YtmbckkcgiafagaaZ07FnFuse
import Derived.Test.YtmbckkcgiafagaaZ10FnFuse
import Derived.Test.YtmbckkcgiafagaaZ09FnFuse
import Derived.Test.YtmbckkcgiafagaaZ16FnFuse
import Derived.Test.YtmbckkcgiafagaaZ17FnFuse
set_option linter.unusedSimpArgs false
set_option linter.unusedVariables false
set_option maxRecDepth 100000
set_option maxHeartbeats 16000000
namespace Go.Proofs.Ytmbckkcgiafagaa
open Go.RowKit
structure MtSt (w : World) (B b9 b11 fa : Nat) (v : Value) (ops : List shOp.T) (css : List (List Value)) (bss : List (List Nat)) : Prop where
 box : HB w b9 #[v] 56
 fn : HB w b11 #[.func (.func fa) #[] #[.pointer (some ⟨b9,0,none⟩)]] 134
 row : GrowOwn w B 98 shOp v ops css bss
 ne : ∀ b ∈ bss.flatten,b ≠ b9 ∧ b ≠ b11
 ne2 : b9 ≠ b11
theorem MtSt.ext {w w' : World} {B b9 b11 fa : Nat} {v : Value} {ops : List shOp.T} {css : List (List Value)} {bss : List (List Nat)} (h : MtSt w B b9 b11 fa v ops css bss) (e : Ext w w') : MtSt w' B b9 b11 fa v ops css bss :=
 ⟨h.box.ext e,h.fn.ext e,h.row.ext e,h.ne,h.ne2⟩
instance c1FnOp : Cell1 Try.prog 134 := ⟨by kernel_rfl,by kernel_rfl⟩
theorem own_ne2 {w : World} {B B' e e' s s' n n' : Nat} {v v' : Value} {vs vs' : List Value} (h : w.ownsRow B e s v n vs) (k : w.ownsRow B' e' s' v' n' vs') (ht : e ≠ e') : ∀ b,v.ownBlock = some b → v'.ownBlock ≠ some b := by
 intro b h1 h2;rcases h.2 with ⟨rfl,_⟩ | ⟨g,cap,cur,rfl,_,hh,_⟩
 · cases h1
 · rcases k.2 with ⟨rfl,_⟩ | ⟨g',cap',cur',rfl,_,hh',_⟩
   · cases h2
   · simp [Value.ownBlock] at h1 h2
     subst h1;subst h2;rw [hh] at hh';simp only [Option.some.injEq,Obj.cells.injEq] at hh';exact ht hh'.2.1
structure MtF (w : World) (B b9 b11 fa : Nat) (v wv : Value) (s : List shOp.T × List Int) (css : List (List Value)) (bss : List (List Nat)) : Prop where
 st : MtSt w B b9 b11 fa v s.1 css bss
 wr : w.ownsRow B 2 1 wv s.2.length (s.2.map (Value.int .i64))
 nw : ∀ b ∈ bss.flatten,wv.ownBlock ≠ some b
theorem MtF.ext {w w' : World} {B b9 b11 fa : Nat} {v wv : Value} {s : List shOp.T × List Int} {css : List (List Value)} {bss : List (List Nat)} (h : MtF w B b9 b11 fa v wv s css bss) (e : Ext w w') : MtF w' B b9 b11 fa v wv s css bss :=
 ⟨h.st.ext e,jak h.wr e,h.nw⟩
def wtsOf (L : List jaa.T) (r k : Int) (xs : List Nat) (r2 k2 : Int) (ys : List Nat) : List Int := mweights L (r,k,xs,()) (r2,k2,ys,())
end Go.Proofs.Ytmbckkcgiafagaa
