/- All gradients of a tape. -/
import Derived.Test.YtmbckkcgiafagaaZ17FnFuse
import Derived.Test.YtmbckkcgiafagaaZ15FnFuse
import Derived.Test.YtmbckkcgiafagaaZ03FnFuse
import Derived.Test.YtmbckkcgiafagaaZ06FnFuse
set_option linter.unusedSimpArgs false
set_option linter.unusedVariables false
set_option maxRecDepth 100000
set_option maxHeartbeats 16000000
namespace Go.Proofs.Ytmbckkcgiafagaa
open Go.RowKit
theorem Tens.cell {w : World} {p : Option Addr} {n : Nat} {css : List (List Value)} {vs : List jae.T} (h : Tens w p n css vs) {j off : Nat} {cs : List Value} {u : Value} (hcs : css[j]? = some cs) (hu : cs[off]? = some u) : w.cell? (adr p (j * jae.sz + off)) = some u := by
 obtain ⟨hj,rfl⟩ := List.getElem?_eq_some_iff.1 hcs;have h1 := (h.cs.elem h.size hj).cell off u hu;rw [jbw] at h1;have hadd : (adr p (j * jae.sz)).add off = adr p (j * jae.sz + off) := by unfold adr;rw [add_add]
 rwa [hadd] at h1
theorem Tens.elem {w : World} {p : Option Addr} {n : Nat} {css : List (List Value)} {vs : List jae.T} (h : Tens w p n css vs) {j : Nat} {cs : List Value} (hcs : css[j]? = some cs) : Cs w (some (adr p (j * jae.sz))) cs := by
 obtain ⟨hj,rfl⟩ := List.getElem?_eq_some_iff.1 hcs;exact h.cs.elem h.size hj
theorem TenAt.ext {w w' : World} {cs : List Value} {s : Nat × Nat} {d : jae.T} (h : TenAt w cs s d) (e : Ext w w') : TenAt w' cs s d := by
 obtain ⟨q,c,us,xs,h1,h2,h3,h4,h5,h6,h7⟩ := h;exact ⟨q,c,us,xs,h1,h2,h3,h4.ext e,h5,h6,h7⟩
theorem TenAtB.ext {fg : List Nat} {w w' : World} {cs : List Value} {s : Nat × Nat} {d : jae.T} (h : TenAtB fg w cs s d) (e : Ext w w') : TenAtB fg w' cs s d := by
 obtain ⟨q,c,us,xs,h1,h2,h3,h4,h5,h6,h7⟩ := h;exact ⟨q,c,us,xs,h1,h2,h3,fun W S hS ch => h4 W S hS ((Chg.of_ext e).trans ch),h5,h6,h7⟩
theorem RepV.cells {w : World} {u : Value} {d : jae.T} (h : RepV w u d) : ∃ (r c : Int) (q : Option Addr) (n k : Nat),u = .agg #[.int .i64 r,.int .i64 c,.slice q n k] := by
 obtain ⟨cs,rfl,hr⟩ := h;obtain ⟨q,c,us,rfl,_⟩ := ten_vals hr;exact ⟨_,_,_,_,_,rfl⟩
end Go.Proofs.Ytmbckkcgiafagaa
