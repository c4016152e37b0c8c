/- The reference's tape of a model, where all fits. -/
import Derived.Test.YtmbckkcgiafagaaZ19FnFuse
import Derived.Test.YtmbckkcgiafagaaZ17FnFuse
import Derived.Test.YtmbckkcgiafagaaZ10FnFuse
import Derived.Test.YtmbckkcgiafagaaZ11FnFuse
import Derived.Test.YtmbckkcgiafagaaZ15FnFuse
set_option linter.unusedSimpArgs false
set_option linter.unusedVariables false
set_option maxRecDepth 100000
set_option maxHeartbeats 16000000
namespace Go.Proofs.Ytmbckkcgiafagaa
open Go.RowKit
structure MtR (w : World) (B : Nat) (v wv : Value) (ops : List shOp.T) (ws : List Int) (css : List (List Value)) (bss : List (List Nat)) : Prop where
 row : GrowOwn w B 98 shOp v ops css bss
 wr : w.ownsRow B 2 1 wv ws.length (ws.map (Value.int .i64))
 nw : ∀ b ∈ bss.flatten,wv.ownBlock ≠ some b
theorem MtR.ext {w w' : World} {B : Nat} {v wv : Value} {ops : List shOp.T} {ws : List Int} {css : List (List Value)} {bss : List (List Nat)} (h : MtR w B v wv ops ws css bss) (e : Ext w w') : MtR w' B v wv ops ws css bss := ⟨h.row.ext e,jak h.wr e,h.nw⟩
theorem MtR.add {w0 w w9 : World} {B m c g k : Nat} {q : Option Addr} {wv : Value} {ops : List shOp.T} {ws : List Int} {css : List (List Value)} {bss : List (List Nat)} (M : MtR w0 B (.slice q m k) wv ops ws css bss) (hx : Ext w0 w) {cs : List Value} {d : shOp.T} {bs : List Nat} (ho : Own w shOp cs d bs) (hn : bs.Nodup) (hf : ∀ b ∈ bs,w0.heap.size ≤ b) (hB : B ≤ w0.heap.size) (hm : ops.length = m)
 (hr : w9.ownsRow B 98 shOp.sz (.slice (some ⟨g,0,none⟩) (m + 1) c) (m + 1) (css.flatten ++ cs)) (hg : w.grownBy w9 (Value.slice q m k).ownBlock) (hw : (Value.slice q m k).ownBlock = some g ∨ g = w.heap.size + 1) : MtR w9 B (.slice (some ⟨g,0,none⟩) (m + 1) c) wv (ops ++ [d]) ws (css ++ [cs]) (bss ++ [bs]) := by
 refine ⟨M.row.snoc hx ho hn hf hB hm hr hg hw,ja2 (jak M.wr hx) (Chg.of_grown hg) (fun x hx' h => own_ne2 M.wr M.row.row (by decide) x hx' h.symm),fun x hx' h => ?_⟩;rw [List.flatten_append,List.flatten_cons,List.flatten_nil,List.append_nil,List.mem_append] at hx';rcases hx' with h2 | h2
 · exact M.nw x h2 h
 · have := own_lt M.wr x h;have := hf x h2;omega
end Go.Proofs.Ytmbckkcgiafagaa
