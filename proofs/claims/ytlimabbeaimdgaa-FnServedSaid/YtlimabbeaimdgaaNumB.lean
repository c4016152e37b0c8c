/- NumbersBytes of the program and of the reference. -/
import Derived.Test.YtlimabbeaimdgaaBy2
import Derived.Test.YtlimabbeaimdgaaKa
namespace Go.Proofs.Ytlimabbeaimdgaa.lNumbersBytes
set_option linter.unusedSimpArgs false
set_option linter.unusedVariables false
open Go.RowKit

def res (xs : List Nat) : ByteArray × Bool := if xs.length ≤ 4096 then (⟨(bytesOf xs).toArray⟩, true) else (⟨#[]⟩, false)
def Got (w : World) (r : ByteArray × Bool) (e : Ending) (w' : World) : Prop := e = .returned (.tuple #[.string r.1, .bool r.2]) ∧ Ext w w'

set_option maxRecDepth 100000 in
set_option maxHeartbeats 1000000 in
theorem impl_ok (cs0 : List Value) (D0 : Sh.T (.sl .flt)) (w : World) (h0 : Rep w (.sl .flt) cs0 D0) : Calls Try.prog 29 #[ofCs (.sl .flt) cs0] w (Got w (res D0)) := by
  obtain ⟨p, c, vs, rfl, h2, h3, h4, h5⟩ := rep_flts.1 h0
  have hm := Nat.le_trans h4 h5
  unfold maxLen at hm
  simp only [ofCs, Sh.agg, List.headD_cons, Bool.false_eq_true, if_false]
  by_cases hl : D0.length ≤ 4096
  · have hR : res D0 = (⟨(bytesOf D0).toArray⟩, true) := by unfold res; rw [if_pos hl]
    rw [hR]
    have C := numbers_any (.slice none 0 0) 0 w.heap.size [] p D0.length c vs D0 w (Nat.le_refl _) (World.ownsRow_nil _ _ _ _) rfl (by omega) h2 h3 (fun hne => h2.blk hne)
    have hbl := hid (bytesOf_length D0)
    clear hR h0 h4
    generalize D0.length = n at *
    go_enter Try.func29, Try.ntmps29
    go_wp2_with fail
    refine C.mono ?_
    rintro e w1 ⟨v1, rfl, o1, c1, b1⟩
    rw [Nat.zero_add, List.nil_append] at o1
    have e1 : Ext w w1 := (Ext.refl w).chg c1 (fun b hb => by cases hb)
    obtain ⟨q, cq, rfl⟩ : ∃ q cq, v1 = .slice q (bytesOf D0).length cq := by
      rcases o1.2 with ⟨h, h'⟩ | ⟨g, cap, cur, h, _⟩
      · exact ⟨none, 0, by rw [h, h']⟩
      · exact ⟨_, _, h⟩
    go_wp2_with (refine wl_bytesStr rfl rfl rfl (own_Cs o1) rfl ?_)
    go_ret2
    exact ⟨rfl, e1⟩
  · have hR : res D0 = (⟨#[]⟩, false) := by unfold res; rw [if_neg hl]
    rw [hR]
    clear hR h0 h4
    generalize D0.length = n at *
    go_enter Try.func29, Try.ntmps29
    go_wp2
    go_ret2
    exact ⟨rfl, Ext.refl _⟩
end Go.Proofs.Ytlimabbeaimdgaa.lNumbersBytes
