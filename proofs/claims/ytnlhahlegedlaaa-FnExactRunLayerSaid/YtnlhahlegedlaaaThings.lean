/- Things that a law makes: results that are lists or structs, cells of variables under changes. -/
import Derived.Test.YtnlhahlegedlaaaAgg
import Derived.Test.YtnlhahlegedlaaaLaw
import Derived.Test.YtnlhahlegedlaaaOpen
import Derived.Test.YtnlhahlegedlaaaPlain
import Derived.Test.YtnlhahlegedlaaaMk
namespace Go.Proofs.Ytnlhahlegedlaaa
set_option linter.unusedSimpArgs false
set_option linter.unusedVariables false
open Go.RowKit

/-- A list or struct of one's own, and a word whether it went well. -/
def OutOk (w : World) (s : Sh) (r : s.T × Bool) (e : Ending) (w' : World) : Prop :=
  ∃ cs bs, e = .returned (.tuple #[ofCs s cs, .bool r.2]) ∧ Own w' s cs r.1 bs ∧ bs.Nodup ∧ (∀ b ∈ bs, w.heap.size ≤ b) ∧ Ext w w'
/-- Two of them. -/
def Out2 (w : World) (s t : Sh) (r : s.T × t.T × Bool) (e : Ending) (w' : World) : Prop :=
  ∃ c1 b1 c2 b2, e = .returned (.tuple #[ofCs s c1, ofCs t c2, .bool r.2.2]) ∧ Own w' s c1 r.1 b1 ∧ Own w' t c2 r.2.1 b2 ∧ (b1 ++ b2).Nodup ∧ (∀ b ∈ b1 ++ b2, w.heap.size ≤ b) ∧ Ext w w'
theorem own_nil {w : World} {e : Sh} : Own w (.sl e) [.slice none 0 0] [] [] :=
  own_sl.2 ⟨none, 0, [], [], rfl, .inl ⟨rfl, rfl, rfl, rfl⟩, Nat.le_refl _, Nat.zero_le _, ⟨rfl, rfl, fun i cs bs d h => by simp at h⟩, rfl⟩
theorem outOk_no {w : World} {e : Sh} {en : Ending} {w' : World} (h : en = .returned (.tuple #[.slice none 0 0, .bool false])) (hx : Ext w w') : OutOk w (.sl e) ([], false) en w' :=
  ⟨[.slice none 0 0], [], h, own_nil, by simp, by simp, hx⟩
theorem Cs.blkLt {w : World} {b : Nat} {cs : List Value} (h : Cs w (some ⟨b, 0, none⟩) cs) (hl : 0 < cs.length) : b < w.heap.size := by
  have := h.blk (List.ne_nil_of_length_pos hl)
  rwa [adr_row] at this
theorem Cs.chgB {S : Nat → Prop} {w w' : World} {b : Nat} {cs : List Value} (h : Cs w (some ⟨b, 0, none⟩) cs) (k : Chg S w w') (hb : b < w.heap.size) (hn : ¬ S b) : Cs w' (some ⟨b, 0, none⟩) cs :=
  ⟨fun i u hu => by
    have := h.1 i u hu
    rw [adr_row] at this ⊢
    rw [(k.cellOf hb hn).1]; exact this, h.2⟩
/-- A new block that is written is no change of what was there. -/
theorem Ext.of_chg1 {w w' : World} {o : Obj} (ch : Chg (fun b => b = w.heap.size) (w.alloc o) w') : Ext w w' := (Ext.alloc w o).chg ch (fun b hb => by subst hb; exact Nat.le_refl _)
end Go.Proofs.Ytnlhahlegedlaaa
