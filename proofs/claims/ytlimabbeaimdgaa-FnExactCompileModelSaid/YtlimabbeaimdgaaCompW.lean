/- CompileModel: steps of one's own, grown and turned. -/
import Derived.Test.YtlimabbeaimdgaaCompA
import Derived.Test.YtlimabbeaimdgaaGrowX
import Derived.Test.YtlimabbeaimdgaaStHB
namespace Go.Proofs.Ytlimabbeaimdgaa
set_option linter.unusedSimpArgs false
set_option linter.unusedVariables false
open Go.RowKit

theorem own_stp {w : World} {k i o : Int} {qw qb qz : Option Addr} {lw kw lb kb lz kz : Nat} {ws bs zs : List Nat} {bw bb bz : List Nat} (h1 : Own w (.sl .flt) [.slice qw lw kw] ws bw) (h2 : Own w (.sl .flt) [.slice qb lb kb] bs bb) (h3 : Own w (.sl .flt) [.slice qz lz kz] zs bz) (r : Bool) :
    Own w shPlanStep [.int .i64 k, .int .i64 i, .int .i64 o, .slice qw lw kw, .slice qb lb kb, .slice qz lz kz, .bool r] (k, i, o, ws, bs, zs, r, ()) (bw ++ (bb ++ bz)) :=
  ⟨[.int .i64 k], _, [], _, rfl, ⟨rfl, rfl⟩, ⟨[.int .i64 i], _, [], _, rfl, ⟨rfl, rfl⟩, ⟨[.int .i64 o], _, [], _, rfl, ⟨rfl, rfl⟩, ⟨[.slice qw lw kw], _, bw, bb ++ bz, rfl, h1, ⟨[.slice qb lb kb], _, bb, bz, rfl, h2, ⟨[.slice qz lz kz], [.bool r], bz, [], rfl, h3, ⟨[.bool r], [], [], [], rfl, ⟨rfl, rfl⟩, ⟨rfl, rfl⟩, rfl⟩, by simp⟩, rfl⟩, rfl⟩, rfl⟩, rfl⟩, rfl⟩
theorem stp_own {w : World} {cs : List Value} {d : shPlanStep.T} {bl : List Nat} (h : Own w shPlanStep cs d bl) : ∃ (qw : Option Addr) (kw : Nat) (qb : Option Addr) (kb : Nat) (qz : Option Addr) (kz : Nat) (bw bb bz : List Nat), cs = [.int .i64 d.1, .int .i64 d.2.1, .int .i64 d.2.2.1, .slice qw (d.2.2.2.1 : List Nat).length kw, .slice qb (d.2.2.2.2.1 : List Nat).length kb, .slice qz (d.2.2.2.2.2.1 : List Nat).length kz, .bool d.2.2.2.2.2.2.1] ∧
    Own w (.sl .flt) [.slice qw (d.2.2.2.1 : List Nat).length kw] d.2.2.2.1 bw ∧ Own w (.sl .flt) [.slice qb (d.2.2.2.2.1 : List Nat).length kb] d.2.2.2.2.1 bb ∧ Own w (.sl .flt) [.slice qz (d.2.2.2.2.2.1 : List Nat).length kz] d.2.2.2.2.2.1 bz ∧ bl = bw ++ (bb ++ bz) := by
  obtain ⟨a1, a2, a3, a4, a5, a6, a7, au⟩ := d
  obtain ⟨_, _, b1, _, rfl, ⟨rfl, rfl⟩, ⟨_, _, b2, _, rfl, ⟨rfl, rfl⟩, ⟨_, _, b3, _, rfl, ⟨rfl, rfl⟩, ⟨_, _, b4, _, rfl, h4, ⟨_, _, b5, _, rfl, h5, ⟨_, _, b6, _, rfl, h6, ⟨_, _, b7, _, rfl, ⟨rfl, rfl⟩, ⟨rfl, rfl⟩, rfl⟩, rfl⟩, rfl⟩, rfl⟩, rfl⟩, rfl⟩, rfl⟩ := h
  obtain ⟨p4, c4, rfl, _⟩ := rep_val h4.rep
  obtain ⟨p5, c5, rfl, _⟩ := rep_val h5.rep
  obtain ⟨p6, c6, rfl, _⟩ := rep_val h6.rep
  exact ⟨p4, c4, p5, c5, p6, c6, b4, b5, b6, rfl, h4, h5, h6, by simp⟩
/-- The last of the steps, in memory. -/
theorem last_cells {w : World} {B m c : Nat} {te : TypeId} {q : Option Addr} {P : List shPlanStep.T} {css : List (List Value)} {bss : List (List Nat)} (h : GrowOwn w B te shPlanStep (.slice q m c) P css bss) (hP : P.length = m) (hm : 1 ≤ m) :
    ∃ (g : Nat) (qw : Option Addr) (kw : Nat) (qb : Option Addr) (kb : Nat) (qz : Option Addr) (kz : Nat) (bw bb bz : List Nat), q = some ⟨g, 0, none⟩ ∧
      css[m - 1]? = some [.int .i64 (lastP P).1, .int .i64 (lastP P).2.1, .int .i64 (lastP P).2.2.1, .slice qw ((lastP P).2.2.2.1 : List Nat).length kw, .slice qb ((lastP P).2.2.2.2.1 : List Nat).length kb, .slice qz ((lastP P).2.2.2.2.2.1 : List Nat).length kz, .bool (lastP P).2.2.2.2.2.2.1] ∧
      Own w (.sl .flt) [.slice qw ((lastP P).2.2.2.1 : List Nat).length kw] (lastP P).2.2.2.1 bw ∧ Own w (.sl .flt) [.slice qb ((lastP P).2.2.2.2.1 : List Nat).length kb] (lastP P).2.2.2.2.1 bb ∧ Own w (.sl .flt) [.slice qz ((lastP P).2.2.2.2.2.1 : List Nat).length kz] (lastP P).2.2.2.2.2.1 bz ∧ bss[m - 1]? = some (bw ++ (bb ++ bz)) ∧
      w.cell? ⟨g, (m - 1) * 7, none⟩ = some (.int .i64 (lastP P).1) ∧ w.cell? ⟨g, (m - 1) * 7 + 5, none⟩ = some (.slice qz ((lastP P).2.2.2.2.2.1 : List Nat).length kz) ∧ w.cell? ⟨g, (m - 1) * 7 + 6, none⟩ = some (.bool (lastP P).2.2.2.2.2.2.1) := by
  subst hP
  have hrow := h.row
  obtain ⟨g, rfl⟩ := own_some hrow (by omega)
  have h1 := h.els.1
  have h2 := h.els.2.1
  have hall := h.els.all
  have hj : P.length - 1 < css.length := by omega
  have hl : P[P.length - 1]? = some (lastP P) := by unfold lastP; rw [List.getD_eq_getElem?_getD, List.getElem?_eq_getElem (by omega)]; simp
  have ho := h.els.2.2 (P.length - 1) _ _ _ (List.getElem?_eq_getElem hj) (List.getElem?_eq_getElem (show P.length - 1 < bss.length by omega)) hl
  obtain ⟨qw, kw, qb, kb, qz, kz, bw, bb, bz, e1, o1, o2, o3, e2⟩ := stp_own ho
  have hcell : ∀ j v, j < 7 → (css[P.length - 1])[j]? = some v → w.cell? ⟨g, (P.length - 1) * 7 + j, none⟩ = some v := by
    intro j v hj7 hv
    have hb : (P.length - 1) * 7 + j < P.length * 7 := by omega
    rw [hrow.cellAt _ hb, flat_get (s := 7) hall hj hj7]
    exact hv
  rw [e1] at hcell
  refine ⟨g, qw, kw, qb, kb, qz, kz, bw, bb, bz, rfl, by rw [List.getElem?_eq_getElem hj, e1], o1, o2, o3, by rw [List.getElem?_eq_getElem (show P.length - 1 < bss.length by omega), e2], ?_, ?_, ?_⟩
  · have := hcell 0 _ (by omega) rfl; rwa [Nat.add_zero] at this
  · exact hcell 5 _ (by omega) rfl
  · exact hcell 6 _ (by omega) rfl
theorem nodup_of_flat : ∀ {bss : List (List Nat)} {i : Nat} {b : List Nat}, bss.flatten.Nodup → bss[i]? = some b → b.Nodup
  | [], _, _, _, h => by simp at h
  | x :: bss, 0, b, h, hb => by
    simp at hb; subst hb
    rw [List.flatten_cons, List.nodup_append] at h
    exact h.1
  | x :: bss, i + 1, b, h, hb => by
    rw [List.flatten_cons, List.nodup_append] at h
    exact nodup_of_flat h.2.1 (by simpa using hb)
/-- The last step gets a relu. -/
theorem turn_relu {w0 w w' : World} {B m c g : Nat} {te : TypeId} {P : List shPlanStep.T} {css : List (List Value)} {bss : List (List Nat)} (h : GrowOwn w0 B te shPlanStep (.slice (some ⟨g, 0, none⟩) m c) P css bss) (hx : Ext w0 w) (hB : B ≤ w0.heap.size) (hP : P.length = m) (hm : 1 ≤ m)
    (hr : w'.ownsRow B te 7 (.slice (some ⟨g, 0, none⟩) m c) m (css.flatten.set ((m - 1) * 7 + 6) (.bool true))) (hg : w.grownBy w' (some g)) :
    ∃ css', GrowOwn w' B te shPlanStep (.slice (some ⟨g, 0, none⟩) m c) (P.set (m - 1) (withR (lastP P))) css' bss := by
  obtain ⟨g', qw, kw, qb, kb, qz, kz, bw, bb, bz, hq, e1, o1, o2, o3, e2, _⟩ := last_cells h hP hm
  have h1 := h.els.1
  have hall := h.els.all
  have hj : m - 1 < css.length := by omega
  have e1' := e1
  rw [List.getElem?_eq_getElem hj] at e1'
  have e3 := Option.some.inj e1'
  rw [flat_set (s := 7) hall hj (by omega), e3] at hr
  have ho := own_stp (k := (lastP P).1) (i := (lastP P).2.1) (o := (lastP P).2.2.1) (o1.ext hx) (o2.ext hx) (o3.ext hx) true
  have hbn : (bw ++ (bb ++ bz)).Nodup := nodup_of_flat h.nodup e2
  have ht := h.turn hx e2 (d := withR (lastP P)) ho hbn (fun b hb => .inl hb) hB (by rw [hP]; exact hr) hg
  have hs : bss.set (m - 1) (bw ++ (bb ++ bz)) = bss := by
    obtain ⟨hi, h'⟩ := List.getElem?_eq_some_iff.1 e2
    rw [← h']; simp
  rw [hs] at ht
  exact ⟨_, ht⟩
/-- The last step gets scales. -/
theorem turn_scale {w0 w w' : World} {B m c g lx kx : Nat} {te : TypeId} {P : List shPlanStep.T} {css : List (List Value)} {bss : List (List Nat)} {qx : Option Addr} {xs bx : List Nat} (h : GrowOwn w0 B te shPlanStep (.slice (some ⟨g, 0, none⟩) m c) P css bss) (hx : Ext w0 w) (hB : B ≤ w0.heap.size) (hP : P.length = m) (hm : 1 ≤ m)
    (ox : Own w (.sl .flt) [.slice qx lx kx] xs bx) (nx : bx.Nodup) (lo : ∀ b ∈ bx, w0.heap.size ≤ b)
    (hr : w'.ownsRow B te 7 (.slice (some ⟨g, 0, none⟩) m c) m (css.flatten.set ((m - 1) * 7 + 5) (.slice qx lx kx))) (hg : w.grownBy w' (some g)) :
    ∃ css' bss', GrowOwn w' B te shPlanStep (.slice (some ⟨g, 0, none⟩) m c) (P.set (m - 1) (withS (lastP P) xs)) css' bss' ∧ ∀ b ∈ bss'.flatten, b ∈ bss.flatten ∨ b ∈ bx := by
  obtain ⟨g', qw, kw, qb, kb, qz, kz, bw, bb, bz, hq, e1, o1, o2, o3, e2, _⟩ := last_cells h hP hm
  have h1 := h.els.1
  have hall := h.els.all
  have hj : m - 1 < css.length := by omega
  have e1' := e1
  rw [List.getElem?_eq_getElem hj] at e1'
  have e3 := Option.some.inj e1'
  rw [flat_set (s := 7) hall hj (by omega), e3] at hr
  have ho := own_stp (k := (lastP P).1) (i := (lastP P).2.1) (o := (lastP P).2.2.1) (o1.ext hx) (o2.ext hx) ox (lastP P).2.2.2.2.2.2.1
  have hbn := nodup_of_flat h.nodup e2
  have hin : ∀ b ∈ bw ++ (bb ++ bz), b ∈ bss.flatten := fun b hb => List.mem_flatten.2 ⟨_, List.mem_of_getElem? e2, hb⟩
  have hlt := h.els.lt
  rw [List.nodup_append, List.nodup_append] at hbn
  have hbn2 : (bw ++ (bb ++ bx)).Nodup := by
    rw [List.nodup_append, List.nodup_append]
    refine ⟨hbn.1, ⟨hbn.2.1.1, nx, fun x hx' y hy he => ?_⟩, fun x hx' y hy he => ?_⟩
    · subst he
      have := lo x hy
      have := hlt x (hin x (by simp [hx']))
      omega
    · subst he
      rcases List.mem_append.1 hy with hy | hy
      · exact hbn.2.2 x hx' x (List.mem_append_left _ hy) rfl
      · have := lo x hy
        have := hlt x (hin x (by simp [hx']))
        omega
  have ht := h.turn hx e2 (d := withS (lastP P) xs) ho hbn2 (fun b hb => by
    rcases List.mem_append.1 hb with hb | hb
    · exact .inl (by simp [hb])
    · rcases List.mem_append.1 hb with hb | hb
      · exact .inl (by simp [hb])
      · exact .inr (lo b hb)) hB (by rw [hP]; exact hr) hg
  refine ⟨_, _, ht, fun b hb => ?_⟩
  rcases set_flat_sub b hb with h' | h'
  · exact .inl h'
  · rcases List.mem_append.1 h' with h' | h'
    · exact .inl (hin b (by simp [h']))
    · rcases List.mem_append.1 h' with h' | h'
      · exact .inl (hin b (by simp [h']))
      · exact .inr h'
theorem stpOf_own {w : World} {d : shLayer.T} {qw qb qz : Option Addr} {lw kw lb kb kz : Nat} {bw bb bz : List Nat} (h1 : Own w (.sl .flt) [.slice qw lw kw] d.2.2.2.1 bw) (h2 : Own w (.sl .flt) [.slice qb lb kb] d.2.2.2.2.1 bb) (h3 : Own w (.sl .flt) [.slice qz 0 kz] [] bz) :
    Own w shPlanStep [.int .i64 d.1, .int .i64 d.2.1, .int .i64 d.2.2.1, .slice qw lw kw, .slice qb lb kb, .slice qz 0 kz, .bool false] (stpOf d) (bw ++ (bb ++ bz)) := own_stp h1 h2 h3 false
end Go.Proofs.Ytlimabbeaimdgaa
