/- Lists of one's own whose elements change: a new element is put in, or an element turns where it lies. -/
import Derived.Test.YtlimabbeaimdgaaKb
namespace Go.Proofs.Ytlimabbeaimdgaa
set_option linter.unusedSimpArgs false
set_option linter.unusedVariables false
open Go.RowKit

/-- A thing of one's own, whose blocks are not older than B. -/
def IsOwn (B : Nat) (s : Sh) (w : World) (cs : List Value) (d : s.T) : Prop := ∃ bs, Own w s cs d bs ∧ bs.Nodup ∧ ∀ b ∈ bs, B ≤ b
theorem IsOwn.ext {B : Nat} {s : Sh} {w w' : World} {cs : List Value} {d : s.T} (h : IsOwn B s w cs d) (e : Ext w w') : IsOwn B s w' cs d := by
  obtain ⟨bs, h1, h2, h3⟩ := h; exact ⟨bs, h1.ext e, h2, h3⟩
theorem IsOwn.base {B B' : Nat} {s : Sh} {w : World} {cs : List Value} {d : s.T} (h : IsOwn B s w cs d) (hB : B' ≤ B) : IsOwn B' s w cs d := by
  obtain ⟨bs, h1, h2, h3⟩ := h; exact ⟨bs, h1, h2, fun b hb => Nat.le_trans hB (h3 b hb)⟩
theorem IsOwn.rep {B : Nat} {s : Sh} {w : World} {cs : List Value} {d : s.T} (h : IsOwn B s w cs d) : Rep w s cs d := by
  obtain ⟨bs, h1, _⟩ := h; exact h1.rep
theorem IsOwn.chg {B : Nat} {s : Sh} {w w' : World} {cs : List Value} {d : s.T} (h : IsOwn B s w cs d) {S : Nat → Prop} (k : Chg S w w') (hS : ∀ b, S b → b < B) : IsOwn B s w' cs d := by
  obtain ⟨bs, h1, h2, h3⟩ := h
  exact ⟨bs, h1.chg k (fun b hb hs => by have := h3 b hb; have := hS b hs; omega), h2, h3⟩

/-- A list of one's own, taken apart. -/
structure Tb (B : Nat) (E : Sh) (w : World) (p : Option Addr) (n c : Nat) (l : List E.T) (css : List (List Value)) (bss : List (List Nat)) : Prop where
  row : OwnRow w p n c css.flatten
  els : OwnEs w E css bss l
  nodup : (blocksOf p ++ bss.flatten).Nodup
  lo : ∀ b ∈ blocksOf p ++ bss.flatten, B ≤ b
  len : l.length = n
  cap : n ≤ c ∧ c ≤ maxLen
theorem tb_of {B : Nat} {E : Sh} {w : World} {cs : List Value} {l : List E.T} (h : IsOwn B (.sl E) w cs l) : ∃ p c css bss, cs = [.slice p l.length c] ∧ Tb B E w p l.length c l css bss := by
  obtain ⟨bs, h1, h2, h3⟩ := h
  obtain ⟨p, c, css, bss, h4, h5, h6, h7, h8, rfl⟩ := own_sl.1 h1
  exact ⟨p, c, css, bss, h4, h5, h8, h2, h3, rfl, h6, h7⟩
theorem Tb.own {B : Nat} {E : Sh} {w : World} {p : Option Addr} {n c : Nat} {l : List E.T} {css : List (List Value)} {bss : List (List Nat)} (h : Tb B E w p n c l css bss) : IsOwn B (.sl E) w [.slice p n c] l := by
  obtain ⟨h1, h2, h3, h4, h5, h6, h7⟩ := h
  subst h5
  exact ⟨blocksOf p ++ bss.flatten, own_sl.2 ⟨p, c, css, bss, rfl, h1, h6, h7, h2, rfl⟩, h3, h4⟩
theorem Tb.cnt {B : Nat} {E : Sh} {w : World} {p : Option Addr} {n c : Nat} {l : List E.T} {css : List (List Value)} {bss : List (List Nat)} (h : Tb B E w p n c l css bss) : css.length = n := by rw [h.els.1, h.len]
theorem Tb.all {B : Nat} {E : Sh} {w : World} {p : Option Addr} {n c : Nat} {l : List E.T} {css : List (List Value)} {bss : List (List Nat)} (h : Tb B E w p n c l css bss) : ∀ x ∈ css, x.length = E.sz := h.els.all
theorem Tb.ext {B : Nat} {E : Sh} {w w' : World} {p : Option Addr} {n c : Nat} {l : List E.T} {css : List (List Value)} {bss : List (List Nat)} (h : Tb B E w p n c l css bss) (e : Ext w w') : Tb B E w' p n c l css bss :=
  ⟨h.row.chg (.of_ext e (S := fun _ => False)) (fun _ _ h => h), h.els.chg (.of_ext e) (S := fun _ => False) (fun _ _ h => h), h.nodup, h.lo, h.len, h.cap⟩
theorem Tb.lt {B : Nat} {E : Sh} {w : World} {p : Option Addr} {n c : Nat} {l : List E.T} {css : List (List Value)} {bss : List (List Nat)} (h : Tb B E w p n c l css bss) : ∀ b ∈ blocksOf p ++ bss.flatten, b < w.heap.size := by
  intro b hb
  rcases List.mem_append.1 hb with hb | hb
  · exact h.row.lt b hb
  · exact h.els.lt b hb
theorem Tb.at {B : Nat} {E : Sh} {w : World} {p : Option Addr} {n c : Nat} {l : List E.T} {css : List (List Value)} {bss : List (List Nat)} (h : Tb B E w p n c l css bss) {i : Nat} (hi : i < n) : ∃ cs bs d, css[i]? = some cs ∧ bss[i]? = some bs ∧ l[i]? = some d ∧ Own w E cs d bs := by
  have h1 := h.els.1; have h2 := h.els.2.1; have h3 := h.len
  exact ⟨css[i], bss[i], l[i], by simp, by simp, by simp, h.els.2.2 i _ _ _ (by simp) (by simp) (by simp)⟩
theorem set_flat_sub : ∀ {bss : List (List Nat)} {i : Nat} {bs : List Nat}, ∀ b ∈ (bss.set i bs).flatten, b ∈ bss.flatten ∨ b ∈ bs
  | [], _, _, b, hb => by simp at hb
  | x :: bss, 0, bs, b, hb => by
    simp only [List.set_cons_zero, List.flatten_cons, List.mem_append] at hb ⊢
    rcases hb with h | h
    · exact .inr h
    · exact .inl (.inr h)
  | x :: bss, i + 1, bs, b, hb => by
    simp only [List.set_cons_succ, List.flatten_cons, List.mem_append] at hb ⊢
    rcases hb with h | h
    · exact .inl (.inl h)
    · rcases set_flat_sub b h with h | h
      · exact .inl (.inr h)
      · exact .inr h
theorem set_flat_nodup : ∀ {bss : List (List Nat)} {i : Nat} {bs : List Nat}, bss.flatten.Nodup → bs.Nodup → (∀ b ∈ bs, b ∉ bss.flatten) → (bss.set i bs).flatten.Nodup
  | [], _, _, _, _, _ => by simp
  | x :: bss, 0, bs, h, hb, hd => by
    rw [List.flatten_cons, List.nodup_append] at h
    rw [List.set_cons_zero, List.flatten_cons, List.nodup_append]
    refine ⟨hb, h.2.1, fun a ha b hb' he => ?_⟩
    subst he
    exact hd a ha (by rw [List.flatten_cons]; exact List.mem_append_right _ hb')
  | x :: bss, i + 1, bs, h, hb, hd => by
    rw [List.flatten_cons, List.nodup_append] at h
    rw [List.set_cons_succ, List.flatten_cons, List.nodup_append]
    refine ⟨h.1, set_flat_nodup h.2.1 hb (fun b hb' hm => hd b hb' (by rw [List.flatten_cons]; exact List.mem_append_right _ hm)), fun a ha b hb' he => ?_⟩
    subst he
    rcases set_flat_sub a hb' with h' | h'
    · exact h.2.2 a ha a h' rfl
    · exact hd a h' (by rw [List.flatten_cons]; exact List.mem_append_left _ ha)
/-- A new element is put in. -/
theorem Tb.put {B : Nat} {E : Sh} {w0 w w' : World} {p : Option Addr} {n c : Nat} {l : List E.T} {css : List (List Value)} {bss : List (List Nat)} (h : Tb B E w0 p n c l css bss) (e : Ext w0 w) {i : Nat} (hi : i < n) {cs : List Value} {d : E.T} {bs : List Nat}
    (ho : Own w E cs d bs) (hn : bs.Nodup) (hf : ∀ b ∈ bs, w0.heap.size ≤ b) (hB : B ≤ w0.heap.size) (hr : OwnRow w' p n c (css.set i cs).flatten) (k : Chg (fun b => b ∈ blocksOf p) w w') : Tb B E w' p n c (l.set i d) (css.set i cs) (bss.set i bs) := by
  have lt0 := h.lt
  have h1 := h.els.1; have h2 := h.els.2.1; have h3 := h.len
  obtain ⟨n1, n2, n3, n4⟩ := nodup_split h.nodup
  have hels := (h.ext e).els
  refine ⟨hr, ⟨by simp [h1], by simp [h2], fun j cs' bs' d' g1 g2 g3 => ?_⟩, ?_, ?_, by rw [List.length_set]; exact h3, h.cap⟩
  · by_cases hj : i = j
    · subst hj
      rw [List.getElem?_set_self (by omega)] at g1 g2 g3
      cases g1; cases g2; cases g3
      exact ho.chg k fun b hb hs => by have := hf b hb; have := lt0 b (List.mem_append_left _ hs); omega
    · rw [List.getElem?_set_ne hj] at g1 g2 g3
      exact (hels.2.2 j cs' bs' d' g1 g2 g3).chg k fun b hb hs => n3 b hs (List.mem_flatten.2 ⟨bs', List.mem_of_getElem? g2, hb⟩)
  · rw [List.nodup_append]
    refine ⟨n1, set_flat_nodup n2 hn (fun b hb hm => by have := hf b hb; have := lt0 b (List.mem_append_right _ hm); omega), fun a ha b hb he => ?_⟩
    subst he
    rcases set_flat_sub a hb with h' | h'
    · exact n3 a ha h'
    · have := hf a h'; have := lt0 a (List.mem_append_left _ ha); omega
  · intro b hb
    rcases List.mem_append.1 hb with hb | hb
    · exact h.lo b (List.mem_append_left _ hb)
    · rcases set_flat_sub b hb with h' | h'
      · exact h.lo b (List.mem_append_right _ h')
      · have := hf b h'; omega
/-- An element turns where it lies. -/
theorem Tb.turn {B : Nat} {E : Sh} {w w' : World} {p : Option Addr} {n c : Nat} {l : List E.T} {css : List (List Value)} {bss : List (List Nat)} (h : Tb B E w p n c l css bss) {i : Nat} {cs : List Value} {d : E.T} {bs : List Nat} (hcs : css[i]? = some cs) (hbs : bss[i]? = some bs)
    {S : Nat → Prop} (k : Chg S w w') (hS : ∀ b, S b → b ∈ bs) (ho : Own w' E cs d bs) : Tb B E w' p n c (l.set i d) css bss := by
  obtain ⟨n1, n2, n3, n4⟩ := nodup_split h.nodup
  have hset : css.set i cs = css := by
    obtain ⟨hi, h'⟩ := List.getElem?_eq_some_iff.1 hcs
    rw [← h']; simp
  refine ⟨h.row.chg k (fun b hb hs => n3 b hb (List.mem_flatten.2 ⟨bs, List.mem_of_getElem? hbs, hS b hs⟩)), ?_, h.nodup, h.lo, by rw [List.length_set]; exact h.len, h.cap⟩
  have := h.els.upd k hbs (fun j bj hj hb b hb' hs => flat_apart n2 hbs hb hj b hb' (hS b hs)) ho
  rwa [hset] at this
/-- 'make([]T, n)' of slices: all nil. -/
theorem flat_ones {z : Value} : ∀ n : Nat, (List.replicate n [z]).flatten = List.replicate n z
  | 0 => rfl
  | n + 1 => by rw [List.replicate_succ, List.flatten_cons, flat_ones n, List.replicate_succ]; rfl
theorem rep_flat : ∀ n : Nat, (List.replicate n ([] : List Nat)).flatten = []
  | 0 => rfl
  | n + 1 => by rw [List.replicate_succ, List.flatten_cons, rep_flat n]; rfl
theorem tb_made {B te : Nat} {e : Sh} {w : World} {g n : Nat} (h : w.ownsRow B te 1 (.slice (some ⟨g, 0, none⟩) n n) n (List.replicate n (.slice none 0 0))) (hB : B ≤ g) : Tb B (.sl e) w (some ⟨g, 0, none⟩) n n (List.replicate n ([] : List e.T)) (List.replicate n [.slice none 0 0]) (List.replicate n []) := by
  refine ⟨by rw [flat_ones]; exact ownRow_of h, ⟨by rw [List.length_replicate, List.length_replicate], by rw [List.length_replicate, List.length_replicate], fun i cs bs d h1 h2 h3 => ?_⟩, by rw [rep_flat]; simp [blocksOf], ?_, by rw [List.length_replicate], own_cap h⟩
  · rw [List.getElem?_replicate] at h1 h2 h3
    split at h1
    · rename_i hi
      rw [if_pos hi] at h2 h3
      cases h1; cases h2; cases h3
      exact own_nil
    · cases h1
  · rw [rep_flat, List.append_nil]
    intro b hb
    simp [blocksOf] at hb; omega

/-- A list of integers of one's own. -/
theorem ints_cells {w : World} {css : List (List Value)} {bss : List (List Nat)} : ∀ {l : List Int}, OwnEs w .int css bss l → css.flatten = l.map (Value.int .i64) ∧ bss.flatten = [] := by
  intro l
  induction l generalizing css bss with
  | nil =>
    intro h
    have h1 : css = [] := List.eq_nil_of_length_eq_zero h.1
    have h2 : bss = [] := List.eq_nil_of_length_eq_zero h.2.1
    subst h1; subst h2; exact ⟨rfl, rfl⟩
  | cons x l ih =>
    intro h
    obtain ⟨h1, h2, h3⟩ := h
    cases css with
    | nil => simp at h1
    | cons cs css =>
      cases bss with
      | nil => simp at h2
      | cons bs bss =>
        obtain ⟨g1, g2⟩ := ih (css := css) (bss := bss) ⟨by simpa using h1, by simpa using h2, fun i a b d k1 k2 k3 => h3 (i + 1) a b d (by simpa using k1) (by simpa using k2) (by simpa using k3)⟩
        obtain ⟨e1, e2⟩ := h3 0 cs bs x rfl rfl rfl
        subst e1; subst e2
        exact ⟨by rw [List.flatten_cons, g1]; rfl, by rw [List.flatten_cons, g2]; rfl⟩
theorem ints_els (w : World) : ∀ (l : List Int), OwnEs w .int (l.map fun x => [Value.int .i64 x]) (l.map fun _ => []) l := by
  intro l
  refine ⟨by simp, by simp, fun i cs bs d h1 h2 h3 => ?_⟩
  rw [List.getElem?_map, h3] at h1 h2
  cases h1; cases h2
  exact ⟨rfl, rfl⟩
theorem flat_ints : ∀ (l : List Int), (l.map fun x => [Value.int .i64 x]).flatten = l.map (Value.int .i64)
  | [] => rfl
  | x :: l => by simp [flat_ints l]
theorem flat_nones : ∀ (l : List Int), (l.map fun _ => ([] : List Nat)).flatten = []
  | [] => rfl
  | x :: l => by simp [flat_nones l]
theorem own_intsE {w : World} {p : Option Addr} {n c : Nat} {l : List Int} {bs : List Nat} : Own w (.sl .int) [.slice p n c] l bs ↔ l.length = n ∧ OwnRow w p n c (l.map (Value.int .i64)) ∧ n ≤ c ∧ c ≤ maxLen ∧ bs = blocksOf p := by
  rw [own_sl]
  constructor
  · rintro ⟨p', c', css, bss, h1, h2, h3, h4, h5, h6⟩
    cases h1
    obtain ⟨g1, g2⟩ := ints_cells h5
    exact ⟨rfl, by rw [← g1]; exact h2, h3, h4, by rw [h6, g2, List.append_nil]⟩
  · rintro ⟨rfl, h2, h3, h4, h5⟩
    exact ⟨p, c, _, _, rfl, by rw [flat_ints]; exact h2, h3, h4, ints_els w l, by rw [h5, flat_nones, List.append_nil]⟩
theorem one_set {css : List (List Value)} {i : Nat} {u : Value} (h : ∀ c ∈ css, c.length = 1) (hi : i < css.length) : css.flatten.set i u = (css.set i [u]).flatten := by
  have h1 := flat_set (s := 1) (f := 0) (u := u) h hi (by omega)
  rw [Nat.mul_one, Nat.add_zero] at h1
  rw [h1]
  have h2 := h css[i] (by simp)
  obtain ⟨v, hv⟩ : ∃ v, css[i] = [v] := by
    cases hc : css[i] with
    | nil => rw [hc] at h2; simp at h2
    | cons v t => rw [hc] at h2; simp at h2; exact ⟨v, by rw [h2]⟩
  rw [hv]; rfl
theorem one_get {css : List (List Value)} {i : Nat} {u : Value} (h : ∀ c ∈ css, c.length = 1) (hi : css[i]? = some [u]) : css.flatten[i]? = some u := by
  obtain ⟨hl, he⟩ := List.getElem?_eq_some_iff.1 hi
  have h1 := flat_get (s := 1) (i := i) (j := 0) h hl (by omega)
  rw [Nat.mul_one, Nat.add_zero, he] at h1
  simpa using h1
section
variable {P : Program} {w : World} {ops : Array Oper} {rest : List Oper} {o : Oper} {a : Act} {Q : Exit → Act → World → Prop}
/-- '*p = u' of one cell. -/
theorem wl_store1 {t : TypeId} [Cell1 P t] {x y : Operand} (hg : o.guard = none) (ho : o.op = .store t x y) {q : Addr} {u v : Value} (hx : a.eval x = .pointer (some q)) (hy : a.eval y = u) (hu : u.oneCell' = true) (hc : w.cell? q = some v) (hf : w.frozen? q = false)
    (h : wpList P ops Q rest (a.put o.dst undef) (w.setCell q u)) : wpList P ops Q (o :: rest) a w :=
  wl_skip hg (w' := w.setCell q u) (by simp [execOp, ho, hx, hy, run_store1 hc hf hu]) h
end
end Go.Proofs.Ytlimabbeaimdgaa
