/- Marks: how far the numbers go, and what a mark on one element makes of a list. -/
import Derived.Test.YtnlhahlegedlaaaElem
namespace Go.Proofs.Ytnlhahlegedlaaa
set_option linter.unusedSimpArgs false
set_option linter.unusedVariables false
open Go.RowKit

def Sh.ok : Sh → Bool
  | .sl e => e.ok && decide (e.sz ≤ 32)
  | .pr a b => a.ok && b.ok
  | _ => true
theorem tot_sl {e : Sh} (l : List e.T) : tot (.sl e) l = l.length + (l.map (tot e)).sum := rfl
theorem mkE_sl {e : Sh} (l : List e.T) (k : Int) : mkE (.sl e) l k = carry (mkE e) l k := rfl
theorem mkV_sl {e : Sh} (l : List e.T) (k : Int) : mkV (.sl e) l k = carry (mkE e) l k := rfl
theorem carry_nil {A : Type} (f : A → Int → A × Int) (k : Int) : carry f [] k = ([], k) := rfl
theorem carry_cons {A : Type} (f : A → Int → A × Int) (x : A) (xs : List A) (k : Int) : carry f (x :: xs) k = ((f x k).1 :: (carry f xs (f x k).2).1, (carry f xs (f x k).2).2) := rfl
theorem length_carry {A : Type} (f : A → Int → A × Int) : ∀ (l : List A) (k : Int), (carry f l k).1.length = l.length
  | [], _ => rfl
  | x :: l, k => by rw [carry_cons]; simp [length_carry f l]
theorem carry_append {A : Type} (f : A → Int → A × Int) : ∀ (l m : List A) (k : Int), carry f (l ++ m) k = ((carry f l k).1 ++ (carry f m (carry f l k).2).1, (carry f m (carry f l k).2).2)
  | [], m, k => by simp [carry_nil]
  | x :: l, m, k => by rw [List.cons_append, carry_cons, carry_append f l m, carry_cons]; rfl
theorem carry_bd {A : Type} {f : A → Int → A × Int} {t : A → Nat} {z : Nat} (hz : z ≤ 32) (h : ∀ x k, k ≤ (f x k).2 ∧ (f x k).2 ≤ k + z + 64 * (t x : Int)) : ∀ (l : List A) (k : Int), k ≤ (carry f l k).2 ∧ (carry f l k).2 ≤ k + 64 * ((l.length + (l.map t).sum : Nat) : Int)
  | [], k => by simp [carry_nil]
  | x :: l, k => by
    obtain ⟨h1, h2⟩ := h x k
    obtain ⟨h3, h4⟩ := carry_bd hz h l (f x k).2
    rw [carry_cons]
    simp only [List.length_cons, List.map_cons, List.sum_cons]
    refine ⟨by omega, ?_⟩
    have : ((l.length + 1 + (t x + (l.map t).sum) : Nat) : Int) = ((l.length + (l.map t).sum : Nat) : Int) + 1 + (t x : Int) := by omega
    rw [this]; omega
theorem mkE_bd : ∀ (s : Sh), s.ok = true → ∀ (x : s.T) (k : Int), k ≤ (mkE s x k).2 ∧ (mkE s x k).2 ≤ k + s.sz + 64 * (tot s x : Int)
  | .int, _, x, k => by simp only [mkE, Sh.sz, tot]; omega
  | .flt, _, x, k => by simp only [mkE, Sh.sz, tot]; omega
  | .bool, _, x, k => by simp only [mkE, Sh.sz, tot]; omega
  | .str, _, x, k => by simp only [mkE, Sh.sz, tot]; omega
  | .un, _, x, k => by simp [mkE, Sh.sz, tot]
  | .sl e, h, l, k => by
    simp only [Sh.ok, Bool.and_eq_true, decide_eq_true_eq] at h
    obtain ⟨h1, h2⟩ := carry_bd h.2 (mkE_bd e h.1) l k
    rw [mkE_sl, tot_sl]
    exact ⟨h1, by simp only [Sh.sz]; omega⟩
  | .pr a b, h, x, k => by
    simp only [Sh.ok, Bool.and_eq_true] at h
    obtain ⟨h1, h2⟩ := mkE_bd a h.1 x.1 k
    obtain ⟨h3, h4⟩ := mkE_bd b h.2 x.2 (mkE a x.1 k).2
    simp only [mkE, Sh.sz, tot]
    exact ⟨by omega, by omega⟩
theorem mkV_bd : ∀ (s : Sh), s.ok = true → ∀ (x : s.T) (k : Int), k ≤ (mkV s x k).2 ∧ (mkV s x k).2 ≤ k + 64 * (tot s x : Int)
  | .int, _, x, k => by simp [mkV, tot]
  | .flt, _, x, k => by simp [mkV, tot]
  | .bool, _, x, k => by simp [mkV, tot]
  | .str, _, x, k => by simp only [mkV, tot]; omega
  | .un, _, x, k => by simp [mkV, tot]
  | .sl e, h, l, k => by
    simp only [Sh.ok, Bool.and_eq_true, decide_eq_true_eq] at h
    exact carry_bd h.2 (mkE_bd e h.1) l k
  | .pr a b, h, x, k => by
    simp only [Sh.ok, Bool.and_eq_true] at h
    obtain ⟨h1, h2⟩ := mkV_bd a h.1 x.1 k
    obtain ⟨h3, h4⟩ := mkV_bd b h.2 x.2 (mkV a x.1 k).2
    simp only [mkV, tot]
    exact ⟨by omega, by omega⟩

/-- The first i elements marked; the number that comes next. -/
def mkTo (e : Sh) (l : List e.T) (k : Int) (i : Nat) : List e.T := (carry (mkE e) (l.take i) k).1 ++ l.drop i
def mkK (e : Sh) (l : List e.T) (k : Int) (i : Nat) : Int := (carry (mkE e) (l.take i) k).2
theorem mkTo_zero (e : Sh) (l : List e.T) (k : Int) : mkTo e l k 0 = l := by simp [mkTo, carry_nil]
theorem mkK_zero (e : Sh) (l : List e.T) (k : Int) : mkK e l k 0 = k := by simp [mkK, carry_nil]
theorem mkTo_all (e : Sh) (l : List e.T) (k : Int) : mkTo e l k l.length = (mkV (.sl e) l k).1 := by simp [mkTo, mkV_sl]
theorem mkK_all (e : Sh) (l : List e.T) (k : Int) : mkK e l k l.length = (mkV (.sl e) l k).2 := by simp [mkK, mkV_sl]
theorem length_mkTo (e : Sh) (l : List e.T) (k : Int) (i : Nat) : (mkTo e l k i).length = l.length := by
  simp [mkTo, length_carry]; omega
theorem mk_succ (e : Sh) (l : List e.T) (k : Int) (i : Nat) (hi : i < l.length) : mkK e l k (i + 1) = (mkE e l[i] (mkK e l k i)).2 ∧ mkTo e l k (i + 1) = (mkTo e l k i).set i (mkE e l[i] (mkK e l k i)).1 := by
  have ht : l.take (i + 1) = l.take i ++ [l[i]] := by rw [List.take_add_one, List.getElem?_eq_getElem hi]; rfl
  have hd : l.drop i = l[i] :: l.drop (i + 1) := List.drop_eq_getElem_cons hi
  unfold mkK mkTo
  rw [ht, carry_append]
  simp only [carry_cons, carry_nil]
  refine ⟨trivial, ?_⟩
  have hl : (carry (mkE e) (l.take i) k).1.length = i := by rw [length_carry, List.length_take]; omega
  rw [List.set_append_right _ _ (by omega), hl, Nat.sub_self, hd, List.set_cons_zero, List.append_assoc]; rfl
theorem mkTo_get (e : Sh) (l : List e.T) (k : Int) (i : Nat) (hi : i < l.length) : (mkTo e l k i)[i]? = some l[i] := by
  have hl : (carry (mkE e) (l.take i) k).1.length = i := by rw [length_carry, List.length_take]; omega
  unfold mkTo
  rw [List.getElem?_append_right (by omega), hl, Nat.sub_self, List.getElem?_drop, Nat.add_zero, List.getElem?_eq_getElem hi]
theorem sum_take_le (f : Nat → Nat) : ∀ (l : List Nat) (i : Nat) (hi : i < l.length), (l.take i).sum + l[i] ≤ l.sum
  | [], _, hi => by simp at hi
  | x :: l, 0, _ => by simp
  | x :: l, i + 1, hi => by
    have := sum_take_le f l i (by simpa using hi)
    simp only [List.take_succ_cons, List.sum_cons, List.getElem_cons_succ]; omega
theorem mkK_bd (e : Sh) (h : (Sh.sl e).ok = true) (l : List e.T) (k : Int) (i : Nat) (hi : i < l.length) : k ≤ mkK e l k i ∧ mkK e l k i + 64 + 64 * (tot e l[i] : Int) ≤ k + 64 * (tot (.sl e) l : Int) := by
  simp only [Sh.ok, Bool.and_eq_true, decide_eq_true_eq] at h
  obtain ⟨h1, h2⟩ := carry_bd h.2 (mkE_bd e h.1) (l.take i) k
  refine ⟨h1, ?_⟩
  have h3 := sum_take_le id (l.map (tot e)) i (by simpa using hi)
  rw [← List.map_take, List.getElem_map] at h3
  have h4 : (l.take i).length = i := by rw [List.length_take]; omega
  rw [h4] at h2
  unfold mkK
  rw [tot_sl]
  have : 64 * ((i + ((l.take i).map (tot e)).sum : Nat) : Int) + 64 + 64 * (tot e l[i] : Int) ≤ 64 * ((l.length + (l.map (tot e)).sum : Nat) : Int) := by omega
  omega
theorem tot_get {e : Sh} (l : List e.T) (i : Nat) (hi : i < l.length) : tot e l[i] + l.length ≤ tot (.sl e) l := by
  have h3 := sum_take_le id (l.map (tot e)) i (by simpa using hi)
  rw [List.getElem_map] at h3
  rw [tot_sl]; omega
theorem tot_len {e : Sh} (l : List e.T) : l.length ≤ tot (.sl e) l := by rw [tot_sl]; omega

/-- Elements of one's own: their cells, their blocks. -/
def OwnEs (w : World) (e : Sh) (css : List (List Value)) (bss : List (List Nat)) (l : List e.T) : Prop :=
  css.length = l.length ∧ bss.length = l.length ∧ ∀ (i : Nat) (cs : List Value) (bs : List Nat) (d : e.T), css[i]? = some cs → bss[i]? = some bs → l[i]? = some d → Own w e cs d bs
theorem All2.toGet {A B : Type} {R : A → B → Prop} {us : List A} {bs : List B} (h : All2 R us bs) : ∀ (i : Nat) (a : A) (b : B), us[i]? = some a → bs[i]? = some b → R a b := by
  induction h with
  | nil => intro i a b h; simp at h
  | cons h _ ih =>
    intro i a b h1 h2
    cases i with
    | zero => simp at h1 h2; subst h1; subst h2; exact h
    | succ i => exact ih i a b (by simpa using h1) (by simpa using h2)
theorem own_sl {w : World} {e : Sh} {cs : List Value} {l : List e.T} {bs : List Nat} : Own w (.sl e) cs l bs ↔ ∃ p c css bss, cs = [.slice p l.length c] ∧ OwnRow w p l.length c (List.flatten css) ∧ l.length ≤ c ∧ c ≤ maxLen ∧ OwnEs w e css bss l ∧ bs = blocksOf p ++ bss.flatten := by
  constructor
  · rintro ⟨p, c, css, bss, h1, h2, h3, h4, h5, h6, h7, h8⟩
    refine ⟨p, c, css, bss, h1, h2, h3, h4, ⟨h6, h7, fun i a b d ha hb hd => ?_⟩, h8⟩
    exact h5.toGet i (a, b) d (by rw [List.getElem?_zip_eq_some]; exact ⟨ha, hb⟩) hd
  · rintro ⟨p, c, css, bss, h1, h2, h3, h4, ⟨h6, h7, h5⟩, h8⟩
    refine ⟨p, c, css, bss, h1, h2, h3, h4, All2.of_get (by rw [List.length_zip]; omega) (fun i a b ha hb => ?_), h6, h7, h8⟩
    obtain ⟨h9, h10⟩ := List.getElem?_zip_eq_some.1 ha
    exact h5 i _ _ _ h9 h10 hb
theorem OwnEs.chg {S : Nat → Prop} {w w' : World} {e : Sh} {css : List (List Value)} {bss : List (List Nat)} {l : List e.T} (h : OwnEs w e css bss l) (k : Chg S w w') (hS : ∀ b ∈ bss.flatten, ¬ S b) : OwnEs w' e css bss l :=
  ⟨h.1, h.2.1, fun i cs bs d h1 h2 h3 => (h.2.2 i cs bs d h1 h2 h3).chg k fun b hb => hS b (List.mem_flatten.2 ⟨bs, List.mem_of_getElem? h2, hb⟩)⟩
theorem OwnEs.all {w : World} {e : Sh} {css : List (List Value)} {bss : List (List Nat)} {l : List e.T} (h : OwnEs w e css bss l) : ∀ c ∈ css, c.length = e.sz := by
  intro cs hm
  obtain ⟨i, hi, rfl⟩ := List.mem_iff_getElem.1 hm
  have h1 := h.1; have h2 := h.2.1
  exact (h.2.2 i css[i] bss[i] l[i] (by simp) (by simp) (by simp)).rep.size
/-- One element turns into another one. -/
theorem OwnEs.upd {S : Nat → Prop} {w w' : World} {e : Sh} {css : List (List Value)} {bss : List (List Nat)} {l : List e.T} (h : OwnEs w e css bss l) (k : Chg S w w') {i : Nat} {cs : List Value} {bs : List Nat} {d : e.T}
    (hb : bss[i]? = some bs) (hS : ∀ j bj, j ≠ i → bss[j]? = some bj → ∀ b ∈ bj, ¬ S b) (ho : Own w' e cs d bs) : OwnEs w' e (css.set i cs) bss (l.set i d) := by
  refine ⟨by simp [h.1], by simp [h.2.1], fun j cs' bs' d' h1 h2 h3 => ?_⟩
  by_cases hj : i = j
  · subst hj
    rw [hb] at h2; cases h2
    have : i < l.length := by rw [← h.2.1]; exact (List.getElem?_eq_some_iff.1 hb).1
    rw [List.getElem?_set_self (by rw [h.1]; exact this)] at h1; cases h1
    rw [List.getElem?_set_self this] at h3; cases h3
    exact ho
  · rw [List.getElem?_set_ne hj] at h1 h3
    exact (h.2.2 j cs' bs' d' h1 h2 h3).chg k (hS j bs' (fun h => hj h.symm) h2)
/-- The blocks of two elements are apart. -/
theorem flat_apart : ∀ {bss : List (List Nat)}, bss.flatten.Nodup → ∀ {i j : Nat} {bi bj : List Nat}, bss[i]? = some bi → bss[j]? = some bj → j ≠ i → ∀ b ∈ bj, b ∉ bi
  | [], _, i, j, bi, bj, h, _, _, _, _ => by simp at h
  | x :: bss, hn, i, j, bi, bj, hi, hj, hne, b, hb => by
    rw [List.flatten_cons, List.nodup_append] at hn
    obtain ⟨_, h2, h3⟩ := hn
    match i, j with
    | 0, 0 => exact (hne rfl).elim
    | 0, j + 1 =>
      simp at hi hj; subst hi
      exact fun h => h3 b h b (List.mem_flatten.2 ⟨bj, List.mem_of_getElem? hj, hb⟩) rfl
    | i + 1, 0 =>
      simp at hi hj; subst hj
      exact fun h => h3 b hb b (List.mem_flatten.2 ⟨bi, List.mem_of_getElem? hi, h⟩) rfl
    | i + 1, j + 1 => exact flat_apart h2 (by simpa using hi) (by simpa using hj) (by omega) b hb
theorem flat_nodup : ∀ {bss : List (List Nat)}, bss.flatten.Nodup → ∀ {i : Nat} {bi : List Nat}, bss[i]? = some bi → bi.Nodup
  | [], _, i, bi, h => by simp at h
  | x :: bss, hn, i, bi, h => by
    rw [List.flatten_cons, List.nodup_append] at hn
    match i with
    | 0 => simp at h; subst h; exact hn.1
    | i + 1 => exact flat_nodup hn.2.1 (by simpa using h)
theorem nodup_split {a b : List Nat} (h : (a ++ b).Nodup) : a.Nodup ∧ b.Nodup ∧ (∀ x ∈ a, x ∉ b) ∧ (∀ x ∈ b, x ∉ a) := by
  rw [List.nodup_append] at h
  exact ⟨h.1, h.2.1, fun x hx hy => h.2.2 x hx x hy rfl, fun x hx hy => h.2.2 x hy x hx rfl⟩
theorem nodup_app {a b : List Nat} {B : Nat} (h1 : a.Nodup) (h2 : b.Nodup) (l1 : ∀ x ∈ a, x < B) (l2 : ∀ x ∈ b, B ≤ x) : (a ++ b).Nodup := by
  rw [List.nodup_append]
  exact ⟨h1, h2, fun x hx y hy h => by have := l1 x hx; have := l2 y hy; omega⟩

theorem mkV_get (e : Sh) (l : List e.T) (k : Int) (i : Nat) (hi : i < l.length) : (mkV (.sl e) l k).1[i]? = some (mkE e l[i] (mkK e l k i)).1 := by
  rw [mkV_sl]
  conv => lhs; rw [← List.take_append_drop i l]
  have hl : (carry (mkE e) (l.take i) k).1.length = i := by rw [length_carry, List.length_take]; omega
  rw [carry_append]
  simp only
  rw [List.getElem?_append_right (by omega), hl, Nat.sub_self, List.drop_eq_getElem_cons hi, carry_cons]
  rfl
theorem OwnEs.snoc {w : World} {e : Sh} {css : List (List Value)} {bss : List (List Nat)} {l : List e.T} (h : OwnEs w e css bss l) {cs : List Value} {bs : List Nat} {d : e.T} (ho : Own w e cs d bs) : OwnEs w e (css ++ [cs]) (bss ++ [bs]) (l ++ [d]) := by
  obtain ⟨h1, h2, h3⟩ := h
  refine ⟨by simp [h1], by simp [h2], fun i cs' bs' d' g1 g2 g3 => ?_⟩
  by_cases hi : i < l.length
  · rw [List.getElem?_append_left (by omega)] at g1 g2 g3
    exact h3 i _ _ _ g1 g2 g3
  · rw [List.getElem?_append_right (by omega)] at g1 g2 g3
    rw [h1] at g1; rw [h2] at g2
    generalize i - l.length = j at *
    cases j with
    | zero => simp at g1 g2 g3; subst g1; subst g2; subst g3; exact ho
    | succ j => simp at g1
theorem take_set_succ {A : Type} {us : List A} {i : Nat} {x : A} (h : i < us.length) : (us.set i x).take (i + 1) = us.take i ++ [x] := by
  rw [List.take_add_one, List.take_set_of_le (Nat.le_refl _), List.getElem?_set_self h]; rfl
/-- A made slice's cells, element by element. -/
theorem made_rows {z : Value} {s : Nat} (n : Nat) (hz : z.cells.size = s) : ∃ us : List (List Value), us.flatten = (madeCells z.cells (n * s)).toList ∧ us.length = n ∧ ∀ c ∈ us, c.length = s := by
  subst hz
  generalize hV : (madeCells z.cells (n * z.cells.size)).toList = V
  have hV' : V.length = n * z.cells.size := by rw [← hV]; simp [madeCells]
  clear hV
  generalize z.cells.size = s at *
  induction n generalizing V with
  | zero => exact ⟨[], by simpa using (List.eq_nil_of_length_eq_zero (by simpa using hV')).symm, rfl, by simp⟩
  | succ n ih =>
    rw [Nat.add_mul, Nat.one_mul] at hV'
    obtain ⟨us, h1, h2, h3⟩ := ih (V.drop s) (by simp; omega)
    refine ⟨V.take s :: us, by rw [List.flatten_cons, h1, List.take_append_drop], by simp [h2], ?_⟩
    intro c hc
    rcases List.mem_cons.1 hc with rfl | hc
    · simp; omega
    · exact h3 c hc
end Go.Proofs.Ytnlhahlegedlaaa
