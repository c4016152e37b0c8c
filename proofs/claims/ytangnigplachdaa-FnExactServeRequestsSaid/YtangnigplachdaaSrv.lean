/- Requests, served in batches: what the answers are. -/
import Derived.Test.YtangnigplachdaaReq
import Derived.Test.YtangnigplachdaaKf
namespace Go.Proofs.Ytangnigplachdaa
set_option linter.unusedSimpArgs false
set_option linter.unusedVariables false
open Go.RowKit

/-- When a batch begins, whose first request is the i-th one. -/
def beg (A : Nat → Int) (n z : Nat) (wt free : Int) (i : Nat) : Int := max free (if i + z ≤ n then min (A i + wt) (A (i + z - 1)) else A i + wt)
/-- Of each request: the first one of its batch, the batch, its beginning. -/
def sv (A : Nat → Int) (n z : Nat) (wt wk : Int) : Nat → Nat × Nat × Int
  | 0 => (0, 0, beg A n z wt 0 0)
  | j + 1 => if j + 1 - (sv A n z wt wk j).1 < z ∧ A (j + 1) ≤ (sv A n z wt wk j).2.2 then sv A n z wt wk j else (j + 1, (sv A n z wt wk j).2.1 + 1, beg A n z wt ((sv A n z wt wk j).2.2 + wk) (j + 1))
structure SvOk (A : Nat → Int) (n z : Nat) (wt wk : Int) : Prop where
  lo : ∀ i, i < n → 0 ≤ A i ∧ A i ≤ 100000
  mono : ∀ i k, i + k < n → A i ≤ A (i + k)
  z1 : 1 ≤ z
  z16 : z ≤ 16
  wt0 : 0 ≤ wt ∧ wt ≤ 100000
  wk1 : 1 ≤ wk ∧ wk ≤ 100000
  n20 : n ≤ 20
theorem beg_bd {A : Nat → Int} {n z : Nat} {wt wk : Int} (h : SvOk A n z wt wk) {i : Nat} (hi : i < n) {free F : Int} (h0 : 0 ≤ free) (hF : free ≤ F) (h2 : 200000 ≤ F) : 0 ≤ beg A n z wt free i ∧ beg A n z wt free i ≤ F ∧ A i ≤ beg A n z wt free i := by
  have a1 := h.lo i hi
  have a2 := h.wt0
  have a3 := h.z1
  unfold beg
  split
  · rename_i hz
    have a4 := h.mono i (z - 1) (by omega)
    have a5 := h.lo (i + (z - 1)) (by omega)
    rw [show i + z - 1 = i + (z - 1) by omega]
    omega
  · omega
theorem sv_bd {A : Nat → Int} {n z : Nat} {wt wk : Int} (h : SvOk A n z wt wk) : ∀ j, j < n → 0 ≤ (sv A n z wt wk j).2.2 ∧ (sv A n z wt wk j).2.2 ≤ 200000 + 100000 * j ∧ (sv A n z wt wk j).1 ≤ j ∧ (sv A n z wt wk j).2.1 ≤ j
  | 0, hj => by
    obtain ⟨h1, h2, h3⟩ := beg_bd h hj (free := 0) (F := 200000) (by omega) (by omega) (by omega)
    exact ⟨h1, by simpa [sv] using h2, Nat.le_refl _, Nat.le_refl _⟩
  | j + 1, hj => by
    obtain ⟨h1, h2, h3, h4⟩ := sv_bd h j (by omega)
    have a2 := h.wk1
    unfold sv
    split
    · exact ⟨h1, by push_cast; omega, by omega, by omega⟩
    · obtain ⟨g1, g2, g3⟩ := beg_bd h hj (free := (sv A n z wt wk j).2.2 + wk) (F := 200000 + 100000 * ((j + 1 : Nat) : Int)) (by omega) (by push_cast; omega) (by omega)
      exact ⟨g1, g2, Nat.le_refl _, by show (sv A n z wt wk j).2.1 + 1 ≤ j + 1; omega⟩
theorem sv_stay {A : Nat → Int} {n z : Nat} {wt wk : Int} {j i b : Nat} {s : Int} (h : sv A n z wt wk j = (i, b, s)) (h1 : j + 1 - i < z) (h2 : A (j + 1) ≤ s) : sv A n z wt wk (j + 1) = (i, b, s) := by
  have e : sv A n z wt wk (j + 1) = if j + 1 - (sv A n z wt wk j).1 < z ∧ A (j + 1) ≤ (sv A n z wt wk j).2.2 then sv A n z wt wk j else (j + 1, (sv A n z wt wk j).2.1 + 1, beg A n z wt ((sv A n z wt wk j).2.2 + wk) (j + 1)) := rfl
  rw [e, h, if_pos ⟨h1, h2⟩]
theorem sv_next {A : Nat → Int} {n z : Nat} {wt wk : Int} {j i b : Nat} {s : Int} (h : sv A n z wt wk j = (i, b, s)) (h1 : ¬ (j + 1 - i < z ∧ A (j + 1) ≤ s)) : sv A n z wt wk (j + 1) = (j + 1, b + 1, beg A n z wt (s + wk) (j + 1)) := by
  have e : sv A n z wt wk (j + 1) = if j + 1 - (sv A n z wt wk j).1 < z ∧ A (j + 1) ≤ (sv A n z wt wk j).2.2 then sv A n z wt wk j else (j + 1, (sv A n z wt wk j).2.1 + 1, beg A n z wt ((sv A n z wt wk j).2.2 + wk) (j + 1)) := rfl
  rw [e, h, if_neg h1]
/-- The answers to the first requests. -/
def ansL (f : Nat → List Nat) (s : Nat → Nat × Nat × Int) (wk : Int) (k : Nat) : List shAnswer.T := (List.range k).map fun j => ((s j).2.2 + wk, ((s j).2.1 : Int), f j, ())
theorem ansL_len (f : Nat → List Nat) (s : Nat → Nat × Nat × Int) (wk : Int) (k : Nat) : (ansL f s wk k).length = k := by simp [ansL]
theorem ansL_succ (f : Nat → List Nat) (s : Nat → Nat × Nat × Int) (wk : Int) (k : Nat) : ansL f s wk (k + 1) = ansL f s wk k ++ [((s k).2.2 + wk, ((s k).2.1 : Int), f k, ())] := by simp [ansL, List.range_succ]
theorem tot_ans (f : Nat → List Nat) (s : Nat → Nat × Nat × Int) (wk : Int) : ∀ k, (∀ j, j < k → (f j).length ≤ 8) → tot shAnswerS (ansL f s wk k) ≤ 9 * k
  | 0, _ => by simp [ansL, tot]
  | k + 1, h => by
    have h1 := tot_ans f s wk k (fun j hj => h j (by omega))
    have h2 := h k (by omega)
    have h3 : tot shAnswer ((s k).2.2 + wk, ((s k).2.1 : Int), f k, ()) = (f k).length := by
      show 0 + (0 + (tot (.sl .flt) (f k) + 0)) = _
      rw [tot_flts]; omega
    have h4 : tot shAnswerS (ansL f s wk (k + 1)) = (ansL f s wk k).length + 1 + (((ansL f s wk k).map (tot shAnswer)).sum + tot shAnswer ((s k).2.2 + wk, ((s k).2.1 : Int), f k, ())) := by
      rw [ansL_succ]; simp only [tot, List.length_append, List.map_append, List.sum_append]; simp
    have h5 : tot shAnswerS (ansL f s wk k) = (ansL f s wk k).length + ((ansL f s wk k).map (tot shAnswer)).sum := by simp only [tot]
    rw [h4, h3]
    omega
/-- The last stage, one's own. -/
theorem IsSt.lastOwn {B : Nat} {l : List shLayer.T} {x : List Nat} {n : Nat} {w : World} {u : Value} (h : IsSt B (stF l x n) w u) (hn : 1 ≤ n) : ∃ (p : Option Addr) (k : Nat) (q : Option Addr) (m cq : Nat) (css : List (List Value)) (bs : List Nat), u = .slice p n k ∧ Cs w p css.flatten ∧ (∀ c ∈ css, c.length = 1) ∧ css.length = n ∧ p.isSome = true ∧ css[n - 1]? = some [.slice q m cq] ∧ Own w (.sl .flt) [.slice q m cq] (curF l x n) bs ∧ bs.Nodup ∧ (∀ b ∈ bs, B ≤ b) ∧ (curF l x n).length = m := by
  obtain ⟨css, bss, hg⟩ := h
  have hrow := hg.row
  rw [stF_len] at hrow
  have hall := hg.els.all
  have k1 := hg.els.1
  have k2 := hg.els.2.1
  rw [stF_len] at k1 k2
  have hbi : bss[n - 1]? = some (bss[n - 1]'(by omega)) := by simp
  have hr := hg.els.2.2 (n - 1) (css[n - 1]'(by omega)) (bss[n - 1]'(by omega)) (curF l x n) (by simp) (by simp) (by
    unfold stF; rw [List.getElem?_map, List.getElem?_range (by omega)]; simp [show n - 1 + 1 = n by omega])
  obtain ⟨q, cq, us, hc, hrest⟩ := rep_flts.1 hr.rep
  obtain ⟨p, k, rfl⟩ : ∃ p k, u = .slice p n k := by
    rcases hrow.2 with ⟨h1, h2⟩ | ⟨g, cap, cur, h1, _⟩
    · exact ⟨none, 0, by rw [h1, h2]⟩
    · exact ⟨_, _, h1⟩
  have hp := own_Cs hrow
  refine ⟨p, k, q, _, cq, css, _, rfl, hp, hall, k1, ?_, by rw [← hc]; simp, by rw [← hc]; exact hr, flat_nodup hg.nodup hbi, fun b hb => (hg.lo b (List.mem_flatten.2 ⟨_, List.getElem_mem _, hb⟩)).1, rfl⟩
  exact hp.some_of (s := 1) (i := 0) hall (by decide) (by omega)
/-- An answer of one's own. -/
theorem own_ans {w : World} {a b : Int} {q : Option Addr} {n c : Nat} {xs bs : List Nat} (e : xs.length = n) (h : Own w (.sl .flt) [.slice q n c] xs bs) : Own w shAnswer [.int .i64 a, .int .i64 b, .slice q n c] (a, b, xs, ()) bs := by
  subst e
  exact ⟨[.int .i64 a], [.int .i64 b, .slice q xs.length c], [], bs, rfl, ⟨rfl, rfl⟩, ⟨[.int .i64 b], [.slice q xs.length c], [], bs, rfl, ⟨rfl, rfl⟩, ⟨[.slice q xs.length c], [], bs, [], rfl, h, ⟨rfl, rfl⟩, by simp⟩, rfl⟩, rfl⟩
/-- The rest of a slice. -/
theorem rest_cs {w : World} {p : Option Addr} {css : List (List Value)} {s n i c : Nat} (h : Cs w p css.flatten) (hall : ∀ x ∈ css, x.length = s) (hn : css.length = n) (hi : i ≤ n) (hc : n ≤ c) : Cs w (subp p s i c) (css.drop i).flatten := by
  have h1 := h.sub (s := s) (l := i) (hi := n) (c := c) hi hc
  have h2 : css.flatten.length = n * s := by rw [flat_len' hall, hn]
  rw [← h2, List.take_length] at h1
  have h3 : css.flatten.drop (i * s) = (css.drop i).flatten := by
    have h4 : (css.take i).flatten.length = i * s := by
      rw [flat_len' (fun x hx => hall x (List.mem_of_mem_take hx)), List.length_take, hn, Nat.min_eq_left hi]
    conv => lhs; rw [← List.take_append_drop i css, List.flatten_append]
    rw [← h4, List.drop_left]
  rw [← h3]
  exact h1
set_option maxRecDepth 100000 in
set_option maxHeartbeats 1000000 in
theorem l00MinI_any (a b : Int) (w : World) : Calls Try.prog 117 #[.int .i64 a, .int .i64 b] w fun e w' => e = .returned (.int .i64 (min a b)) ∧ w = w' := by
  by_cases h : a < b
  · go_enter Try.func117, Try.ntmps117
    go_wp2
    go_ret
    exact ⟨ret_int (by omega), rfl⟩
  · go_enter Try.func117, Try.ntmps117
    go_wp2
    go_ret
    exact ⟨ret_int (by omega), rfl⟩
end Go.Proofs.Ytangnigplachdaa
