/- Arguments, read: out of what the claim says of them comes their data by shapes. -/
import Derived.Test.YtnlhahlegedlaaaSh
import Derived.ProofKit
import Derived.Deep.Slices
import Derived.WideShapes
import Derived.Laws.Cover2
namespace Go.Proofs.Ytnlhahlegedlaaa
set_option linter.unusedSimpArgs false
set_option linter.unusedVariables false
open Go.RowKit Go.WideShapes Go.Deep Go.ChangeShapes

/-- Integers in their range, texts not too long. -/
def Fit : (s : Sh) → s.T → Prop
  | .int, n => -9223372036854775808 ≤ n ∧ n ≤ 9223372036854775807
  | .flt, x => x < 4294967296
  | .str, s => s.size ≤ maxLen
  | .sl e, l => ∀ x ∈ l, Fit e x
  | .pr a b, x => Fit a x.1 ∧ Fit b x.2
  | _, _ => True
/-- Fields one after another. -/
def fieldsB (cellsOf : TypeId → Nat) (rec : TypeId → Sh → Bool) : List Field → Nat → Sh → Bool
  | [], _, .un => true
  | f :: fs, o, .pr a b => f.offset == o && cellsOf f.type == a.sz && rec f.type a && fieldsB cellsOf rec fs (o + a.sz) b
  | _, _, _ => false
def isSt : Sh → Bool
  | .pr _ _ => true
  | .un => true
  | _ => false
/-- A type has a shape. -/
def tyB (P : Program) : (n : Nat) → TypeId → Sh → Bool
  | 0, _, _ => false
  | n + 1, t, s =>
    match P.underlying t, s with
    | some (.int .i64), .int => true
    | some (.float .f32), .flt => true
    | some .bool, .bool => true
    | some .string, .str => true
    | some (.slice e), .sl se => P.cellsOf e == se.sz && tyB P n e se
    | some (.struct fs), s => isSt s && P.cellsOf t == s.sz && fieldsB P.cellsOf (tyB P n) fs.toList 0 s
    | _, _ => false

theorem choose_list {A : Type} {R : Nat → A → Prop} : ∀ (n : Nat), (∀ i, i < n → ∃ a, R i a) → ∃ l : List A, l.length = n ∧ ∀ i a, l[i]? = some a → R i a
  | 0, _ => ⟨[], rfl, fun i a h => by simp at h⟩
  | n + 1, h => by
    obtain ⟨l, h1, h2⟩ := choose_list n (fun i hi => h i (by omega))
    obtain ⟨a, ha⟩ := h n (by omega)
    refine ⟨l ++ [a], by simp [h1], fun i b hb => ?_⟩
    by_cases hi : i < n
    · rw [List.getElem?_append_left (by omega)] at hb; exact h2 i b hb
    · rw [List.getElem?_append_right (by omega), h1] at hb
      have : i = n := by
        have := (List.getElem?_eq_some_iff.1 hb).1
        simp at this; omega
      subst this
      simp at hb; subst hb; exact ha
theorem flat_len' : ∀ {css : List (List Value)} {s : Nat}, (∀ c ∈ css, c.length = s) → css.flatten.length = css.length * s
  | [], s, _ => by simp
  | c :: css, s, h => by
    rw [List.flatten_cons, List.length_append, flat_len' (fun c hc => h c (by simp [hc])), h c (by simp), List.length_cons, Nat.add_mul, Nat.one_mul, Nat.add_comm]
theorem flat_get' : ∀ {css : List (List Value)} {s i j : Nat} (h : ∀ c ∈ css, c.length = s) (hi : i < css.length) (hj : j < s), css.flatten[i * s + j]? = css[i][j]?
  | [], _, _, _, _, hi, _ => by simp at hi
  | c :: css, s, 0, j, h, _, hj => by
    rw [List.flatten_cons, Nat.zero_mul, Nat.zero_add, List.getElem?_append_left (by rw [h c (by simp)]; exact hj)]; rfl
  | c :: css, s, i + 1, j, h, hi, hj => by
    have hc := h c (by simp)
    rw [List.flatten_cons, Nat.add_mul, Nat.one_mul, List.getElem?_append_right (by omega), hc, show i * s + s + j - s = i * s + j by omega, flat_get' (fun c hc => h c (by simp [hc])) (by simpa using hi) hj]
    rfl

section
variable {H : Type} {enc : TypeId × Value → H} {P : Program} {w : World} {base : Nat} {spare : Nat → Bool} {held : Bool}
theorem open_float {t : TypeId} {k : FloatKind} {fuel : Nat} {cs : List Value} {x : DataW H × List MemPlace} (ht : P.underlying t = some (.float k)) (h : DataW.trod enc P w base spare held fuel t cs = some x) : ∃ b, cs = [.float k b] ∧ (Lit.float k b).wf = true := by
  cases fuel with
  | zero => simp [DataW.trod] at h
  | succ n =>
    unfold DataW.trod at h
    rw [ht] at h
    split at h <;> first | (simp at h; done) | skip
    all_goals (rename_i heq; try (cases heq))
    split at h
    · rename_i hk; obtain ⟨rfl, hw⟩ := hk; exact ⟨_, rfl, hw⟩
    · simp at h
theorem open_fields (n : Nat) (ih : ∀ t s fuel cs (x : DataW H × List MemPlace), tyB P n t s = true → DataW.trod enc P w base spare held fuel t cs = some x → ∃ d, Rep w s cs d ∧ Fit s d) :
    ∀ (fs : List Field) (o : Nat) (s : Sh) (fuel : Nat) (cs : List Value), fieldsB P.cellsOf (tyB P n) fs o s = true → (cs.drop o).length = s.sz →
      (∀ f ∈ fs, ∃ x : DataW H × List MemPlace, DataW.trod enc P w base spare held fuel f.type ((cs.drop f.offset).take (P.cellsOf f.type)) = some x) → ∃ d, Rep w s (cs.drop o) d ∧ Fit s d
  | [], o, s, fuel, cs, h, hl, _ => by
    cases s <;> first | (simp [fieldsB] at h; done) | exact ⟨(), List.eq_nil_of_length_eq_zero hl, trivial⟩
  | f :: fs, o, s, fuel, cs, h, hl, hx => by
    cases s <;> first | (simp [fieldsB] at h; done) | skip
    rename_i a b
    simp only [fieldsB, Bool.and_eq_true, beq_iff_eq] at h
    obtain ⟨⟨⟨h1, h2⟩, h3⟩, h4⟩ := h
    obtain ⟨x, hx1⟩ := hx f (by simp)
    rw [h1, h2] at hx1
    obtain ⟨da, ra, fa⟩ := ih _ _ _ _ _ h3 hx1
    have hl2 : (cs.drop (o + a.sz)).length = b.sz := by
      simp only [Sh.sz] at hl
      rw [List.length_drop] at hl ⊢
      omega
    obtain ⟨db, rb, fb⟩ := open_fields n ih fs (o + a.sz) b fuel cs h4 hl2 (fun f hf => hx f (by simp [hf]))
    refine ⟨(da, db), ⟨_, _, ?_, ra, rb⟩, fa, fb⟩
    rw [← List.drop_drop, List.take_append_drop]
theorem open_rep : ∀ (n : Nat) (t : TypeId) (s : Sh) (fuel : Nat) (cs : List Value) (x : DataW H × List MemPlace), tyB P n t s = true → DataW.trod enc P w base spare held fuel t cs = some x → ∃ d, Rep w s cs d ∧ Fit s d
  | 0, _, _, _, _, _, h, _ => by simp [tyB] at h
  | n + 1, t, s, fuel, cs, x, h, hx => by
    unfold tyB at h
    split at h
    · rename_i ht
      obtain ⟨k, rfl, _, hw⟩ := DataW.trod_int ht hx
      refine ⟨k, rfl, ?_⟩
      simp only [Lit.wf, Bool.and_eq_true, decide_eq_true_eq] at hw
      exact hw
    · rename_i ht
      obtain ⟨b, rfl, hw⟩ := open_float ht hx
      refine ⟨cn .f32 b, ⟨b, rfl, rfl⟩, ?_⟩
      have hb : b < 4294967296 := by simpa [Lit.wf] using hw
      show cn .f32 b < 4294967296
      unfold cn; split
      · decide
      · exact hb
    · rename_i ht
      obtain ⟨b, rfl, _⟩ := DataW.trod_bool ht hx
      exact ⟨b, rfl, trivial⟩
    · rename_i ht
      obtain ⟨b, rfl, _, hw⟩ := DataW.trod_string ht hx
      exact ⟨b, rfl, hw⟩
    · rename_i e se ht
      simp only [Bool.and_eq_true, beq_iff_eq] at h
      obtain ⟨hsz, hrec⟩ := h
      rcases open_slice ht hx with ⟨rfl, _⟩ | ⟨a, len, cap, m, n', D, Pl, rfl, _, hl, hm, hmm, _, hel⟩
      · exact ⟨[], ⟨none, 0, [], rfl, Cs.nil w none, Nat.le_refl _, Nat.zero_le _, .nil⟩, fun x hx => by simp at hx⟩
      · have hlm : len ≤ m := by rw [hmm]; split <;> omega
        obtain ⟨l, hl1, hl2⟩ := choose_list (A := List Value × se.T) (R := fun i a' => w.cells? base (a.add (i * P.cellsOf e)) (P.cellsOf e) = some a'.1 ∧ Rep w se a'.1 a'.2 ∧ Fit se a'.2) len (fun i hi => by
          obtain ⟨cs', h1, h2⟩ := hel i (by omega)
          obtain ⟨d, h3, h4⟩ := open_rep n e se n' cs' _ hrec h2
          exact ⟨(cs', d), h1, h3, h4⟩)
        have hall : ∀ c ∈ l.map Prod.fst, c.length = se.sz := by
          intro c hc
          obtain ⟨p, hp, rfl⟩ := List.mem_map.1 hc
          obtain ⟨i, hi, rfl⟩ := List.mem_iff_getElem.1 hp
          exact (hl2 i _ (by simp)).2.1.size
        refine ⟨l.map Prod.snd, ⟨some a, cap, l.map Prod.fst, by rw [List.length_map, hl1], ⟨?_, fun _ => rfl⟩, by rw [List.length_map, hl1]; exact hl, hm, All2.of_get (by simp) ?_⟩, ?_⟩
        · intro k u hu
          have hk : k < (l.map Prod.fst).length * se.sz := by rw [← flat_len' hall]; exact (List.getElem?_eq_some_iff.1 hu).1
          have hs0 : 0 < se.sz := by rcases Nat.eq_zero_or_pos se.sz with h0 | h0; (rw [h0] at hk; omega); exact h0
          have hi : k / se.sz < (l.map Prod.fst).length := (Nat.div_lt_iff_lt_mul hs0).2 hk
          have hj := Nat.mod_lt k hs0
          have hk2 : k = k / se.sz * se.sz + k % se.sz := by rw [Nat.mul_comm]; exact (Nat.div_add_mod k se.sz).symm
          rw [hk2, flat_get' hall hi hj, List.getElem_map] at hu
          have hi' : k / se.sz < l.length := by simpa using hi
          obtain ⟨h5, _⟩ := hl2 (k / se.sz) l[k / se.sz] (by simp)
          obtain ⟨_, _, h6⟩ := World.cells?_some h5
          rw [hsz] at h6
          have h7 := h6 (k % se.sz) hj
          rw [hu, Go.Proofs.Ytnlhahlegedlaaa.add_add, ← hk2] at h7
          exact h7
        · intro i c d h1 h2
          rw [List.getElem?_map] at h1 h2
          cases hli : l[i]? with
          | none => rw [hli] at h1; simp at h1
          | some p =>
            rw [hli] at h1 h2
            simp at h1 h2; subst h1; subst h2
            exact (hl2 i p hli).2.1
        · intro d hd
          obtain ⟨p, hp, rfl⟩ := List.mem_map.1 hd
          obtain ⟨i, hi, rfl⟩ := List.mem_iff_getElem.1 hp
          exact (hl2 i _ (by simp)).2.2
    · rename_i s x0 s1 fs ht
      simp only [Bool.and_eq_true, beq_iff_eq] at h
      obtain ⟨⟨_, hsz⟩, hf⟩ := h
      obtain ⟨xs, n', _, _, hlen, hxl, hel⟩ := DataW.trod_struct ht hx
      have := open_fields n (fun t s fuel cs x => open_rep n t s fuel cs x) fs.toList 0 s n' cs hf (by rw [List.drop_zero, hlen, hsz]) (fun f hf => by
        obtain ⟨i, hi, rfl⟩ := List.mem_iff_getElem.1 hf
        have h1 := hel i fs.toList[i] (by simp at hi ⊢)
        have hi' : i < xs.length := by rw [hxl]; simpa using hi
        rw [List.getElem?_eq_getElem hi'] at h1
        exact ⟨_, h1⟩)
      rwa [List.drop_zero] at this
    · simp at h
/-- The value itself is given by its cells. -/
theorem open_arg {r : Reach} {b0 : Nat} {t : TypeId} {v : Value} {d : DataW H} {ps : List MemPlace} (s : Sh) (n : Nat) (h : tyB P n t s = true) (hval : Value.okWide P w r b0 t v) (hd : DataW.Trod enc P w base spare held t v d ps) :
    ∃ cs D, v = (if isSt s then .agg cs.toArray else cs.headD undef) ∧ Rep w s cs D ∧ Fit s D := by
  obtain ⟨fuel, hf⟩ := hd
  obtain ⟨D, hr, hfit⟩ := open_rep n t s fuel _ _ h hf
  refine ⟨_, D, ?_, hr, hfit⟩
  cases n with
  | zero => simp [tyB] at h
  | succ n =>
    unfold tyB at h
    split at h
    · rename_i ht; obtain ⟨_, rfl⟩ := okWide_int ht hval; rfl
    · rename_i ht; obtain ⟨_, rfl⟩ := okWide_float ht hval; rfl
    · rename_i ht; obtain ⟨_, rfl⟩ := okWide_bool ht hval; rfl
    · rename_i ht; obtain ⟨_, rfl⟩ := okWide_string ht hval; rfl
    · rename_i ht; obtain ⟨_, _, _, rfl⟩ := okWide_slice ht hval; rfl
    · rename_i ht
      simp only [Bool.and_eq_true] at h
      rw [if_pos h.1.1]
      obtain ⟨cs, rfl, _⟩ := okWide_struct ht hval
      simp [Value.cells]
    · simp at h
end
end Go.Proofs.Ytnlhahlegedlaaa
