/- A part of the proofs: Plain, HInt64SS, HFloat32SS, Grow, Open, Agg, Bits, HTensor, HExamples, HLayer, HLayerS, HModel, HTrainState, Things, Cont. -/
import Derived.Test.YtlimabbeaimdgaaKa
import Derived.Maps.AppendAt
import Derived.ProofKit
import Derived.Deep.Slices
import Derived.WideShapes
import Derived.Laws.Cover2
import Derived.Shelf.Abstract
/- Lists of integers and of texts: their cells. -/
namespace Go.Proofs.Ytlimabbeaimdgaa
set_option linter.unusedSimpArgs false
set_option linter.unusedVariables false
open Go.RowKit

theorem plain_all {w : World} {s : Sh} {enc : s.T → Value} (hr : ∀ cs d, Rep w s cs d ↔ cs = [enc d]) : ∀ (xs : List s.T), All2 (Rep w s) (xs.map fun x => [enc x]) xs
  | [] => .nil
  | x :: xs => .cons ((hr _ _).2 rfl) (plain_all hr xs)
theorem all_plain {w : World} {s : Sh} {enc : s.T → Value} (hr : ∀ cs d, Rep w s cs d ↔ cs = [enc d]) {css : List (List Value)} {xs : List s.T} (h : All2 (Rep w s) css xs) : css = xs.map fun x => [enc x] := by
  induction h with
  | nil => rfl
  | cons h _ ih => rw [(hr _ _).1 h, ih]; rfl
theorem flat_one {A : Type} (f : A → Value) : ∀ (xs : List A), (xs.map fun x => [f x]).flatten = xs.map f
  | [] => rfl
  | x :: xs => by simp [flat_one f xs]
theorem rep_plain {w : World} {s : Sh} {enc : s.T → Value} (hr : ∀ cs d, Rep w s cs d ↔ cs = [enc d]) {cs : List Value} {xs : List s.T} : Rep w (.sl s) cs xs ↔ ∃ p c, cs = [.slice p xs.length c] ∧ Cs w p (xs.map enc) ∧ xs.length ≤ c ∧ c ≤ maxLen := by
  constructor
  · rintro ⟨p, c, css, h1, h2, h3, h4, h5⟩
    rw [all_plain hr h5, flat_one] at h2
    exact ⟨p, c, h1, h2, h3, h4⟩
  · rintro ⟨p, c, h1, h2, h3, h4⟩
    exact ⟨p, c, _, h1, by rw [flat_one]; exact h2, h3, h4, plain_all hr xs⟩
theorem nils_flat {A : Type} : ∀ (l : List A), (l.map fun _ => ([] : List Nat)).flatten = []
  | [] => rfl
  | v :: vs => by simp [nils_flat vs]
theorem own_plain {w : World} {s : Sh} {enc : s.T → Value} (hr : ∀ cs d bs, Own w s cs d bs ↔ cs = [enc d] ∧ bs = []) {cs : List Value} {xs : List s.T} {bs : List Nat} : Own w (.sl s) cs xs bs ↔ ∃ p c, cs = [.slice p xs.length c] ∧ OwnRow w p xs.length c (xs.map enc) ∧ xs.length ≤ c ∧ c ≤ maxLen ∧ bs = blocksOf p := by
  rw [own_sl]
  constructor
  · rintro ⟨p, c, css, bss, h1, h2, h3, h4, ⟨h5, h6, h7⟩, h8⟩
    have hb : bss.flatten = [] := by
      rw [List.flatten_eq_nil_iff]
      intro b hb
      obtain ⟨i, hi, rfl⟩ := List.mem_iff_getElem.1 hb
      exact ((hr _ _ _).1 (h7 i css[i] bss[i] xs[i] (by simp) (by simp) (by simp))).2
    have hc : css = xs.map fun x => [enc x] := by
      apply List.ext_getElem (by simp [h5])
      intro i g1 g2
      rw [List.getElem_map]
      exact ((hr _ _ _).1 (h7 i css[i] bss[i] xs[i] (by simp) (by simp) (by simp))).1
    rw [hc, flat_one] at h2
    exact ⟨p, c, h1, h2, h3, h4, by rw [h8, hb, List.append_nil]⟩
  · rintro ⟨p, c, h1, h2, h3, h4, h5⟩
    refine ⟨p, c, xs.map fun x => [enc x], xs.map fun _ => [], h1, by rw [flat_one]; exact h2, h3, h4, ⟨by simp, by simp, fun i cs bs d g1 g2 g3 => ?_⟩, by rw [nils_flat, List.append_nil]; exact h5⟩
    rw [List.getElem?_map, g3] at g1 g2
    simp at g1 g2
    exact (hr _ _ _).2 ⟨g1.symm, g2⟩
theorem rep_ints {w : World} {cs : List Value} {xs : List Int} : Rep w (.sl .int) cs xs ↔ ∃ p c, cs = [.slice p xs.length c] ∧ Cs w p (xs.map (Value.int .i64)) ∧ xs.length ≤ c ∧ c ≤ maxLen := rep_plain (s := .int) (fun _ _ => Iff.rfl)
theorem own_ints {w : World} {cs : List Value} {xs : List Int} {bs : List Nat} : Own w (.sl .int) cs xs bs ↔ ∃ p c, cs = [.slice p xs.length c] ∧ OwnRow w p xs.length c (xs.map (Value.int .i64)) ∧ xs.length ≤ c ∧ c ≤ maxLen ∧ bs = blocksOf p := own_plain (s := .int) (fun _ _ _ => Iff.rfl)
theorem rep_strs {w : World} {cs : List Value} {xs : List ByteArray} : Rep w (.sl .str) cs xs ↔ ∃ p c, cs = [.slice p xs.length c] ∧ Cs w p (xs.map Value.string) ∧ xs.length ≤ c ∧ c ≤ maxLen := rep_plain (s := .str) (fun _ _ => Iff.rfl)
theorem own_strs {w : World} {cs : List Value} {xs : List ByteArray} {bs : List Nat} : Own w (.sl .str) cs xs bs ↔ ∃ p c, cs = [.slice p xs.length c] ∧ OwnRow w p xs.length c (xs.map Value.string) ∧ xs.length ≤ c ∧ c ≤ maxLen ∧ bs = blocksOf p := own_plain (s := .str) (fun _ _ _ => Iff.rfl)

theorem tot_ints (xs : List Int) : tot (.sl .int) xs = xs.length := by
  have : ∀ l : List Int, (l.map (tot .int)).sum = 0 := fun l => by induction l with | nil => rfl | cons x l ih => simpa [tot] using ih
  rw [tot_sl, this]; rfl
theorem carry_int (l : List Int) : ∀ k, carry (mkE .int) l k = (marks k l.length, k + l.length) := by
  induction l with
  | nil => intro k; simp [carry, marks]
  | cons x l ih =>
    intro k
    rw [carry_cons]
    show (k :: (carry (mkE .int) l (k + 1)).1, (carry (mkE .int) l (k + 1)).2) = _
    rw [ih, List.length_cons]
    refine Prod.ext ?_ (by simp; omega)
    simp only [marks, List.range_succ_eq_map, List.map_cons, List.map_map]
    congr 1
    · simp
    · apply List.map_congr_left; intro i _; simp; omega

end Go.Proofs.Ytlimabbeaimdgaa
/- The harness on lists: Int64SS. -/
namespace Go.Proofs.Ytlimabbeaimdgaa
set_option linter.unusedSimpArgs false
set_option linter.unusedVariables false
open Go.RowKit

abbrev shInt64SS : Sh := .sl (.sl .int)
-- the slice type is an instance of Ty
instance elInt64SS : ElTy Try.prog 66 (.sl .int) := ⟨by kernel_rfl, by kernel_rfl⟩





end Go.Proofs.Ytlimabbeaimdgaa
/- The harness on lists: Float32SS. -/
namespace Go.Proofs.Ytlimabbeaimdgaa
set_option linter.unusedSimpArgs false
set_option linter.unusedVariables false
open Go.RowKit

abbrev shFloat32SS : Sh := .sl (.sl .flt)
-- the slice type is an instance of Ty
instance elFloat32SS : ElTy Try.prog 43 (.sl .flt) := ⟨by kernel_rfl, by kernel_rfl⟩





end Go.Proofs.Ytlimabbeaimdgaa
/- A list of one's own that grows by append: its cells, its elements, their blocks. -/
namespace Go.Proofs.Ytlimabbeaimdgaa
set_option linter.unusedSimpArgs false
set_option linter.unusedVariables false
open Go.RowKit

section
variable {P : Program} {w : World} {ops : Array Oper} {rest : List Oper} {o o1 o2 : Oper} {a : Act} {Q : Exit → Act → World → Prop}
/-- 'append(xs, u)' onto a row of the call's own, and where the row lies behind it. -/
theorem wl_app1b {t e s b : Nat} {z : Value} [T : SlTy P t e s z b] {x1 s2 : Operand} {d1 : Tmp} {u : Value} {v : Value} {B n : Nat} {vs : List Value}
    (hg1 : o1.guard = none) (ho1 : o1.op = .buildSlice t 1 #[(0, x1)]) (hg2 : o2.guard = none) (ho2 : o2.op = .call { callee := .builtin .append, args := #[s2, .tmp d1], argTypes := #[t, t] })
    (hx : a.eval x1 = u) (hu : u.cells.size = s) (hu1 : u.cells.toList.all (fun y => y.oneCell') = true) (hd : ∀ y, (a.put o1.dst y).eval (.tmp d1) = y) (hs : ∀ y, (a.put o1.dst y).eval s2 = v)
    (how : w.ownsRow B e s v n vs) (hn : n + 1 ≤ maxLen) (hb : (n + 1) * b ≤ 140737488355328) (hB : B ≤ w.heap.size)
    (h : ∀ g c w', w'.ownsRow B e s (.slice (some ⟨g, 0, none⟩) (n + 1) c) (n + 1) (vs ++ u.cells.toList) → w.grownBy w' v.ownBlock → (v.ownBlock = some g ∨ g = w.heap.size + 1) →
      wpList P ops Q rest ((a.put o1.dst (.slice (some ⟨w.heap.size, 0, none⟩) 1 1)).put o2.dst (.slice (some ⟨g, 0, none⟩) (n + 1) c)) w') : wpList P ops Q (o1 :: o2 :: rest) a w := by
  obtain ⟨ti, hi, hzz⟩ := Option.map_eq_some_iff.1 T.inf
  simp only [Prod.mk.injEq] at hzz
  have hund := T.und
  have hpos := T.pos
  have hs24 := T.few
  have hrun : (execOp a.eval o1).run P w = .ok (.value (.slice (some ⟨w.heap.size, 0, none⟩) 1 1)) (w.alloc (.cells u.cells e)) := by
    have hfill : Instr.fill (fun i => some (i * s, s)) ((Array.range (1 * s)).map (z.cells[· % z.cells.size]!)) [(0, u)] = some u.cells := by
      simp only [Instr.fill, hu, Array.size_map, Array.size_range, Nat.zero_mul, Nat.zero_add, Nat.one_mul, Nat.lt_irrefl, ne_eq, not_true_eq_false, decide_false, Bool.or_self, gt_iff_lt, Bool.false_eq_true, if_false]
      congr 1
      exact wl_app1.fill_all (w := w) (s := s) (b := b) (u := u) (B := B) (n := n) _ _ (by simp [hu])
    simp [execOp, ho1, hx, Instr.buildSlice, run_underlying hund, sizeOf, typeInfo, hi, hzz.2.1, zeroValue, hzz.1, show ¬ 16777216 < s by omega, show ¬ s = 0 by omega, newRow]
    rw [show (Array.map (fun x => z.cells[x % z.cells.size]!) (Array.range s)) = (Array.range (1 * s)).map (z.cells[· % z.cells.size]!) by rw [Nat.one_mul], hfill]
    simp
  refine wl_value hg1 hrun ?_
  have how' := how.alloc (Obj.cells u.cells e)
  refine wpList_append_own_at _ hg2 s2 (.tmp d1) t ho2 B e ti z s b hund hi hzz.1 hzz.2.1 hzz.2.2 T.zs hpos v n vs (hs _) how' ⟨w.heap.size, 0, none⟩ 1 1 u.cells.toList (hd _) (by simp [hu]) ?_ (List.all_eq_true.1 hu1) hn hb (by simp; omega) ?_
  · intro j y hj
    rw [Addr.add_lit, Nat.zero_add]
    have hnew : (w.alloc (.cells u.cells e)).heap[w.heap.size]? = some (.cells u.cells e) := heap_alloc_new w _
    unfold World.cell?
    rw [hnew]
    simpa using hj
  · intro v' w' h1 h2 h3 h4
    rcases h1.2 with ⟨_, h5⟩ | ⟨g, cap, cur, rfl, _⟩
    · omega
    · refine h g cap w' h1 (@wl_app1.grown_alloc w s b u B n _ _ _ _ h2) ?_
      rcases h4 with h4 | h4
      · left; rw [← h4]; rfl
      · right; simp [Value.ownBlock] at h4; exact h4
end

/-- A list that grows. -/
structure GrowOwn (w : World) (B : Nat) (te : TypeId) (E : Sh) (v : Value) (l : List E.T) (css : List (List Value)) (bss : List (List Nat)) : Prop where
  row : w.ownsRow B te E.sz v l.length css.flatten
  els : OwnEs w E css bss l
  nodup : bss.flatten.Nodup
  lo : ∀ b ∈ bss.flatten, B ≤ b ∧ v.ownBlock ≠ some b
theorem OwnEs.lt {w : World} {E : Sh} {css : List (List Value)} {bss : List (List Nat)} {l : List E.T} (h : OwnEs w E css bss l) : ∀ b ∈ bss.flatten, b < w.heap.size := by
  intro b hb
  obtain ⟨bj, hm, hbj⟩ := List.mem_flatten.1 hb
  obtain ⟨j, hj, rfl⟩ := List.mem_iff_getElem.1 hm
  have k1 := h.1; have k2 := h.2.1
  exact (h.2.2 j (css[j]'(by omega)) bss[j] (l[j]'(by omega)) (by simp) (by simp) (by simp)).lt b hbj
theorem GrowOwn.ext {w w' : World} {B : Nat} {te : TypeId} {E : Sh} {v : Value} {l : List E.T} {css : List (List Value)} {bss : List (List Nat)} (h : GrowOwn w B te E v l css bss) (e : Ext w w') : GrowOwn w' B te E v l css bss :=
  ⟨own_ext h.row e, h.els.chg (.of_ext e) (S := fun _ => False) (fun _ _ h => h), h.nodup, h.lo⟩
theorem GrowOwn.empty {w : World} {B : Nat} {te : TypeId} {E : Sh} {v : Value} (h : w.ownsRow B te E.sz v 0 []) : GrowOwn w B te E v [] [] [] :=
  ⟨h, ⟨rfl, rfl, fun i cs bs d h => by simp at h⟩, by simp, by simp⟩
/-- One element more. -/
theorem GrowOwn.snoc {w0 w w' : World} {B : Nat} {te : TypeId} {E : Sh} {v : Value} {l : List E.T} {css : List (List Value)} {bss : List (List Nat)} (h : GrowOwn w0 B te E v l css bss) (hx : Ext w0 w) {cs : List Value} {d : E.T} {bs : List Nat}
    (ho : Own w E cs d bs) (hn : bs.Nodup) (hf : ∀ b ∈ bs, w0.heap.size ≤ b) (hB : B ≤ w0.heap.size) {g c n : Nat} (hln : l.length = n) (hr : w'.ownsRow B te E.sz (.slice (some ⟨g, 0, none⟩) (n + 1) c) (n + 1) (css.flatten ++ cs)) (hg : w.grownBy w' v.ownBlock) (hw : v.ownBlock = some g ∨ g = w.heap.size + 1) :
    GrowOwn w' B te E (.slice (some ⟨g, 0, none⟩) (n + 1) c) (l ++ [d]) (css ++ [cs]) (bss ++ [bs]) := by
  subst hln
  have lt0 := h.els.lt
  have hv : ∀ k, v.ownBlock = some k → k < w0.heap.size := own_lt h.row
  have hsz := hx.size
  have ch : Chg (fun k => some k = v.ownBlock) w w' := Chg.of_grown hg
  refine ⟨by simpa [List.flatten_append] using hr, ?_, ?_, ?_⟩
  · refine OwnEs.snoc ((h.els.chg (.of_ext hx) (S := fun _ => False) (fun _ _ h => h)).chg ch (fun b hb hk => (h.lo b hb).2 hk.symm)) (ho.chg ch fun b hb hk => ?_)
    have := hv b hk.symm; have := hf b hb; omega
  · rw [List.flatten_append, List.flatten_cons, List.flatten_nil, List.append_nil]
    exact nodup_app h.nodup hn lt0 hf
  · intro b hb
    rw [List.flatten_append, List.flatten_cons, List.flatten_nil, List.append_nil, List.mem_append] at hb
    have hlb : b < w.heap.size := by
      rcases hb with hb | hb
      · have := lt0 b hb; omega
      · exact ho.lt b hb
    refine ⟨?_, fun hk => ?_⟩
    · rcases hb with hb | hb
      · exact (h.lo b hb).1
      · have := hf b hb; omega
    · simp [Value.ownBlock] at hk; subst hk
      rcases hw with hw | hw
      · rcases hb with hb | hb
        · exact (h.lo _ hb).2 hw
        · have := hv _ hw; have := hf _ hb; omega
      · omega
theorem GrowOwn.own {w : World} {B : Nat} {te : TypeId} {E : Sh} {v : Value} {l : List E.T} {css : List (List Value)} {bss : List (List Nat)} (h : GrowOwn w B te E v l css bss) : ∃ bs, Own w (.sl E) [v] l bs ∧ bs.Nodup ∧ ∀ b ∈ bs, B ≤ b := by
  obtain ⟨h1, h2, h3, h4⟩ := h
  have hrow := h1
  obtain ⟨hl, hr⟩ := h1
  rcases hr with ⟨rfl, h0⟩ | ⟨g, cap, cur, rfl, hg, hh, hnc, hm, hsz, ht⟩
  · have hl0 : l = [] := List.eq_nil_of_length_eq_zero h0
    subst hl0
    have hb0 : bss = [] := List.eq_nil_of_length_eq_zero h2.2.1
    have hc0 : css = [] := List.eq_nil_of_length_eq_zero h2.1
    subst hb0; subst hc0
    exact ⟨[], own_sl.2 ⟨none, 0, [], [], rfl, .inl ⟨rfl, rfl, rfl, rfl⟩, Nat.le_refl _, Nat.zero_le _, h2, rfl⟩, by simp, by simp⟩
  · refine ⟨g :: bss.flatten, own_sl.2 ⟨some ⟨g, 0, none⟩, cap, css, bss, rfl, ownRow_of hrow, hnc, hm, h2, rfl⟩, ?_, ?_⟩
    · rw [List.nodup_cons]; exact ⟨fun hb => (h4 g hb).2 rfl, h3⟩
    · intro b hb
      rcases List.mem_cons.1 hb with rfl | hb
      · exact hg
      · exact (h4 b hb).1
end Go.Proofs.Ytlimabbeaimdgaa
/- Arguments, read: out of what the claim says of them comes their data by shapes. -/
namespace Go.Proofs.Ytlimabbeaimdgaa
set_option linter.unusedSimpArgs false
set_option linter.unusedVariables false
open Go.RowKit Go.WideShapes Go.Deep Go.ChangeShapes

/-- Integers in their range, texts not too long. -/
def Fit : (s : Sh) → s.T → Prop
  | .int, n => -9223372036854775808 ≤ n ∧ n ≤ 9223372036854775807
  | .flt, x => x < 4294967296
  | .str, s => s.size ≤ maxLen
  | .sl e, l => ∀ x ∈ l, Fit e x
  | .pr a b, x => Fit a x.1 ∧ Fit b x.2
  | _, _ => True
/-- Fields one after another. -/
def fieldsB (cellsOf : TypeId → Nat) (rec : TypeId → Sh → Bool) : List Field → Nat → Sh → Bool
  | [], _, .un => true
  | f :: fs, o, .pr a b => f.offset == o && cellsOf f.type == a.sz && rec f.type a && fieldsB cellsOf rec fs (o + a.sz) b
  | _, _, _ => false
def isSt : Sh → Bool
  | .pr _ _ => true
  | .un => true
  | _ => false
/-- A type has a shape. -/
def tyB (P : Program) : (n : Nat) → TypeId → Sh → Bool
  | 0, _, _ => false
  | n + 1, t, s =>
    match P.underlying t, s with
    | some (.int .i64), .int => true
    | some (.float .f32), .flt => true
    | some .bool, .bool => true
    | some .string, .str => true
    | some (.slice e), .sl se => P.cellsOf e == se.sz && tyB P n e se
    | some (.struct fs), s => isSt s && P.cellsOf t == s.sz && fieldsB P.cellsOf (tyB P n) fs.toList 0 s
    | _, _ => false

theorem choose_list {A : Type} {R : Nat → A → Prop} : ∀ (n : Nat), (∀ i, i < n → ∃ a, R i a) → ∃ l : List A, l.length = n ∧ ∀ i a, l[i]? = some a → R i a
  | 0, _ => ⟨[], rfl, fun i a h => by simp at h⟩
  | n + 1, h => by
    obtain ⟨l, h1, h2⟩ := choose_list n (fun i hi => h i (by omega))
    obtain ⟨a, ha⟩ := h n (by omega)
    refine ⟨l ++ [a], by simp [h1], fun i b hb => ?_⟩
    by_cases hi : i < n
    · rw [List.getElem?_append_left (by omega)] at hb; exact h2 i b hb
    · rw [List.getElem?_append_right (by omega), h1] at hb
      have : i = n := by
        have := (List.getElem?_eq_some_iff.1 hb).1
        simp at this; omega
      subst this
      simp at hb; subst hb; exact ha
theorem flat_len' : ∀ {css : List (List Value)} {s : Nat}, (∀ c ∈ css, c.length = s) → css.flatten.length = css.length * s
  | [], s, _ => by simp
  | c :: css, s, h => by
    rw [List.flatten_cons, List.length_append, flat_len' (fun c hc => h c (by simp [hc])), h c (by simp), List.length_cons, Nat.add_mul, Nat.one_mul, Nat.add_comm]
theorem flat_get' : ∀ {css : List (List Value)} {s i j : Nat} (h : ∀ c ∈ css, c.length = s) (hi : i < css.length) (hj : j < s), css.flatten[i * s + j]? = css[i][j]?
  | [], _, _, _, _, hi, _ => by simp at hi
  | c :: css, s, 0, j, h, _, hj => by
    rw [List.flatten_cons, Nat.zero_mul, Nat.zero_add, List.getElem?_append_left (by rw [h c (by simp)]; exact hj)]; rfl
  | c :: css, s, i + 1, j, h, hi, hj => by
    have hc := h c (by simp)
    rw [List.flatten_cons, Nat.add_mul, Nat.one_mul, List.getElem?_append_right (by omega), hc, show i * s + s + j - s = i * s + j by omega, flat_get' (fun c hc => h c (by simp [hc])) (by simpa using hi) hj]
    rfl

section
variable {H : Type} {enc : TypeId × Value → H} {P : Program} {w : World} {base : Nat} {spare : Nat → Bool} {held : Bool}
theorem open_float {t : TypeId} {k : FloatKind} {fuel : Nat} {cs : List Value} {x : DataW H × List MemPlace} (ht : P.underlying t = some (.float k)) (h : DataW.trod enc P w base spare held fuel t cs = some x) : ∃ b, cs = [.float k b] ∧ (Lit.float k b).wf = true := by
  cases fuel with
  | zero => simp [DataW.trod] at h
  | succ n =>
    unfold DataW.trod at h
    rw [ht] at h
    split at h <;> first | (simp at h; done) | skip
    all_goals (rename_i heq; try (cases heq))
    split at h
    · rename_i hk; obtain ⟨rfl, hw⟩ := hk; exact ⟨_, rfl, hw⟩
    · simp at h
theorem open_fields (n : Nat) (ih : ∀ t s fuel cs (x : DataW H × List MemPlace), tyB P n t s = true → DataW.trod enc P w base spare held fuel t cs = some x → ∃ d, Rep w s cs d ∧ Fit s d) :
    ∀ (fs : List Field) (o : Nat) (s : Sh) (fuel : Nat) (cs : List Value), fieldsB P.cellsOf (tyB P n) fs o s = true → (cs.drop o).length = s.sz →
      (∀ f ∈ fs, ∃ x : DataW H × List MemPlace, DataW.trod enc P w base spare held fuel f.type ((cs.drop f.offset).take (P.cellsOf f.type)) = some x) → ∃ d, Rep w s (cs.drop o) d ∧ Fit s d
  | [], o, s, fuel, cs, h, hl, _ => by
    cases s <;> first | (simp [fieldsB] at h; done) | exact ⟨(), List.eq_nil_of_length_eq_zero hl, trivial⟩
  | f :: fs, o, s, fuel, cs, h, hl, hx => by
    cases s <;> first | (simp [fieldsB] at h; done) | skip
    rename_i a b
    simp only [fieldsB, Bool.and_eq_true, beq_iff_eq] at h
    obtain ⟨⟨⟨h1, h2⟩, h3⟩, h4⟩ := h
    obtain ⟨x, hx1⟩ := hx f (by simp)
    rw [h1, h2] at hx1
    obtain ⟨da, ra, fa⟩ := ih _ _ _ _ _ h3 hx1
    have hl2 : (cs.drop (o + a.sz)).length = b.sz := by
      simp only [Sh.sz] at hl
      rw [List.length_drop] at hl ⊢
      omega
    obtain ⟨db, rb, fb⟩ := open_fields n ih fs (o + a.sz) b fuel cs h4 hl2 (fun f hf => hx f (by simp [hf]))
    refine ⟨(da, db), ⟨_, _, ?_, ra, rb⟩, fa, fb⟩
    rw [← List.drop_drop, List.take_append_drop]
theorem open_rep : ∀ (n : Nat) (t : TypeId) (s : Sh) (fuel : Nat) (cs : List Value) (x : DataW H × List MemPlace), tyB P n t s = true → DataW.trod enc P w base spare held fuel t cs = some x → ∃ d, Rep w s cs d ∧ Fit s d
  | 0, _, _, _, _, _, h, _ => by simp [tyB] at h
  | n + 1, t, s, fuel, cs, x, h, hx => by
    unfold tyB at h
    split at h
    · rename_i ht
      obtain ⟨k, rfl, _, hw⟩ := DataW.trod_int ht hx
      refine ⟨k, rfl, ?_⟩
      simp only [Lit.wf, Bool.and_eq_true, decide_eq_true_eq] at hw
      exact hw
    · rename_i ht
      obtain ⟨b, rfl, hw⟩ := open_float ht hx
      refine ⟨cn .f32 b, ⟨b, rfl, rfl⟩, ?_⟩
      have hb : b < 4294967296 := by simpa [Lit.wf] using hw
      show cn .f32 b < 4294967296
      unfold cn; split
      · decide
      · exact hb
    · rename_i ht
      obtain ⟨b, rfl, _⟩ := DataW.trod_bool ht hx
      exact ⟨b, rfl, trivial⟩
    · rename_i ht
      obtain ⟨b, rfl, _, hw⟩ := DataW.trod_string ht hx
      exact ⟨b, rfl, hw⟩
    · rename_i e se ht
      simp only [Bool.and_eq_true, beq_iff_eq] at h
      obtain ⟨hsz, hrec⟩ := h
      rcases open_slice ht hx with ⟨rfl, _⟩ | ⟨a, len, cap, m, n', D, Pl, rfl, _, hl, hm, hmm, _, hel⟩
      · exact ⟨[], ⟨none, 0, [], rfl, Cs.nil w none, Nat.le_refl _, Nat.zero_le _, .nil⟩, fun x hx => by simp at hx⟩
      · have hlm : len ≤ m := by rw [hmm]; split <;> omega
        obtain ⟨l, hl1, hl2⟩ := choose_list (A := List Value × se.T) (R := fun i a' => w.cells? base (a.add (i * P.cellsOf e)) (P.cellsOf e) = some a'.1 ∧ Rep w se a'.1 a'.2 ∧ Fit se a'.2) len (fun i hi => by
          obtain ⟨cs', h1, h2⟩ := hel i (by omega)
          obtain ⟨d, h3, h4⟩ := open_rep n e se n' cs' _ hrec h2
          exact ⟨(cs', d), h1, h3, h4⟩)
        have hall : ∀ c ∈ l.map Prod.fst, c.length = se.sz := by
          intro c hc
          obtain ⟨p, hp, rfl⟩ := List.mem_map.1 hc
          obtain ⟨i, hi, rfl⟩ := List.mem_iff_getElem.1 hp
          exact (hl2 i _ (by simp)).2.1.size
        refine ⟨l.map Prod.snd, ⟨some a, cap, l.map Prod.fst, by rw [List.length_map, hl1], ⟨?_, fun _ => rfl⟩, by rw [List.length_map, hl1]; exact hl, hm, All2.of_get (by simp) ?_⟩, ?_⟩
        · intro k u hu
          have hk : k < (l.map Prod.fst).length * se.sz := by rw [← flat_len' hall]; exact (List.getElem?_eq_some_iff.1 hu).1
          have hs0 : 0 < se.sz := by rcases Nat.eq_zero_or_pos se.sz with h0 | h0; (rw [h0] at hk; omega); exact h0
          have hi : k / se.sz < (l.map Prod.fst).length := (Nat.div_lt_iff_lt_mul hs0).2 hk
          have hj := Nat.mod_lt k hs0
          have hk2 : k = k / se.sz * se.sz + k % se.sz := by rw [Nat.mul_comm]; exact (Nat.div_add_mod k se.sz).symm
          rw [hk2, flat_get' hall hi hj, List.getElem_map] at hu
          have hi' : k / se.sz < l.length := by simpa using hi
          obtain ⟨h5, _⟩ := hl2 (k / se.sz) l[k / se.sz] (by simp)
          obtain ⟨_, _, h6⟩ := World.cells?_some h5
          rw [hsz] at h6
          have h7 := h6 (k % se.sz) hj
          rw [hu, Go.Proofs.Ytlimabbeaimdgaa.add_add, ← hk2] at h7
          exact h7
        · intro i c d h1 h2
          rw [List.getElem?_map] at h1 h2
          cases hli : l[i]? with
          | none => rw [hli] at h1; simp at h1
          | some p =>
            rw [hli] at h1 h2
            simp at h1 h2; subst h1; subst h2
            exact (hl2 i p hli).2.1
        · intro d hd
          obtain ⟨p, hp, rfl⟩ := List.mem_map.1 hd
          obtain ⟨i, hi, rfl⟩ := List.mem_iff_getElem.1 hp
          exact (hl2 i _ (by simp)).2.2
    · rename_i s x0 s1 fs ht
      simp only [Bool.and_eq_true, beq_iff_eq] at h
      obtain ⟨⟨_, hsz⟩, hf⟩ := h
      obtain ⟨xs, n', _, _, hlen, hxl, hel⟩ := DataW.trod_struct ht hx
      have := open_fields n (fun t s fuel cs x => open_rep n t s fuel cs x) fs.toList 0 s n' cs hf (by rw [List.drop_zero, hlen, hsz]) (fun f hf => by
        obtain ⟨i, hi, rfl⟩ := List.mem_iff_getElem.1 hf
        have h1 := hel i fs.toList[i] (by simp at hi ⊢)
        have hi' : i < xs.length := by rw [hxl]; simpa using hi
        rw [List.getElem?_eq_getElem hi'] at h1
        exact ⟨_, h1⟩)
      rwa [List.drop_zero] at this
    · simp at h
/-- The value itself is given by its cells. -/
theorem open_arg {r : Reach} {b0 : Nat} {t : TypeId} {v : Value} {d : DataW H} {ps : List MemPlace} (s : Sh) (n : Nat) (h : tyB P n t s = true) (hval : Value.okWide P w r b0 t v) (hd : DataW.Trod enc P w base spare held t v d ps) :
    ∃ cs D, v = (if isSt s then .agg cs.toArray else cs.headD undef) ∧ Rep w s cs D ∧ Fit s D := by
  obtain ⟨fuel, hf⟩ := hd
  obtain ⟨D, hr, hfit⟩ := open_rep n t s fuel _ _ h hf
  refine ⟨_, D, ?_, hr, hfit⟩
  cases n with
  | zero => simp [tyB] at h
  | succ n =>
    unfold tyB at h
    split at h
    · rename_i ht; obtain ⟨_, rfl⟩ := okWide_int ht hval; rfl
    · rename_i ht; obtain ⟨_, rfl⟩ := okWide_float ht hval; rfl
    · rename_i ht; obtain ⟨_, rfl⟩ := okWide_bool ht hval; rfl
    · rename_i ht; obtain ⟨_, rfl⟩ := okWide_string ht hval; rfl
    · rename_i ht; obtain ⟨_, _, _, rfl⟩ := okWide_slice ht hval; rfl
    · rename_i ht
      simp only [Bool.and_eq_true] at h
      rw [if_pos h.1.1]
      obtain ⟨cs, rfl, _⟩ := okWide_struct ht hval
      simp [Value.cells]
    · simp at h
end
end Go.Proofs.Ytlimabbeaimdgaa
/- Structs as values: put into memory, read and written whole. -/
namespace Go.Proofs.Ytlimabbeaimdgaa
set_option linter.unusedSimpArgs false
set_option linter.unusedVariables false
open Go.RowKit

section
variable {P : Program} {w : World} {ops : Array Oper} {rest : List Oper} {o o1 o2 : Oper} {a : Act} {Q : Exit → Act → World → Prop}
theorem ofCs_agg {s : Sh} (h : s.agg = true) (cs : List Value) : ofCs s cs = .agg cs.toArray := by unfold ofCs; rw [if_pos h]
/-- A struct is read whole. -/
theorem wl_ldA {t : TypeId} {s : Sh} [ElTy P t s] {x : Operand} (hg : o.guard = none) (ho : o.op = .load t x) {q : Addr} {cs : List Value} (hx : a.eval x = .pointer (some q)) (hc : Cs w (some q) cs) (hl : cs.length = s.sz)
    (h : wpList P ops Q rest (a.put o.dst (ofCs s cs)) w) : wpList P ops Q (o :: rest) a w :=
  wl_value hg (by simp [execOp, ho, hx, run_loadE (P := P) (t := t) (s := s) hc hl]) h
/-- A struct is put into new memory. -/
theorem wl_box {t : TypeId} {s : Sh} {x : Operand} (hg : o.guard = none) (ho : o.op = .box t x) {cs : List Value} (hx : a.eval x = ofCs s cs) (hl : cs.length = s.sz) (h1 : ∀ u ∈ cs, u.oneCell' = true)
    (h : ∀ b w', Ext w w' → w.heap.size ≤ b → Cs w' (some ⟨b, 0, none⟩) cs → wpList P ops Q rest (a.put o.dst (.pointer (some ⟨b, 0, none⟩))) w') : wpList P ops Q (o :: rest) a w := by
  refine wl_value hg (v := .pointer (some ⟨w.heap.size, 0, none⟩)) (w' := w.alloc (.cells cs.toArray t)) ?_ (h _ _ (Ext.alloc _ _) (Nat.le_refl _) ⟨fun i u hu => ?_, fun _ => rfl⟩)
  · simp [execOp, ho, hx, Instr.box, newVar, newRow, ofCs_cells hl h1]
  · rw [adr_row]
    have hnew : (w.alloc (.cells cs.toArray t)).heap[w.heap.size]? = some (.cells cs.toArray t) := heap_alloc_new w _
    unfold World.cell?
    rw [hnew]
    simpa using hu
/-- A struct is written whole into a block of its own. -/
theorem run_stA {t : TypeId} {s : Sh} [T : ElTy P t s] {g : Nat} {Z : Array Value} {e : TypeId} {cs : List Value} (hg : w.heap[g]? = some (.cells Z e (0, 0))) (hZ : Z.size = s.sz) (hl : cs.length = s.sz) (h1 : ∀ u ∈ cs, u.oneCell' = true) (hs : 0 < s.sz) :
    ∃ w', (Instr.storeAt t (.pointer (some ⟨g, 0, none⟩)) (ofCs s cs)).run P w = .ok () w' ∧ Cs w' (some ⟨g, 0, none⟩) cs ∧ Chg (fun b => b = g) w w' := by
  have how : OwnRow w (some ⟨g, 0, none⟩) 1 1 ([Z.toList]).flatten := .inr ⟨g, Z, e, rfl, hg, by simp only [List.flatten_cons, List.flatten_nil, List.append_nil]; exact List.take_length⟩
  obtain ⟨w', h2, h3, h4⟩ := run_storeE (P := P) (t := t) (s := s) (j := 0) how (by simp [hZ]) (by simp) hl hs h1
  refine ⟨w', ?_, ?_, h4.mono (by intro k hk; simpa [blocksOf] using hk)⟩
  · rw [Nat.zero_mul, adr_row] at h2; exact h2
  · have := h3.cs; simpa using this
theorem wl_stA {t : TypeId} {s : Sh} [T : ElTy P t s] {x y : Operand} (hgd : o.guard = none) (ho : o.op = .store t x y) {g : Nat} {Z : Array Value} {e : TypeId} {cs : List Value} (hx : a.eval x = .pointer (some ⟨g, 0, none⟩)) (hy : a.eval y = ofCs s cs)
    (hg : w.heap[g]? = some (.cells Z e (0, 0))) (hZ : Z.size = s.sz) (hl : cs.length = s.sz) (h1 : ∀ u ∈ cs, u.oneCell' = true) (hs : 0 < s.sz)
    (h : ∀ w', Cs w' (some ⟨g, 0, none⟩) cs → Chg (fun b => b = g) w w' → wpList P ops Q rest (a.put o.dst undef) w') : wpList P ops Q (o :: rest) a w := by
  obtain ⟨w', h2, h3, h4⟩ := run_stA (P := P) (t := t) hg hZ hl h1 hs
  exact wl_skip hgd (by simp [execOp, ho, hx, hy, h2]) (h w' h3 h4)
end
section
variable {P : Program} {w wf : World} {ops : Array Oper} {rest : List Oper} {o o1 o2 : Oper} {a : Act} {Q : Act → Prop} {F : Option Tmp → World → World → Value → Prop}
theorem x_ldA {t : TypeId} {s : Sh} [ElTy P t s] {x : Operand} (hw : Region.wanted o (yielded ops a.tmps) = true) (ho : o.op = .load t x) {q : Addr} {cs : List Value} (hx : a.eval x = .pointer (some q)) (hc : Cs w (some q) cs) (hl : cs.length = s.sz)
    (h : wpX P ops F w wf Q rest (a.put o.dst (ofCs s cs))) : wpX P ops F w wf Q (o :: rest) a :=
  x_pure hw (fun w1 h1 => by simp [execOp, ho, hx, run_loadE (P := P) (t := t) (s := s) (hc.ext h1) hl]) h
end
end Go.Proofs.Ytlimabbeaimdgaa
/- Bits of numbers, and their bytes. -/
namespace Go.Proofs.Ytlimabbeaimdgaa
set_option linter.unusedSimpArgs false
set_option linter.unusedVariables false
open Go.RowKit

theorem run_extern {P : Program} {f : FuncId} {fn : Func} {e : Array Value → Sem Value} {args : Array Value} {v : Value} {w : World} (hf : P.funcs[f]? = some fn) (hname : (fn.name == "runtime.NumGoroutine") = false) (hb : fn.body.isNone = true)
    (hn : Extern.findNext fn = none) (he : Extern.find fn = some e) (hr : (e args).run P w = .ok v w) : (callFunc f args).run P w = .ok (.value v) w := by
  have hname' : ¬ fn.name = "runtime.NumGoroutine" := by simpa using hname
  have hb' : fn.body = none := by simpa using hb
  simp [callFunc, hf, hname', hb', hn, he, hr, program, Sem.run, mark]
theorem run_f32bits (b : Nat) (w : World) : (callFunc 87 #[.float .f32 b]).run Try.prog w = .ok (.value (.int .u32 b)) w :=
  run_extern (e := Extern.MathFloatBits.float32bits) Try.func87 (by kernel_rfl) (by kernel_rfl) (by kernel_rfl) (by kernel_rfl) rfl
theorem run_f32from (n : Int) (w : World) : (callFunc 142 #[.int .u32 n]).run Try.prog w = .ok (.value (.float .f32 n.toNat)) w :=
  run_extern (e := Extern.MathFloatBits.float32frombits) Try.func142 (by kernel_rfl) (by kernel_rfl) (by kernel_rfl) (by kernel_rfl) rfl

/-- The bits of a number, as an integer. -/
def bitsOf (x : Nat) : Int := wrap64 x
theorem bitsOf_nan : bitsOf (nanB .f32) = 2143289344 := by decide +kernel
set_option maxRecDepth 100000 in
set_option maxHeartbeats 1000000 in
theorem BitsOf_any (b : Nat) (w : World) : Calls Try.prog 31 #[.float .f32 b] w fun e w' => e = .returned (.int .i64 (bitsOf (cn .f32 b))) ∧ w = w' := by
  by_cases hn : (FloatKind.f32.decode b).isNaN = true
  · have ha : (FloatKind.f32.format.order b b != some .eq) = true := by rw [order_nan hn]; rfl
    go_enter Try.func31, Try.ntmps31
    go_wp2
    go_ret
    exact ⟨by rw [cn_nan hn, bitsOf_nan]; rfl, rfl⟩
  · have hn' : (FloatKind.f32.decode b).isNaN = false := by simpa using hn
    have ha : (FloatKind.f32.format.order b b != some .eq) = false := by rw [order_self hn']; rfl
    have hx := run_f32bits b
    have hcn := cn_not hn'
    go_enter Try.func31, Try.ntmps31
    go_wp2
    go_ret
    exact ⟨by rw [hcn]; rfl, rfl⟩
set_option maxRecDepth 100000 in
set_option maxHeartbeats 1000000 in
theorem l01Bits_any (b : Nat) (w : World) : Calls Try.prog 184 #[.float .f32 b] w fun e w' => e = .returned (.int .i64 (bitsOf (cn .f32 b))) ∧ w = w' := by
  by_cases hn : (FloatKind.f32.decode b).isNaN = true
  · have ha : (FloatKind.f32.format.order b b != some .eq) = true := by rw [order_nan hn]; rfl
    go_enter Try.func184, Try.ntmps184
    go_wp2
    go_ret
    exact ⟨by rw [cn_nan hn, bitsOf_nan]; rfl, rfl⟩
  · have hn' : (FloatKind.f32.decode b).isNaN = false := by simpa using hn
    have ha : (FloatKind.f32.format.order b b != some .eq) = false := by rw [order_self hn']; rfl
    have hx := run_f32bits b
    have hcn := cn_not hn'
    go_enter Try.func184, Try.ntmps184
    go_wp2
    go_ret
    exact ⟨by rw [hcn]; rfl, rfl⟩
end Go.Proofs.Ytlimabbeaimdgaa
/- The harness on structs: Tensor. -/
namespace Go.Proofs.Ytlimabbeaimdgaa
set_option linter.unusedSimpArgs false
set_option linter.unusedVariables false
open Go.RowKit

abbrev shTensor : Sh := .pr .int (.pr .int (.pr (.sl .flt) (.un)))
theorem fo_implTensor_0 (q : Addr) (w : World) : (Instr.fieldAt 57 (.pointer (some q)) 0).run Try.prog w = .ok (.pointer (some (q.add 0))) w := by go_simp
theorem fo_implTensor_1 (q : Addr) (w : World) : (Instr.fieldAt 57 (.pointer (some q)) 1).run Try.prog w = .ok (.pointer (some (q.add 1))) w := by go_simp
theorem fo_implTensor_2 (q : Addr) (w : World) : (Instr.fieldAt 57 (.pointer (some q)) 2).run Try.prog w = .ok (.pointer (some (q.add 2))) w := by go_simp
instance elStTensorimpl : ElTy Try.prog 57 shTensor := ⟨by kernel_rfl, by kernel_rfl⟩
end Go.Proofs.Ytlimabbeaimdgaa
/- The harness on structs: Examples. -/
namespace Go.Proofs.Ytlimabbeaimdgaa
set_option linter.unusedSimpArgs false
set_option linter.unusedVariables false
open Go.RowKit

abbrev shExamples : Sh := .pr shTensor (.pr shTensor (.un))
end Go.Proofs.Ytlimabbeaimdgaa
/- The harness on structs: Layer. -/
namespace Go.Proofs.Ytlimabbeaimdgaa
set_option linter.unusedSimpArgs false
set_option linter.unusedVariables false
open Go.RowKit

abbrev shLayer : Sh := .pr .int (.pr .int (.pr .int (.pr (.sl .flt) (.pr (.sl .flt) (.un)))))
theorem fo_implLayer_0 (q : Addr) (w : World) : (Instr.fieldAt 65 (.pointer (some q)) 0).run Try.prog w = .ok (.pointer (some (q.add 0))) w := by go_simp
theorem fo_implLayer_1 (q : Addr) (w : World) : (Instr.fieldAt 65 (.pointer (some q)) 1).run Try.prog w = .ok (.pointer (some (q.add 1))) w := by go_simp
theorem fo_implLayer_2 (q : Addr) (w : World) : (Instr.fieldAt 65 (.pointer (some q)) 2).run Try.prog w = .ok (.pointer (some (q.add 2))) w := by go_simp
theorem fo_implLayer_3 (q : Addr) (w : World) : (Instr.fieldAt 65 (.pointer (some q)) 3).run Try.prog w = .ok (.pointer (some (q.add 3))) w := by go_simp
theorem fo_implLayer_4 (q : Addr) (w : World) : (Instr.fieldAt 65 (.pointer (some q)) 4).run Try.prog w = .ok (.pointer (some (q.add 4))) w := by go_simp
instance elStLayerimpl : ElTy Try.prog 65 shLayer := ⟨by kernel_rfl, by kernel_rfl⟩
theorem fo_lawsLayer_0 (q : Addr) (w : World) : (Instr.fieldAt 173 (.pointer (some q)) 0).run Try.prog w = .ok (.pointer (some (q.add 0))) w := by go_simp
theorem fo_lawsLayer_1 (q : Addr) (w : World) : (Instr.fieldAt 173 (.pointer (some q)) 1).run Try.prog w = .ok (.pointer (some (q.add 1))) w := by go_simp
theorem fo_lawsLayer_2 (q : Addr) (w : World) : (Instr.fieldAt 173 (.pointer (some q)) 2).run Try.prog w = .ok (.pointer (some (q.add 2))) w := by go_simp
theorem fo_lawsLayer_3 (q : Addr) (w : World) : (Instr.fieldAt 173 (.pointer (some q)) 3).run Try.prog w = .ok (.pointer (some (q.add 3))) w := by go_simp
theorem fo_lawsLayer_4 (q : Addr) (w : World) : (Instr.fieldAt 173 (.pointer (some q)) 4).run Try.prog w = .ok (.pointer (some (q.add 4))) w := by go_simp
instance elStLayerlaws : ElTy Try.prog 173 shLayer := ⟨by kernel_rfl, by kernel_rfl⟩

set_option maxRecDepth 100000 in
set_option maxHeartbeats 1000000 in
theorem eqLayer_ok : EqOk 133 shLayer := by
  intro cs cs' d w hu hv hn
  obtain ⟨a1, a2, a3, a4, a5, au⟩ := d
  obtain ⟨_, _, rfl, rfl, _, _, rfl, rfl, _, _, rfl, rfl, _, _, rfl, ha4, _, _, rfl, ha5, rfl⟩ := hu
  obtain ⟨pa4, ca4, rfl, hla4⟩ := rep_val ha4
  obtain ⟨pa5, ca5, rfl, hla5⟩ := rep_val ha5
  obtain ⟨_, _, rfl, rfl, _, _, rfl, rfl, _, _, rfl, rfl, _, _, rfl, hqa4, _, _, rfl, hqa5, rfl⟩ := hv
  obtain ⟨pqa4, cqa4, rfl, hlqa4⟩ := rep_val hqa4
  obtain ⟨pqa5, cqa5, rfl, hlqa5⟩ := rep_val hqa5
  have hba4 : tot (.sl .flt) a4 ≤ 1048576 := by simp only [tot] at hn ⊢; omega
  have hba5 : tot (.sl .flt) a5 ≤ 1048576 := by simp only [tot] at hn ⊢; omega
  simp only [ofCs, Sh.agg, List.cons_append, List.nil_append, if_true]
  go_enter Try.func133, Try.ntmps133
  go_wp2_with fail
  refine (eqFloat32S_ok [.slice pa4 (List.length a4) ca4] [.slice pqa4 (List.length a4) cqa4] a4 _ (Rep.ext (w := w) ?_ (ha4 : Rep w (.sl .flt) [.slice pa4 (List.length a4) ca4] a4)) (Rep.ext (w := w) ?_ (hqa4 : Rep w (.sl .flt) [.slice pqa4 (List.length a4) cqa4] a4)) hba4).mono ?_
  · (repeat (first | with_reducible exact Ext.refl _ | with_reducible assumption | ((with_reducible refine Ext.setCell ?_ ?_ _); rotate_left; focus (first | (simp; done) | (simp; omega))) | (with_reducible refine Ext.trans ?_ (Ext.alloc _ _)) | (with_reducible refine Ext.trans ?_ (Ext.drew _)) | (with_reducible refine Ext.trans ?_ (by with_reducible assumption))))
  · (repeat (first | with_reducible exact Ext.refl _ | with_reducible assumption | ((with_reducible refine Ext.setCell ?_ ?_ _); rotate_left; focus (first | (simp; done) | (simp; omega))) | (with_reducible refine Ext.trans ?_ (Ext.alloc _ _)) | (with_reducible refine Ext.trans ?_ (Ext.drew _)) | (with_reducible refine Ext.trans ?_ (by with_reducible assumption))))
  rintro e w1 ⟨rfl, e1⟩
  have x1_0 := e1.cellOf (b := w.heap.size) (by first | (simp; done) | (simp; omega))
  have x1_1 := e1.cellOf (b := w.heap.size + 1) (by first | (simp; done) | (simp; omega))
  have y1 := e1.size
  go_wp2_with fail
  refine (eqFloat32S_ok [.slice pa5 (List.length a5) ca5] [.slice pqa5 (List.length a5) cqa5] a5 _ (Rep.ext (w := w) ?_ (ha5 : Rep w (.sl .flt) [.slice pa5 (List.length a5) ca5] a5)) (Rep.ext (w := w) ?_ (hqa5 : Rep w (.sl .flt) [.slice pqa5 (List.length a5) cqa5] a5)) hba5).mono ?_
  · (repeat (first | with_reducible exact Ext.refl _ | with_reducible assumption | ((with_reducible refine Ext.setCell ?_ ?_ _); rotate_left; focus (first | (simp; done) | (simp; omega))) | (with_reducible refine Ext.trans ?_ (Ext.alloc _ _)) | (with_reducible refine Ext.trans ?_ (Ext.drew _)) | (with_reducible refine Ext.trans ?_ (by with_reducible assumption))))
  · (repeat (first | with_reducible exact Ext.refl _ | with_reducible assumption | ((with_reducible refine Ext.setCell ?_ ?_ _); rotate_left; focus (first | (simp; done) | (simp; omega))) | (with_reducible refine Ext.trans ?_ (Ext.alloc _ _)) | (with_reducible refine Ext.trans ?_ (Ext.drew _)) | (with_reducible refine Ext.trans ?_ (by with_reducible assumption))))
  rintro e w2 ⟨rfl, e2⟩
  have x2_0 := e2.cellOf (b := w.heap.size) (by first | (simp; done) | (simp; omega) | (simp at y1 ⊢; omega) | (simp at y1; omega) | (simp at y1 ⊢; omega) | (simp at y1; omega))
  have x2_1 := e2.cellOf (b := w.heap.size + 1) (by first | (simp; done) | (simp; omega) | (simp at y1 ⊢; omega) | (simp at y1; omega) | (simp at y1 ⊢; omega) | (simp at y1; omega))
  have y2 := e2.size
  go_wp2
  go_ret
  refine ⟨rfl, ?_⟩
  (repeat (first | with_reducible exact Ext.refl _ | with_reducible assumption | ((with_reducible refine Ext.setCell ?_ ?_ _); rotate_left; focus (first | (simp; done) | (simp; omega))) | (with_reducible refine Ext.trans ?_ (Ext.alloc _ _)) | (with_reducible refine Ext.trans ?_ (Ext.drew _)) | (with_reducible refine Ext.trans ?_ (by with_reducible assumption))))

set_option maxRecDepth 100000 in
set_option maxHeartbeats 1000000 in
theorem szLayer_ok : SzOk 126 shLayer := by
  intro cs d left w hu hl0 hl1
  obtain ⟨a1, a2, a3, a4, a5, au⟩ := d
  obtain ⟨_, _, rfl, rfl, _, _, rfl, rfl, _, _, rfl, rfl, _, _, rfl, ha4, _, _, rfl, ha5, rfl⟩ := hu
  obtain ⟨pa4, ca4, rfl, hla4⟩ := rep_val ha4
  obtain ⟨pa5, ca5, rfl, hla5⟩ := rep_val ha5
  simp only [ofCs, Sh.agg, List.cons_append, List.nil_append, if_true]
  generalize hT : tot shLayer (a1, a2, a3, a4, a5, au) = T
  have HT := hid hT
  clear hT
  go_enter Try.func126, Try.ntmps126
  go_wp2_with fail
  refine (szFloat32S_ok [.slice pa4 (List.length a4) ca4] a4 left _ (Rep.ext (w := w) ?_ (ha4 : Rep w (.sl .flt) [.slice pa4 (List.length a4) ca4] a4)) (by omega) (by omega)).mono ?_
  · (repeat (first | with_reducible exact Ext.refl _ | with_reducible assumption | ((with_reducible refine Ext.setCell ?_ ?_ _); rotate_left; focus (first | (simp; done) | (simp; omega))) | (with_reducible refine Ext.trans ?_ (Ext.alloc _ _)) | (with_reducible refine Ext.trans ?_ (Ext.drew _)) | (with_reducible refine Ext.trans ?_ (by with_reducible assumption))))
  rintro e w1 ⟨⟨r1, rfl, hr1⟩, e1⟩
  have x1_0 := e1.cellOf (b := w.heap.size) (by first | (simp; done) | (simp; omega))
  have y1 := e1.size
  by_cases hn1 : r1 < 0
  · go_wp2
    go_ret
    refine ⟨⟨-1, rfl, .inl (by omega)⟩, ?_⟩
    (repeat (first | with_reducible exact Ext.refl _ | with_reducible assumption | ((with_reducible refine Ext.setCell ?_ ?_ _); rotate_left; focus (first | (simp; done) | (simp; omega))) | (with_reducible refine Ext.trans ?_ (Ext.alloc _ _)) | (with_reducible refine Ext.trans ?_ (Ext.drew _)) | (with_reducible refine Ext.trans ?_ (by with_reducible assumption))))
  have hq1 : r1 = left - (tot (.sl .flt) a4 : Int) := by rcases hr1 with h | h; exact absurd h hn1; exact h.1
  have Hq1 := hid hq1
  have hz1 : 0 ≤ r1 := by omega
  have ht1 : r1 ≤ 1048576 := by omega
  clear hr1 hq1
  go_wp2_with fail
  refine (szFloat32S_ok [.slice pa5 (List.length a5) ca5] a5 r1 _ (Rep.ext (w := w) ?_ (ha5 : Rep w (.sl .flt) [.slice pa5 (List.length a5) ca5] a5)) (by omega) (by omega)).mono ?_
  · (repeat (first | with_reducible exact Ext.refl _ | with_reducible assumption | ((with_reducible refine Ext.setCell ?_ ?_ _); rotate_left; focus (first | (simp; done) | (simp; omega))) | (with_reducible refine Ext.trans ?_ (Ext.alloc _ _)) | (with_reducible refine Ext.trans ?_ (Ext.drew _)) | (with_reducible refine Ext.trans ?_ (by with_reducible assumption))))
  rintro e w2 ⟨⟨r2, rfl, hr2⟩, e2⟩
  have x2_0 := e2.cellOf (b := w.heap.size) (by first | (simp; done) | (simp; omega) | (simp at y1 ⊢; omega) | (simp at y1; omega) | (simp at y1 ⊢; omega) | (simp at y1; omega))
  have y2 := e2.size
  by_cases hn2 : r2 < 0
  · go_wp2
    go_ret
    refine ⟨⟨-1, rfl, .inl (by omega)⟩, ?_⟩
    (repeat (first | with_reducible exact Ext.refl _ | with_reducible assumption | ((with_reducible refine Ext.setCell ?_ ?_ _); rotate_left; focus (first | (simp; done) | (simp; omega))) | (with_reducible refine Ext.trans ?_ (Ext.alloc _ _)) | (with_reducible refine Ext.trans ?_ (Ext.drew _)) | (with_reducible refine Ext.trans ?_ (by with_reducible assumption))))
  have hq2 : r2 = r1 - (tot (.sl .flt) a5 : Int) := by rcases hr2 with h | h; exact absurd h hn2; exact h.1
  have Hq2 := hid hq2
  have hz2 : 0 ≤ r2 := by omega
  have ht2 : r2 ≤ 1048576 := by omega
  clear hr2 hq2
  go_wp2
  go_ret
  refine ⟨⟨_, rfl, .inr ⟨?_, by omega⟩⟩, ?_⟩
  · have h0 := HT.out
    simp only [tot] at h0
    have h1 := Hq1.out
    simp only [tot] at h1
    have h2 := Hq2.out
    simp only [tot] at h2
    omega
  · (repeat (first | with_reducible exact Ext.refl _ | with_reducible assumption | ((with_reducible refine Ext.setCell ?_ ?_ _); rotate_left; focus (first | (simp; done) | (simp; omega))) | (with_reducible refine Ext.trans ?_ (Ext.alloc _ _)) | (with_reducible refine Ext.trans ?_ (Ext.drew _)) | (with_reducible refine Ext.trans ?_ (by with_reducible assumption))))

set_option maxRecDepth 100000 in
set_option maxHeartbeats 1000000 in
theorem toLayer_ok : ToOk 130 shLayer := by
  intro cs d w hu hn
  obtain ⟨a1, a2, a3, a4, a5, au⟩ := d
  obtain ⟨_, _, rfl, rfl, _, _, rfl, rfl, _, _, rfl, rfl, _, _, rfl, ha4, _, _, rfl, ha5, rfl⟩ := hu
  obtain ⟨pa4, ca4, rfl, hla4⟩ := rep_val ha4
  obtain ⟨pa5, ca5, rfl, hla5⟩ := rep_val ha5
  have hba4 : tot (.sl .flt) a4 ≤ 1048576 := by simp only [tot] at hn ⊢; omega
  have hba5 : tot (.sl .flt) a5 ≤ 1048576 := by simp only [tot] at hn ⊢; omega
  simp only [ofCs, Sh.agg, List.cons_append, List.nil_append, if_true]
  go_enter Try.func130, Try.ntmps130
  go_wp2_with fail
  refine (toFloat32S_ok [.slice pa4 (List.length a4) ca4] a4 _ (Rep.ext (w := w) ?_ (ha4 : Rep w (.sl .flt) [.slice pa4 (List.length a4) ca4] a4)) hba4).mono ?_
  · (repeat (first | with_reducible exact Ext.refl _ | with_reducible assumption | ((with_reducible refine Ext.setCell ?_ ?_ _); rotate_left; focus (first | (simp; done) | (simp; omega))) | (with_reducible refine Ext.trans ?_ (Ext.alloc _ _)) | (with_reducible refine Ext.trans ?_ (Ext.drew _)) | (with_reducible refine Ext.trans ?_ (by with_reducible assumption))))
  rintro e w1 ⟨cs1, bs1, rfl, owna4, nd1, lo1, e1⟩
  obtain ⟨pqa4, cqa4, rfl, glqa4⟩ := rep_val owna4.rep
  have hqa4 := owna4.rep
  simp only [ofCs, Sh.agg, List.headD_cons, Bool.false_eq_true, if_false]
  have x1_0 := e1.cellOf (b := w.heap.size) (by first | (simp; done) | (simp; omega))
  have x1_1 := e1.cellOf (b := w.heap.size + 1) (by first | (simp; done) | (simp; omega))
  have x1_2 := e1.cellOf (b := w.heap.size + 2) (by first | (simp; done) | (simp; omega))
  have y1 := e1.size
  go_wp2_with fail
  refine (toFloat32S_ok [.slice pa5 (List.length a5) ca5] a5 _ (Rep.ext (w := w) ?_ (ha5 : Rep w (.sl .flt) [.slice pa5 (List.length a5) ca5] a5)) hba5).mono ?_
  · (repeat (first | with_reducible exact Ext.refl _ | with_reducible assumption | ((with_reducible refine Ext.setCell ?_ ?_ _); rotate_left; focus (first | (simp; done) | (simp; omega))) | (with_reducible refine Ext.trans ?_ (Ext.alloc _ _)) | (with_reducible refine Ext.trans ?_ (Ext.drew _)) | (with_reducible refine Ext.trans ?_ (by with_reducible assumption))))
  rintro e w2 ⟨cs2, bs2, rfl, owna5, nd2, lo2, e2⟩
  obtain ⟨pqa5, cqa5, rfl, glqa5⟩ := rep_val owna5.rep
  have hqa5 := owna5.rep
  simp only [ofCs, Sh.agg, List.headD_cons, Bool.false_eq_true, if_false]
  have x2_0 := e2.cellOf (b := w.heap.size) (by first | (simp; done) | (simp; omega) | (simp at y1 ⊢; omega) | (simp at y1; omega) | (simp at y1 ⊢; omega) | (simp at y1; omega))
  have x2_1 := e2.cellOf (b := w.heap.size + 1) (by first | (simp; done) | (simp; omega) | (simp at y1 ⊢; omega) | (simp at y1; omega) | (simp at y1 ⊢; omega) | (simp at y1; omega))
  have x2_2 := e2.cellOf (b := w.heap.size + 2) (by first | (simp; done) | (simp; omega) | (simp at y1 ⊢; omega) | (simp at y1; omega) | (simp at y1 ⊢; omega) | (simp at y1; omega))
  have y2 := e2.size
  go_wp2
  refine bodyPost_ret (v := .agg #[.int .i64 a1, .int .i64 a2, .int .i64 a3, .slice pqa4 (List.length a4) cqa4, .slice pqa5 (List.length a5) cqa5]) (by simp [results, Try.results130, go_sem, x1_0, x1_1, x1_2, x2_0, x2_1, x2_2, y1, y2]) rfl ?_
  generalize hW : World.setCell _ _ _ = W
  have eW : Ext w W := by subst hW; (repeat (first | with_reducible exact Ext.refl _ | with_reducible assumption | ((with_reducible refine Ext.setCell ?_ ?_ _); rotate_left; focus (first | (simp; done) | (simp; omega))) | (with_reducible refine Ext.trans ?_ (Ext.alloc _ _)) | (with_reducible refine Ext.trans ?_ (Ext.drew _)) | (with_reducible refine Ext.trans ?_ (by with_reducible assumption))))
  have ch1 : Chg (fun b => b < w.heap.size + 3) w1 W := by subst hW; (repeat (first | with_reducible exact Chg.refl _ _ | (with_reducible exact Chg.of_ext (by with_reducible assumption)) | with_reducible assumption | ((with_reducible refine Chg.setCell ?_ ?_ _); rotate_left; focus (first | (simp; done) | (simp; omega))) | (with_reducible refine Chg.alloc ?_ _) | (with_reducible refine Chg.drew ?_) | (with_reducible refine Chg.trans ?_ (Chg.of_ext (by with_reducible assumption)))))
  have owa4 : Own W (.sl .flt) [.slice pqa4 (List.length a4) cqa4] a4 bs1 := owna4.chg ch1 (fun b hb => by have := lo1 b hb; simp at this; omega)
  have ch2 : Chg (fun b => b < w.heap.size + 3) w2 W := by subst hW; (repeat (first | with_reducible exact Chg.refl _ _ | (with_reducible exact Chg.of_ext (by with_reducible assumption)) | with_reducible assumption | ((with_reducible refine Chg.setCell ?_ ?_ _); rotate_left; focus (first | (simp; done) | (simp; omega))) | (with_reducible refine Chg.alloc ?_ _) | (with_reducible refine Chg.drew ?_) | (with_reducible refine Chg.trans ?_ (Chg.of_ext (by with_reducible assumption)))))
  have owa5 : Own W (.sl .flt) [.slice pqa5 (List.length a5) cqa5] a5 bs2 := owna5.chg ch2 (fun b hb => by have := lo2 b hb; simp at this y1; omega)
  refine ⟨[.int .i64 a1, .int .i64 a2, .int .i64 a3, .slice pqa4 (List.length a4) cqa4, .slice pqa5 (List.length a5) cqa5], ([] ++ ([] ++ ([] ++ (bs1 ++ (bs2 ++ ([])))))), rfl, (⟨[.int .i64 a1], [.int .i64 a2, .int .i64 a3, .slice pqa4 (List.length a4) cqa4, .slice pqa5 (List.length a5) cqa5], [], ([] ++ ([] ++ (bs1 ++ (bs2 ++ ([]))))), rfl, ⟨rfl, rfl⟩, ⟨[.int .i64 a2], [.int .i64 a3, .slice pqa4 (List.length a4) cqa4, .slice pqa5 (List.length a5) cqa5], [], ([] ++ (bs1 ++ (bs2 ++ ([])))), rfl, ⟨rfl, rfl⟩, ⟨[.int .i64 a3], [.slice pqa4 (List.length a4) cqa4, .slice pqa5 (List.length a5) cqa5], [], (bs1 ++ (bs2 ++ ([]))), rfl, ⟨rfl, rfl⟩, ⟨[.slice pqa4 (List.length a4) cqa4], [.slice pqa5 (List.length a5) cqa5], bs1, (bs2 ++ ([])), rfl, owa4, ⟨[.slice pqa5 (List.length a5) cqa5], [], bs2, ([]), rfl, owa5, ⟨rfl, rfl⟩, rfl⟩, rfl⟩, rfl⟩, rfl⟩, rfl⟩ : Own W shLayer [.int .i64 a1, .int .i64 a2, .int .i64 a3, .slice pqa4 (List.length a4) cqa4, .slice pqa5 (List.length a5) cqa5] (a1, a2, a3, a4, a5, au) _), ?_, ?_, eW⟩
  · simp only [List.nil_append, List.append_nil]
    exact nodup_app2 w1.heap.size nd1 (nd2) (owna4.lt) (fun b hb => by (have := lo2 b hb; simp at this; omega))
  · intro b hb
    simp only [List.nil_append, List.append_nil, List.mem_append] at hb
    rcases hb with hb | hb
    · have := lo1 b hb; simp at this; omega
    · have := lo2 b hb; simp at this y1; omega


end Go.Proofs.Ytlimabbeaimdgaa
/- The harness on lists: LayerS. -/
namespace Go.Proofs.Ytlimabbeaimdgaa
set_option linter.unusedSimpArgs false
set_option linter.unusedVariables false
open Go.RowKit

abbrev shLayerS : Sh := .sl shLayer
instance slLayerSimpl : SlTy Try.prog 31 65 5 (.agg #[.int .i64 0, .int .i64 0, .int .i64 0, .slice none 0 0, .slice none 0 0]) 72 := ⟨by kernel_rfl, by kernel_rfl, by kernel_rfl, by decide, by decide⟩
instance szLayerSimpl : SlTy Try.prog 31 65 (Sh.sz shLayer) (.agg #[.int .i64 0, .int .i64 0, .int .i64 0, .slice none 0 0, .slice none 0 0]) 72 := slLayerSimpl
instance elLayerSimpl : ElTy Try.prog 65 shLayer := ⟨by kernel_rfl, by kernel_rfl⟩
instance slLayerSlaws : SlTy Try.prog 22 173 5 (.agg #[.int .i64 0, .int .i64 0, .int .i64 0, .slice none 0 0, .slice none 0 0]) 72 := ⟨by kernel_rfl, by kernel_rfl, by kernel_rfl, by decide, by decide⟩
instance szLayerSlaws : SlTy Try.prog 22 173 (Sh.sz shLayer) (.agg #[.int .i64 0, .int .i64 0, .int .i64 0, .slice none 0 0, .slice none 0 0]) 72 := slLayerSlaws
instance elLayerSlaws : ElTy Try.prog 173 shLayer := ⟨by kernel_rfl, by kernel_rfl⟩

set_option maxRecDepth 100000 in
set_option maxHeartbeats 1000000 in
theorem eqLayerS_ok : EqOk 74 shLayerS := by
  intro cs cs' l w hu hv hn
  obtain ⟨p, c, css, rfl, h2, h3, h4, h5, h6, h7⟩ := rep_sl hu
  obtain ⟨q, d, css', rfl, g2, g3, g4, g5, g6, g7⟩ := rep_sl hv
  have hle := Nat.le_trans (tot_len l) hn
  generalize hL : l.length = n at *
  have HL := hid hL
  clear hL
  simp only [ofCs, Sh.agg, List.headD_cons, Bool.false_eq_true, if_false]
  go_enter Try.func74, Try.ntmps74
  go_wp2
  go_loopw [5] (fun iv wr => ∃ i : Nat, i ≤ n ∧ iv = .int .i64 i ∧ Ext w wr) (fun iv _ => n - (intOf iv).toNat)
  case atStart => exact ⟨0, by omega, rfl, Ext.refl w⟩
  case round =>
    obtain ⟨i, hi, rfl, he⟩ := hrel
    by_cases hlt : i < n
    · have hp' := (h2.ext he).ext (Ext.drew wr)
      have hq' := (g2.ext he).ext (Ext.drew wr)
      have hil : i < l.length := by rw [HL.out]; exact hlt
      obtain ⟨ci, hci, ri⟩ := h5.get i l[i] (by simp)
      obtain ⟨di, hdi, si⟩ := g5.get i l[i] (by simp)
      have hs1 := h2.some_of h6 (by decide) (show 0 < css.length by omega)
      have hs2 := g2.some_of g6 (by decide) (show 0 < css'.length by omega)
      have hb := Nat.le_trans (Nat.le_trans (Nat.le_add_right _ _) (tot_get l i hil)) hn
      go_wp2_with fail
      refine wp_region_xall (F := fun _ _ u => u = .bool true) (by kernel_rfl) (by kernel_rfl) (by kernel_rfl) ?_
      intro wf hwf
      refine x_mv rfl rfl rfl ?_
      simp only [Act.put, ev_tmp, List.setIfInBounds_toArray, List.set_cons_succ, List.set_cons_zero, List.getD_cons_succ, List.getD_cons_zero]
      refine x_mv rfl rfl rfl ?_
      simp only [Act.put, ev_tmp, List.setIfInBounds_toArray, List.set_cons_succ, List.set_cons_zero, List.getD_cons_succ, List.getD_cons_zero]
      refine x_idxloadE (s := shLayer) (j := i) rfl rfl (fun _ => rfl) rfl (fun _ => rfl) rfl rfl rfl hp' h6 h7 hlt hs1 hci ?_
      simp only [Act.put, ev_tmp, List.setIfInBounds_toArray, List.set_cons_succ, List.set_cons_zero, List.getD_cons_succ, List.getD_cons_zero]
      refine x_mv rfl rfl rfl ?_
      simp only [Act.put, ev_tmp, List.setIfInBounds_toArray, List.set_cons_succ, List.set_cons_zero, List.getD_cons_succ, List.getD_cons_zero]
      refine x_mv rfl rfl rfl ?_
      simp only [Act.put, ev_tmp, List.setIfInBounds_toArray, List.set_cons_succ, List.set_cons_zero, List.getD_cons_succ, List.getD_cons_zero]
      refine x_idxloadE (s := shLayer) (j := i) rfl rfl (fun _ => rfl) rfl (fun _ => rfl) rfl rfl rfl hq' g6 g7 hlt hs2 hdi ?_
      simp only [Act.put, ev_tmp, List.setIfInBounds_toArray, List.set_cons_succ, List.set_cons_zero, List.getD_cons_succ, List.getD_cons_zero]
      refine x_callf (f := 133) (args := #[ofCs shLayer ci, ofCs shLayer di]) rfl rfl Try.func133 rfl (by kernel_rfl) (by simp [Act.eval]) (fun w1 hw1 => (eqLayer_ok ci di l[i] w1 (((ri.ext he).ext (Ext.drew wr)).ext hw1) (((si.ext he).ext (Ext.drew wr)).ext hw1) hb).mono fun e w3 h => ⟨_, h.1, h.2, rfl⟩) ?_
      rintro u w3 _ _ rfl
      simp only [Act.put, ev_tmp, List.setIfInBounds_toArray, List.set_cons_succ, List.set_cons_zero, List.getD_cons_succ, List.getD_cons_zero]
      refine x_run rfl fun K hK w1 _ => ?_
      go_simp
      refine hK _ ?_
      clear hK K
      refine x_nil ?_
      have he' := (he.trans (Ext.drew wr)).trans hwf
      clear hwf hp' hq' he
      go_wp2
      go_roundw
      case rel => exact ⟨i + 1, by omega, by go_num, he'⟩
      case measure => simp [intOf]; omega
    · obtain rfl : i = n := by omega
      go_wp2
      go_ret
      exact ⟨rfl, he⟩

set_option maxRecDepth 100000 in
set_option maxHeartbeats 1000000 in
theorem szLayerS_ok : SzOk 67 shLayerS := by
  intro cs l left w hu hl0 hl1
  obtain ⟨p, c, css, rfl, h2, h3, h4, h5, h6, h7⟩ := rep_sl hu
  have hle := Nat.le_trans h3 h4
  have ht := tot_sl l
  have hts := fun i hi => sum_take_le id (l.map (tot shLayer)) i hi
  generalize hL : l.length = n at *
  have HL := hid hL
  clear hL
  unfold maxLen at hle
  generalize hT : tot shLayerS l = T at *
  have HT := hid hT
  have Ht := hid ht
  clear hT ht
  simp only [ofCs, Sh.agg, List.headD_cons, Bool.false_eq_true, if_false]
  by_cases hneg : left - n < 0
  · go_enter Try.func67, Try.ntmps67
    go_wp2
    go_ret
    exact ⟨⟨-1, rfl, .inl (by omega)⟩, Ext.refl _⟩
  · go_enter Try.func67, Try.ntmps67
    go_wp2
    go_loopw [1, 5] (fun lv iv wr => ∃ (i : Nat) (lf : Int), i ≤ n ∧ iv = .int .i64 i ∧ lv = .int .i64 lf ∧ 0 ≤ lf ∧ lf ≤ 1048576 ∧ Hid (lf = left - n - (((l.map (tot shLayer)).take i).sum : Nat)) ∧ Ext w wr) (fun _ iv _ => n - (intOf iv).toNat)
    case atStart => exact ⟨0, left - n, by omega, rfl, rfl, by omega, by omega, by unfold Hid; simp, Ext.refl w⟩
    case round =>
      obtain ⟨i, lf, hi, rfl, rfl, hf0, hf1, Hlf, he⟩ := hrel
      by_cases hlt : i < n
      · have hp' := h2.ext he
        have hil : i < l.length := by rw [HL.out]; exact hlt
        obtain ⟨ci, hci, ri⟩ := h5.get i l[i] (by simp)
        have hs1 := h2.some_of h6 (by decide) (show 0 < css.length by omega)
        go_wp2_with (refine wl_idxloadE (s := shLayer) (j := i) rfl rfl rfl rfl (fun _ => rfl) rfl rfl rfl hp' h6 h7 hlt hs1 hci ?_)
        refine (szLayer_ok ci l[i] lf _ (ri.ext he) hf0 hf1).mono ?_
        rintro e w1 ⟨⟨r, rfl, hr⟩, e1⟩
        by_cases hrn : r < 0
        · go_wp2
          go_ret
          exact ⟨⟨-1, rfl, .inl (by omega)⟩, he.trans e1⟩
        · have hr' : r = lf - (tot shLayer l[i] : Int) := by rcases hr with h | h; exact absurd h hrn; exact h.1
          have Hr := hid hr'
          have hr1 : r ≤ 1048576 := by omega
          clear hr hr'
          go_wp2
          go_roundw
          case rel =>
            refine ⟨i + 1, r, by omega, by go_num, rfl, by omega, hr1, ?_, he.trans e1⟩
            have h9 : ((l.map (tot shLayer)).take (i + 1)).sum = ((l.map (tot shLayer)).take i).sum + tot shLayer l[i] := by
              rw [List.take_add_one, List.sum_append, List.getElem?_map, List.getElem?_eq_getElem hil]; simp
            rw [Hid, h9, Hr.out, Hlf.out]; omega
          case measure => simp [intOf]; omega
      · obtain rfl : i = n := by omega
        go_wp2
        go_ret
        refine ⟨⟨lf, rfl, .inr ⟨?_, hf0⟩⟩, he⟩
        have h8 := Hlf.out
        rw [List.take_of_length_le (by rw [List.length_map, HL.out]; exact Nat.le_refl _)] at h8
        have := Ht.out
        omega

set_option maxRecDepth 100000 in
set_option maxHeartbeats 1000000 in
theorem toLayerS_ok : ToOk 70 shLayerS := by
  intro cs l w hu hn
  obtain ⟨p, c, css, rfl, h2, h3, h4, h5, h6, h7⟩ := rep_sl hu
  have hle := Nat.le_trans (tot_len l) hn
  generalize hL : l.length = n at *
  have HL := hid hL
  clear hL
  simp only [ofCs, Sh.agg, List.headD_cons, Bool.false_eq_true, if_false]
  go_enter Try.func70, Try.ntmps70
  go_wp2_with (refine wl_make w.heap.size n rfl rfl rfl rfl (by unfold maxLen; omega) (by omega) (Nat.le_refl _) ?_; intro g w1 own1 e1)
  have hg := (own_B own1).1
  obtain ⟨us0, hu0, hu1, hu2⟩ := made_rows (z := (.agg #[.int .i64 0, .int .i64 0, .int .i64 0, .slice none 0 0, .slice none 0 0])) (s := Sh.sz shLayer) n rfl
  have own2 : OwnRow w1 (some ⟨g, 0, none⟩) n n us0.flatten := by rw [hu0]; exact ownRow_of own1
  go_loopw [4] (fun iv wr => ∃ (i : Nat) (us : List (List Value)) (bss : List (List Nat)), i ≤ n ∧ iv = .int .i64 i ∧ us.length = n ∧ (∀ c ∈ us, c.length = Sh.sz shLayer) ∧ OwnRow wr (some ⟨g, 0, none⟩) n n us.flatten ∧ Hid (OwnEs wr shLayer (us.take i) bss (l.take i)) ∧ Hid (bss.flatten.Nodup) ∧ Hid (∀ b ∈ bss.flatten, w.heap.size ≤ b ∧ b ≠ g) ∧ Ext w wr ∧ g < wr.heap.size) (fun iv _ => n - (intOf iv).toNat)
  case atStart => exact ⟨0, us0, [], by omega, rfl, hu1, hu2, own2, ⟨by simp, by simp, fun i cs bs d h => by simp at h⟩, by simp [Hid], by simp [Hid], e1, (own_B own1).2⟩
  case round =>
    clear own1 own2 e1 hu0 hu1 hu2
    obtain ⟨i, us, bss, hi, rfl, hul, hall, own1, Hes, Hnd, Hlo, e1, hgl⟩ := hrel
    by_cases hlt : i < n
    · have hcw := h2.ext e1
      have hil : i < l.length := by rw [HL.out]; exact hlt
      obtain ⟨ci, hci, ri⟩ := h5.get i l[i] (by simp)
      have hs1 := h2.some_of h6 (by decide) (show 0 < css.length by omega)
      have hb := Nat.le_trans (Nat.le_trans (Nat.le_add_right _ _) (tot_get l i hil)) hn
      go_wp2_with (refine wl_idxloadE (s := shLayer) (j := i) rfl rfl rfl rfl (fun _ => rfl) rfl rfl rfl hcw h6 h7 hlt hs1 hci ?_)
      refine (toLayer_ok ci l[i] _ (ri.ext e1) hb).mono ?_
      rintro e w2 ⟨di, bs, rfl, ow, nd, lo, e2⟩
      have own2 := own1.chg (.of_ext e2) (S := fun _ => False) (fun _ _ h => h)
      have hdl := ow.rep.size
      have hd1 := ow.rep.one
      go_wp2_with (first | (refine wl_idxE (s := Sh.sz shLayer) rfl rfl rfl rfl rfl rfl hlt ?_) | (refine wl_storeE (s := shLayer) (cs := di) rfl rfl rfl rfl own2 hall (by omega) hdl (by decide) hd1 ?_; intro w3 own3 ch3))
      have hgb : ∀ b ∈ bs, ¬ b ∈ blocksOf (some ⟨g, 0, none⟩) := fun b hb h => by have := lo b hb; simp [blocksOf] at h; omega
      have lt1 : ∀ b ∈ bss.flatten, b < wr.heap.size := fun b hb => by
        obtain ⟨bj, hm, hbj⟩ := List.mem_flatten.1 hb
        obtain ⟨j, hj, rfl⟩ := List.mem_iff_getElem.1 hm
        have k1 := Hes.out.1; have k2 := Hes.out.2.1
        exact (Hes.out.2.2 j ((us.take i)[j]'(by omega)) bss[j] ((l.take i)[j]'(by omega)) (List.getElem?_eq_getElem _) (List.getElem?_eq_getElem _) (List.getElem?_eq_getElem _)).lt b hbj
      have es3 : OwnEs w3 shLayer (us.take i) bss (l.take i) := (Hes.out.chg (.of_ext e2) (S := fun _ => False) (fun _ _ h => h)).chg ch3 fun b hb h => by simp [blocksOf] at h; exact (Hlo.out b hb).2 h
      have ow3 : Own w3 shLayer di l[i] bs := ow.chg ch3 hgb
      go_roundw
      case rel =>
        refine ⟨i + 1, us.set i di, bss ++ [bs], by omega, by go_num, by rw [List.length_set]; exact hul, all_set hall hdl, own3, ?_, ?_, ?_, ?_, ?_⟩
        · rw [take_set_succ (by omega), List.take_add_one, List.getElem?_eq_getElem hil]
          exact es3.snoc ow3
        · unfold Hid
          rw [List.flatten_append, List.flatten_cons, List.flatten_nil, List.append_nil]
          exact nodup_app Hnd.out nd lt1 lo
        · intro b hb
          rw [List.flatten_append, List.flatten_cons, List.flatten_nil, List.append_nil, List.mem_append] at hb
          rcases hb with hb | hb
          · exact Hlo.out b hb
          · have := lo b hb; have := e1.size; exact ⟨by omega, by omega⟩
        · exact (e1.trans e2).chg ch3 fun b hb => by simp [blocksOf] at hb; omega
        · have := ch3.size; have := e2.size; omega
      case measure => simp [intOf]; omega
    · obtain rfl : i = n := by omega
      go_wp2
      go_ret
      have k1 := Hes.out
      rw [List.take_of_length_le (by omega), List.take_of_length_le (by rw [HL.out]; exact Nat.le_refl _)] at k1
      have k2 := HL.out
      refine ⟨_, g :: bss.flatten, rfl, own_sl.2 ⟨some ⟨g, 0, none⟩, i, us, bss, by first | (rw [k2]; done) | (rw [k2]; rfl), by rw [k2]; exact own1, by omega, by unfold maxLen; omega, k1, rfl⟩, ?_, ?_, e1⟩
      · rw [List.nodup_cons]; exact ⟨fun h => (Hlo.out g h).2 rfl, Hnd.out⟩
      · intro b hb; rcases List.mem_cons.1 hb with rfl | hb
        · exact hg
        · exact (Hlo.out b hb).1

set_option maxRecDepth 100000 in
set_option maxHeartbeats 1000000 in
theorem markLayerS_ok : MarkOk 75 shLayerS := by
  intro cs l bs k w hu hnd hk0 hk
  obtain ⟨p, c, css0, bss, rfl, h2, h3, h4, h5, rfl⟩ := own_sl.1 hu
  have hle := Nat.le_trans h3 h4
  have hk' : k + 64 * (tot (.sl shLayer) l : Int) ≤ 68719476736 := hk
  have h6 := h5.all
  have h7 := h5.1
  obtain ⟨nd1, nd2, nd3, nd4⟩ := nodup_split hnd
  generalize hL : l.length = n at *
  have HL := hid hL
  clear hL hu
  unfold maxLen at hle
  simp only [ofCs, Sh.agg, List.headD_cons, Bool.false_eq_true, if_false]
  go_enter Try.func75, Try.ntmps75
  go_wp2
  go_loopw [1, 5] (fun kv iv wr => ∃ (i : Nat) (css : List (List Value)), i ≤ n ∧ iv = .int .i64 i ∧ kv = .int .i64 (mkK shLayer l k i) ∧ OwnRow wr p n c css.flatten ∧ Hid (OwnEs wr shLayer css bss (mkTo shLayer l k i)) ∧ Chg (fun b => b ∈ blocksOf p ++ bss.flatten) w wr) (fun _ iv _ => n - (intOf iv).toNat)
  case atStart => exact ⟨0, css0, by omega, rfl, by rw [mkK_zero], h2, by rw [mkTo_zero]; exact h5, Chg.refl _ _⟩
  case round =>
    clear h2 h5 h6 h7
    obtain ⟨i, css, hi, rfl, rfl, own0, H5, hch⟩ := hrel
    have h6 := H5.out.all
    have h7 : css.length = n := by have := H5.out.1; rw [length_mkTo, HL.out] at this; exact this
    by_cases hlt : i < n
    · have hil : i < l.length := by rw [HL.out]; exact hlt
      obtain ⟨b1, b2⟩ := mkK_bd shLayer (by decide) l k i hil
      obtain ⟨k1, k2⟩ := mk_succ shLayer l k i hil
      have hbl : bss.length = n := by have := H5.out.2.1; rw [length_mkTo, HL.out] at this; exact this
      have hci : css[i]? = some css[i] := by simp
      have hbi : bss[i]? = some bss[i] := by simp
      have ow := H5.out.2.2 i css[i] bss[i] l[i] hci hbi (mkTo_get _ _ _ _ hil)
      have hs1 := own0.cs.some_of h6 (by decide) (show 0 < css.length by omega)
      have ndi := flat_nodup nd2 hbi
      have hin : ∀ b ∈ bss[i], b ∈ bss.flatten := fun b hb => List.mem_flatten.2 ⟨_, List.getElem_mem _, hb⟩
      have hap : ∀ j bj, j ≠ i → bss[j]? = some bj → ∀ b ∈ bj, b ∉ bss[i] := fun j bj hj hbj => flat_apart nd2 hbi hbj hj
      have K1 := hid k1
      have K2 := hid k2
      clear k1 k2
      generalize css[i] = ci at *
      generalize bss[i] = bi at *
      generalize l[i] = d at *
      generalize mkK shLayer l k i = ki at *
      obtain ⟨a1, a2, a3, a4, a5, au⟩ := d
      obtain ⟨_, _, _, _, rfl, ⟨rfl, rfl⟩, ⟨_, _, _, _, rfl, ⟨rfl, rfl⟩, ⟨_, _, _, _, rfl, ⟨rfl, rfl⟩, ⟨_, _, ba4, _, rfl, owa4, ⟨_, _, ba5, _, rfl, owa5, ⟨rfl, rfl⟩, rfl⟩, rfl⟩, rfl⟩, rfl⟩, rfl⟩ := ow
      obtain ⟨pa4, ca4, rfl, hla4⟩ := rep_val owa4.rep
      obtain ⟨pa5, ca5, rfl, hla5⟩ := rep_val owa5.rep
      simp only [List.cons_append, List.nil_append, List.append_nil] at hci hbi ndi hin hap
      obtain ⟨nd_1, ndi1, ap1, aq1⟩ := nodup_split ndi
      have nd_2 := ndi1
      have in_1 : ∀ b ∈ ba4, b ∈ bss.flatten := fun b hb => hin b (by simp [hb])
      have in_2 : ∀ b ∈ ba5, b ∈ bss.flatten := fun b hb => hin b (by simp [hb])
      have B1 := fun kk => mkV_bd (.sl .flt) (by decide) a4 kk
      have B2 := fun kk => mkV_bd (.sl .flt) (by decide) a5 kk
      have htot : tot shLayer (a1, a2, a3, a4, a5, au) = tot (.sl .flt) a4 + tot (.sl .flt) a5 := by simp only [tot]; omega
      rw [htot] at b2
      clear htot
      have hset : css.set i [.int .i64 a1, .int .i64 a2, .int .i64 a3, .slice pa4 (List.length a4) ca4, .slice pa5 (List.length a5) ca5] = css := by
        obtain ⟨hi9, he9⟩ := List.getElem?_eq_some_iff.1 hci
        rw [← he9]; exact List.set_getElem_self _
      have own_0 : OwnRow wr p n c (css.set i [.int .i64 a1, .int .i64 a2, .int .i64 a3, .slice pa4 (List.length a4) ca4, .slice pa5 (List.length a5) ca5]).flatten := by rw [hset]; exact own0
      have owa4_0 := owa4
      have owa5_0 := owa5
      have hall_0 : ∀ x ∈ css.set i [.int .i64 a1, .int .i64 a2, .int .i64 a3, .slice pa4 (List.length a4) ca4, .slice pa5 (List.length a5) ca5], x.length = Sh.sz shLayer := all_set h6 rfl
      have hlen_0 : (css.set i [.int .i64 a1, .int .i64 a2, .int .i64 a3, .slice pa4 (List.length a4) ca4, .slice pa5 (List.length a5) ca5]).length = n := (by rw [List.length_set]; exact h7)
      have hget_0 : (css.set i [.int .i64 a1, .int .i64 a2, .int .i64 a3, .slice pa4 (List.length a4) ca4, .slice pa5 (List.length a5) ca5])[i]? = some [.int .i64 a1, .int .i64 a2, .int .i64 a3, .slice pa4 (List.length a4) ca4, .slice pa5 (List.length a5) ca5] := List.getElem?_set_self (by omega)
      go_wp2_with (first
        | ((with_reducible (show wpList _ _ _ (Oper.mk _ (Op.indexAddr _ _ _) _ _ _ _ :: Oper.mk _ (Op.fieldAddr _ _ _) _ _ _ _ :: _) _ _)); refine wl_stField (f := 0) (off := 0) (j := i) (u := .int .i64 (ki)) rfl rfl rfl rfl rfl rfl (fun _ => rfl) (fun _ _ => rfl) fo_implLayer_0 rfl rfl rfl (fun _ _ => rfl) rfl own_0 hall_0 hlen_0 hlt (by decide) hget_0 ?_; intro w1 own_1' ch1; have own_1 : OwnRow w1 p n c (css.set i [.int .i64 (ki), .int .i64 a2, .int .i64 a3, .slice pa4 (List.length a4) ca4, .slice pa5 (List.length a5) ca5]).flatten := (by first | exact own_1' | (rw [List.set_set] at own_1'; exact own_1')); have owa4_1 := owa4_0.chg ch1 (fun b hb h => nd4 b (in_1 b hb) h); have owa5_1 := owa5_0.chg ch1 (fun b hb h => nd4 b (in_2 b hb) h); have hall_1 : ∀ x ∈ css.set i [.int .i64 (ki), .int .i64 a2, .int .i64 a3, .slice pa4 (List.length a4) ca4, .slice pa5 (List.length a5) ca5], x.length = Sh.sz shLayer := all_set h6 rfl; have hlen_1 : (css.set i [.int .i64 (ki), .int .i64 a2, .int .i64 a3, .slice pa4 (List.length a4) ca4, .slice pa5 (List.length a5) ca5]).length = n := (by rw [List.length_set]; exact h7); have hget_1 : (css.set i [.int .i64 (ki), .int .i64 a2, .int .i64 a3, .slice pa4 (List.length a4) ca4, .slice pa5 (List.length a5) ca5])[i]? = some [.int .i64 (ki), .int .i64 a2, .int .i64 a3, .slice pa4 (List.length a4) ca4, .slice pa5 (List.length a5) ca5] := List.getElem?_set_self (by omega))
        | ((with_reducible (show wpList _ _ _ (Oper.mk _ (Op.indexAddr _ _ _) _ _ _ _ :: Oper.mk _ (Op.fieldAddr _ _ _) _ _ _ _ :: _) _ _)); refine wl_stField (f := 1) (off := 1) (j := i) (u := .int .i64 (ki + 1)) rfl rfl rfl rfl rfl rfl (fun _ => rfl) (fun _ _ => rfl) fo_implLayer_1 rfl rfl rfl (fun _ _ => rfl) rfl own_1 hall_1 hlen_1 hlt (by decide) hget_1 ?_; intro w2 own_2' ch2; have own_2 : OwnRow w2 p n c (css.set i [.int .i64 (ki), .int .i64 (ki + 1), .int .i64 a3, .slice pa4 (List.length a4) ca4, .slice pa5 (List.length a5) ca5]).flatten := (by first | exact own_2' | (rw [List.set_set] at own_2'; exact own_2')); have owa4_2 := owa4_1.chg ch2 (fun b hb h => nd4 b (in_1 b hb) h); have owa5_2 := owa5_1.chg ch2 (fun b hb h => nd4 b (in_2 b hb) h); have hall_2 : ∀ x ∈ css.set i [.int .i64 (ki), .int .i64 (ki + 1), .int .i64 a3, .slice pa4 (List.length a4) ca4, .slice pa5 (List.length a5) ca5], x.length = Sh.sz shLayer := all_set h6 rfl; have hlen_2 : (css.set i [.int .i64 (ki), .int .i64 (ki + 1), .int .i64 a3, .slice pa4 (List.length a4) ca4, .slice pa5 (List.length a5) ca5]).length = n := (by rw [List.length_set]; exact h7); have hget_2 : (css.set i [.int .i64 (ki), .int .i64 (ki + 1), .int .i64 a3, .slice pa4 (List.length a4) ca4, .slice pa5 (List.length a5) ca5])[i]? = some [.int .i64 (ki), .int .i64 (ki + 1), .int .i64 a3, .slice pa4 (List.length a4) ca4, .slice pa5 (List.length a5) ca5] := List.getElem?_set_self (by omega))
        | ((with_reducible (show wpList _ _ _ (Oper.mk _ (Op.indexAddr _ _ _) _ _ _ _ :: Oper.mk _ (Op.fieldAddr _ _ _) _ _ _ _ :: _) _ _)); refine wl_stField (f := 2) (off := 2) (j := i) (u := .int .i64 (ki + 1 + 1)) rfl rfl rfl rfl rfl rfl (fun _ => rfl) (fun _ _ => rfl) fo_implLayer_2 rfl rfl rfl (fun _ _ => rfl) rfl own_2 hall_2 hlen_2 hlt (by decide) hget_2 ?_; intro w3 own_3' ch3; have own_3 : OwnRow w3 p n c (css.set i [.int .i64 (ki), .int .i64 (ki + 1), .int .i64 (ki + 1 + 1), .slice pa4 (List.length a4) ca4, .slice pa5 (List.length a5) ca5]).flatten := (by first | exact own_3' | (rw [List.set_set] at own_3'; exact own_3')); have owa4_3 := owa4_2.chg ch3 (fun b hb h => nd4 b (in_1 b hb) h); have owa5_3 := owa5_2.chg ch3 (fun b hb h => nd4 b (in_2 b hb) h); have hall_3 : ∀ x ∈ css.set i [.int .i64 (ki), .int .i64 (ki + 1), .int .i64 (ki + 1 + 1), .slice pa4 (List.length a4) ca4, .slice pa5 (List.length a5) ca5], x.length = Sh.sz shLayer := all_set h6 rfl; have hlen_3 : (css.set i [.int .i64 (ki), .int .i64 (ki + 1), .int .i64 (ki + 1 + 1), .slice pa4 (List.length a4) ca4, .slice pa5 (List.length a5) ca5]).length = n := (by rw [List.length_set]; exact h7); have hget_3 : (css.set i [.int .i64 (ki), .int .i64 (ki + 1), .int .i64 (ki + 1 + 1), .slice pa4 (List.length a4) ca4, .slice pa5 (List.length a5) ca5])[i]? = some [.int .i64 (ki), .int .i64 (ki + 1), .int .i64 (ki + 1 + 1), .slice pa4 (List.length a4) ca4, .slice pa5 (List.length a5) ca5] := List.getElem?_set_self (by omega))
        | ((with_reducible (show wpList _ _ _ (Oper.mk _ (Op.indexAddr _ _ _) _ _ _ _ :: Oper.mk _ (Op.fieldAddr _ _ _) _ _ _ _ :: _) _ _)); refine wl_ldField (f := 3) (off := 3) (j := i) rfl rfl rfl rfl rfl rfl (fun _ => rfl) (fun _ _ => rfl) fo_implLayer_3 rfl rfl rfl own_3.cs hall_3 hlen_3 hlt hs1 hget_3 rfl ?_)
        )
      have Bq1 := B1 (ki + 1 + 1 + 1)
      obtain ⟨kz1, hkz1⟩ : ∃ z, z = (mkV (.sl .flt) a4 (ki + 1 + 1 + 1)).2 := ⟨_, rfl⟩
      rw [← hkz1] at Bq1
      have HZ1 := hid hkz1
      clear hkz1
      refine (markFloat32S_ok [.slice pa4 (List.length a4) ca4] a4 ba4 (ki + 1 + 1 + 1) _ owa4_3 nd_1 (by omega) (by omega)).mono ?_
      rintro e w4 ⟨rfl, owa4_4, ch4⟩
      rw [← HZ1.out]
      have own_4 := own_3.chg ch4 (fun b hb h => nd3 b hb (in_1 b h))
      have owa5_4 := owa5_3.chg ch4 (fun b hb h => aq1 b (by simp [hb]) h)
      have hz1 : 0 ≤ kz1 := by omega
      have hall_4 : ∀ x ∈ css.set i [.int .i64 (ki), .int .i64 (ki + 1), .int .i64 (ki + 1 + 1), .slice pa4 (List.length a4) ca4, .slice pa5 (List.length a5) ca5], x.length = Sh.sz shLayer := all_set h6 rfl
      have hlen_4 : (css.set i [.int .i64 (ki), .int .i64 (ki + 1), .int .i64 (ki + 1 + 1), .slice pa4 (List.length a4) ca4, .slice pa5 (List.length a5) ca5]).length = n := (by rw [List.length_set]; exact h7)
      have hget_4 : (css.set i [.int .i64 (ki), .int .i64 (ki + 1), .int .i64 (ki + 1 + 1), .slice pa4 (List.length a4) ca4, .slice pa5 (List.length a5) ca5])[i]? = some [.int .i64 (ki), .int .i64 (ki + 1), .int .i64 (ki + 1 + 1), .slice pa4 (List.length a4) ca4, .slice pa5 (List.length a5) ca5] := List.getElem?_set_self (by omega)
      go_wp2_with (first
        | ((with_reducible (show wpList _ _ _ (Oper.mk _ (Op.indexAddr _ _ _) _ _ _ _ :: Oper.mk _ (Op.fieldAddr _ _ _) _ _ _ _ :: _) _ _)); refine wl_ldField (f := 4) (off := 4) (j := i) rfl rfl rfl rfl rfl rfl (fun _ => rfl) (fun _ _ => rfl) fo_implLayer_4 rfl rfl rfl own_4.cs hall_4 hlen_4 hlt hs1 hget_4 rfl ?_)
        )
      have Bq2 := B2 (kz1)
      obtain ⟨kz2, hkz2⟩ : ∃ z, z = (mkV (.sl .flt) a5 (kz1)).2 := ⟨_, rfl⟩
      rw [← hkz2] at Bq2
      have HZ2 := hid hkz2
      clear hkz2
      refine (markFloat32S_ok [.slice pa5 (List.length a5) ca5] a5 ba5 (kz1) _ owa5_4 nd_2 (by omega) (by omega)).mono ?_
      rintro e w5 ⟨rfl, owa5_5, ch5⟩
      rw [← HZ2.out]
      have own_5 := own_4.chg ch5 (fun b hb h => nd3 b hb (in_2 b h))
      have owa4_5 := owa4_4.chg ch5 (fun b hb h => ap1 b hb (by simp [h]))
      have hz2 : 0 ≤ kz2 := by omega
      have hall_5 : ∀ x ∈ css.set i [.int .i64 (ki), .int .i64 (ki + 1), .int .i64 (ki + 1 + 1), .slice pa4 (List.length a4) ca4, .slice pa5 (List.length a5) ca5], x.length = Sh.sz shLayer := all_set h6 rfl
      have hlen_5 : (css.set i [.int .i64 (ki), .int .i64 (ki + 1), .int .i64 (ki + 1 + 1), .slice pa4 (List.length a4) ca4, .slice pa5 (List.length a5) ca5]).length = n := (by rw [List.length_set]; exact h7)
      have hget_5 : (css.set i [.int .i64 (ki), .int .i64 (ki + 1), .int .i64 (ki + 1 + 1), .slice pa4 (List.length a4) ca4, .slice pa5 (List.length a5) ca5])[i]? = some [.int .i64 (ki), .int .i64 (ki + 1), .int .i64 (ki + 1 + 1), .slice pa4 (List.length a4) ca4, .slice pa5 (List.length a5) ca5] := List.getElem?_set_self (by omega)
      have ow9 : Own w5 shLayer [.int .i64 (ki), .int .i64 (ki + 1), .int .i64 (ki + 1 + 1), .slice pa4 (List.length a4) ca4, .slice pa5 (List.length a5) ca5] (mkE shLayer (a1, a2, a3, a4, a5, au) ki).1 ([] ++ ([] ++ ([] ++ (ba4 ++ (ba5 ++ ([])))))) := by
        have g2 := HZ2.out; subst g2; have g1 := HZ1.out; subst g1
        exact ⟨[.int .i64 (ki)], [.int .i64 (ki + 1), .int .i64 (ki + 1 + 1), .slice pa4 (List.length a4) ca4, .slice pa5 (List.length a5) ca5], [], ([] ++ ([] ++ (ba4 ++ (ba5 ++ ([]))))), rfl, ⟨rfl, rfl⟩, ⟨[.int .i64 (ki + 1)], [.int .i64 (ki + 1 + 1), .slice pa4 (List.length a4) ca4, .slice pa5 (List.length a5) ca5], [], ([] ++ (ba4 ++ (ba5 ++ ([])))), rfl, ⟨rfl, rfl⟩, ⟨[.int .i64 (ki + 1 + 1)], [.slice pa4 (List.length a4) ca4, .slice pa5 (List.length a5) ca5], [], (ba4 ++ (ba5 ++ ([]))), rfl, ⟨rfl, rfl⟩, ⟨[.slice pa4 (List.length a4) ca4], [.slice pa5 (List.length a5) ca5], ba4, (ba5 ++ ([])), rfl, owa4_5, ⟨[.slice pa5 (List.length a5) ca5], [], ba5, ([]), rfl, owa5_5, ⟨rfl, rfl⟩, rfl⟩, rfl⟩, rfl⟩, rfl⟩, rfl⟩
      simp only [List.nil_append, List.append_nil] at ow9
      have chT : Chg (fun b => b ∈ blocksOf p ++ (ba4 ++ (ba5))) wr w5 := Chg.trans (Chg.trans (Chg.trans (Chg.trans ((ch1.mono fun b hb => List.mem_append.2 (.inl hb))) (ch2.mono fun b hb => List.mem_append.2 (.inl hb))) (ch3.mono fun b hb => List.mem_append.2 (.inl hb))) (ch4.mono fun b hb => List.mem_append.2 (.inr (by simp [hb])))) (ch5.mono fun b hb => List.mem_append.2 (.inr (by simp [hb])))
      have es2 := H5.out.upd chT hbi (fun j bj hj hbj b hb hx => by
        rcases List.mem_append.1 hx with hx | hx
        · exact nd4 b (List.mem_flatten.2 ⟨bj, List.mem_of_getElem? hbj, hb⟩) hx
        · exact hap j bj hj hbj b hb hx) ow9
      have hc2 := hch.trans (chT.mono fun b hb => by
        rcases List.mem_append.1 hb with hx | hx
        · exact List.mem_append.2 (.inl hx)
        · exact List.mem_append.2 (.inr (hin b hx)))
      go_wp2
      go_roundw
      case rel => exact ⟨i + 1, _, by omega, by go_num, by rw [K1.out, HZ2.out, HZ1.out]; rfl, own_5, by rw [K2.out]; exact es2, hc2⟩
      case measure => simp [intOf]; omega
    · obtain rfl : i = n := by omega
      go_wp2
      go_ret
      have k1 := HL.out
      have k3 : mkTo shLayer l k i = (mkV shLayerS l k).1 := by rw [← k1]; exact mkTo_all _ l k
      have k4 : mkK shLayer l k i = (mkV shLayerS l k).2 := by rw [← k1]; exact mkK_all _ l k
      have k5 : (mkV shLayerS l k).1.length = i := by rw [← k3, length_mkTo]; exact k1
      refine ⟨by rw [k4]; rfl, own_sl.2 ⟨p, c, css, bss, ?_, by rw [k5]; exact own0, by rw [k5]; exact h3, h4, by rw [← k3]; exact H5.out, rfl⟩, hch⟩
      rw [k5]

end Go.Proofs.Ytlimabbeaimdgaa
/- The harness on structs: Model. -/
namespace Go.Proofs.Ytlimabbeaimdgaa
set_option linter.unusedSimpArgs false
set_option linter.unusedVariables false
open Go.RowKit

abbrev shModel : Sh := .pr shLayerS (.un)
theorem fo_implModel_0 (q : Addr) (w : World) : (Instr.fieldAt 33 (.pointer (some q)) 0).run Try.prog w = .ok (.pointer (some (q.add 0))) w := by go_simp
instance elStModelimpl : ElTy Try.prog 33 shModel := ⟨by kernel_rfl, by kernel_rfl⟩
theorem fo_lawsModel_0 (q : Addr) (w : World) : (Instr.fieldAt 24 (.pointer (some q)) 0).run Try.prog w = .ok (.pointer (some (q.add 0))) w := by go_simp
instance elStModellaws : ElTy Try.prog 24 shModel := ⟨by kernel_rfl, by kernel_rfl⟩

set_option maxRecDepth 100000 in
set_option maxHeartbeats 1000000 in
theorem eqModel_ok : EqOk 17 shModel := by
  intro cs cs' d w hu hv hn
  obtain ⟨a1, au⟩ := d
  obtain ⟨_, _, rfl, ha1, rfl⟩ := hu
  obtain ⟨pa1, ca1, rfl, hla1⟩ := rep_val ha1
  obtain ⟨_, _, rfl, hqa1, rfl⟩ := hv
  obtain ⟨pqa1, cqa1, rfl, hlqa1⟩ := rep_val hqa1
  have hba1 : tot shLayerS a1 ≤ 1048576 := by simp only [tot] at hn ⊢; omega
  simp only [ofCs, Sh.agg, List.cons_append, List.nil_append, if_true]
  go_enter Try.func17, Try.ntmps17
  go_wp2_with fail
  refine (eqLayerS_ok [.slice pa1 (List.length a1) ca1] [.slice pqa1 (List.length a1) cqa1] a1 _ (Rep.ext (w := w) ?_ (ha1 : Rep w shLayerS [.slice pa1 (List.length a1) ca1] a1)) (Rep.ext (w := w) ?_ (hqa1 : Rep w shLayerS [.slice pqa1 (List.length a1) cqa1] a1)) hba1).mono ?_
  · (repeat (first | with_reducible exact Ext.refl _ | with_reducible assumption | ((with_reducible refine Ext.setCell ?_ ?_ _); rotate_left; focus (first | (simp; done) | (simp; omega))) | (with_reducible refine Ext.trans ?_ (Ext.alloc _ _)) | (with_reducible refine Ext.trans ?_ (Ext.drew _)) | (with_reducible refine Ext.trans ?_ (by with_reducible assumption))))
  · (repeat (first | with_reducible exact Ext.refl _ | with_reducible assumption | ((with_reducible refine Ext.setCell ?_ ?_ _); rotate_left; focus (first | (simp; done) | (simp; omega))) | (with_reducible refine Ext.trans ?_ (Ext.alloc _ _)) | (with_reducible refine Ext.trans ?_ (Ext.drew _)) | (with_reducible refine Ext.trans ?_ (by with_reducible assumption))))
  rintro e w1 ⟨rfl, e1⟩
  have x1_0 := e1.cellOf (b := w.heap.size) (by first | (simp; done) | (simp; omega))
  have x1_1 := e1.cellOf (b := w.heap.size + 1) (by first | (simp; done) | (simp; omega))
  have y1 := e1.size
  go_wp2
  go_ret
  refine ⟨rfl, ?_⟩
  (repeat (first | with_reducible exact Ext.refl _ | with_reducible assumption | ((with_reducible refine Ext.setCell ?_ ?_ _); rotate_left; focus (first | (simp; done) | (simp; omega))) | (with_reducible refine Ext.trans ?_ (Ext.alloc _ _)) | (with_reducible refine Ext.trans ?_ (Ext.drew _)) | (with_reducible refine Ext.trans ?_ (by with_reducible assumption))))

set_option maxRecDepth 100000 in
set_option maxHeartbeats 1000000 in
theorem szModel_ok : SzOk 12 shModel := by
  intro cs d left w hu hl0 hl1
  obtain ⟨a1, au⟩ := d
  obtain ⟨_, _, rfl, ha1, rfl⟩ := hu
  obtain ⟨pa1, ca1, rfl, hla1⟩ := rep_val ha1
  simp only [ofCs, Sh.agg, List.cons_append, List.nil_append, if_true]
  generalize hT : tot shModel (a1, au) = T
  have HT := hid hT
  clear hT
  go_enter Try.func12, Try.ntmps12
  go_wp2_with fail
  refine (szLayerS_ok [.slice pa1 (List.length a1) ca1] a1 left _ (Rep.ext (w := w) ?_ (ha1 : Rep w shLayerS [.slice pa1 (List.length a1) ca1] a1)) (by omega) (by omega)).mono ?_
  · (repeat (first | with_reducible exact Ext.refl _ | with_reducible assumption | ((with_reducible refine Ext.setCell ?_ ?_ _); rotate_left; focus (first | (simp; done) | (simp; omega))) | (with_reducible refine Ext.trans ?_ (Ext.alloc _ _)) | (with_reducible refine Ext.trans ?_ (Ext.drew _)) | (with_reducible refine Ext.trans ?_ (by with_reducible assumption))))
  rintro e w1 ⟨⟨r1, rfl, hr1⟩, e1⟩
  have x1_0 := e1.cellOf (b := w.heap.size) (by first | (simp; done) | (simp; omega))
  have y1 := e1.size
  by_cases hn1 : r1 < 0
  · go_wp2
    go_ret
    refine ⟨⟨-1, rfl, .inl (by omega)⟩, ?_⟩
    (repeat (first | with_reducible exact Ext.refl _ | with_reducible assumption | ((with_reducible refine Ext.setCell ?_ ?_ _); rotate_left; focus (first | (simp; done) | (simp; omega))) | (with_reducible refine Ext.trans ?_ (Ext.alloc _ _)) | (with_reducible refine Ext.trans ?_ (Ext.drew _)) | (with_reducible refine Ext.trans ?_ (by with_reducible assumption))))
  have hq1 : r1 = left - (tot shLayerS a1 : Int) := by rcases hr1 with h | h; exact absurd h hn1; exact h.1
  have Hq1 := hid hq1
  have hz1 : 0 ≤ r1 := by omega
  have ht1 : r1 ≤ 1048576 := by omega
  clear hr1 hq1
  go_wp2
  go_ret
  refine ⟨⟨_, rfl, .inr ⟨?_, by omega⟩⟩, ?_⟩
  · have h0 := HT.out
    simp only [tot] at h0
    have h1 := Hq1.out
    simp only [tot] at h1
    omega
  · (repeat (first | with_reducible exact Ext.refl _ | with_reducible assumption | ((with_reducible refine Ext.setCell ?_ ?_ _); rotate_left; focus (first | (simp; done) | (simp; omega))) | (with_reducible refine Ext.trans ?_ (Ext.alloc _ _)) | (with_reducible refine Ext.trans ?_ (Ext.drew _)) | (with_reducible refine Ext.trans ?_ (by with_reducible assumption))))

set_option maxRecDepth 100000 in
set_option maxHeartbeats 1000000 in
theorem toModel_ok : ToOk 14 shModel := by
  intro cs d w hu hn
  obtain ⟨a1, au⟩ := d
  obtain ⟨_, _, rfl, ha1, rfl⟩ := hu
  obtain ⟨pa1, ca1, rfl, hla1⟩ := rep_val ha1
  have hba1 : tot shLayerS a1 ≤ 1048576 := by simp only [tot] at hn ⊢; omega
  simp only [ofCs, Sh.agg, List.cons_append, List.nil_append, if_true]
  go_enter Try.func14, Try.ntmps14
  go_wp2_with fail
  refine (toLayerS_ok [.slice pa1 (List.length a1) ca1] a1 _ (Rep.ext (w := w) ?_ (ha1 : Rep w shLayerS [.slice pa1 (List.length a1) ca1] a1)) hba1).mono ?_
  · (repeat (first | with_reducible exact Ext.refl _ | with_reducible assumption | ((with_reducible refine Ext.setCell ?_ ?_ _); rotate_left; focus (first | (simp; done) | (simp; omega))) | (with_reducible refine Ext.trans ?_ (Ext.alloc _ _)) | (with_reducible refine Ext.trans ?_ (Ext.drew _)) | (with_reducible refine Ext.trans ?_ (by with_reducible assumption))))
  rintro e w1 ⟨cs1, bs1, rfl, owna1, nd1, lo1, e1⟩
  obtain ⟨pqa1, cqa1, rfl, glqa1⟩ := rep_val owna1.rep
  have hqa1 := owna1.rep
  simp only [ofCs, Sh.agg, List.headD_cons, Bool.false_eq_true, if_false]
  have x1_0 := e1.cellOf (b := w.heap.size) (by first | (simp; done) | (simp; omega))
  have x1_1 := e1.cellOf (b := w.heap.size + 1) (by first | (simp; done) | (simp; omega))
  have x1_2 := e1.cellOf (b := w.heap.size + 2) (by first | (simp; done) | (simp; omega))
  have y1 := e1.size
  go_wp2
  refine bodyPost_ret (v := .agg #[.slice pqa1 (List.length a1) cqa1]) (by simp [results, Try.results14, go_sem, x1_0, x1_1, x1_2, y1]) rfl ?_
  generalize hW : World.setCell _ _ _ = W
  have eW : Ext w W := by subst hW; (repeat (first | with_reducible exact Ext.refl _ | with_reducible assumption | ((with_reducible refine Ext.setCell ?_ ?_ _); rotate_left; focus (first | (simp; done) | (simp; omega))) | (with_reducible refine Ext.trans ?_ (Ext.alloc _ _)) | (with_reducible refine Ext.trans ?_ (Ext.drew _)) | (with_reducible refine Ext.trans ?_ (by with_reducible assumption))))
  have ch1 : Chg (fun b => b < w.heap.size + 3) w1 W := by subst hW; (repeat (first | with_reducible exact Chg.refl _ _ | (with_reducible exact Chg.of_ext (by with_reducible assumption)) | with_reducible assumption | ((with_reducible refine Chg.setCell ?_ ?_ _); rotate_left; focus (first | (simp; done) | (simp; omega))) | (with_reducible refine Chg.alloc ?_ _) | (with_reducible refine Chg.drew ?_) | (with_reducible refine Chg.trans ?_ (Chg.of_ext (by with_reducible assumption)))))
  have owa1 : Own W shLayerS [.slice pqa1 (List.length a1) cqa1] a1 bs1 := owna1.chg ch1 (fun b hb => by have := lo1 b hb; simp at this; omega)
  refine ⟨[.slice pqa1 (List.length a1) cqa1], (bs1 ++ ([])), rfl, (⟨[.slice pqa1 (List.length a1) cqa1], [], bs1, ([]), rfl, owa1, ⟨rfl, rfl⟩, rfl⟩ : Own W shModel [.slice pqa1 (List.length a1) cqa1] (a1, au) _), ?_, ?_, eW⟩
  · simp only [List.nil_append, List.append_nil]
    exact nd1
  · intro b hb
    simp only [List.nil_append, List.append_nil, List.mem_append] at hb
    have := lo1 b hb; simp at this; omega

set_option maxRecDepth 100000 in
set_option maxHeartbeats 1000000 in
theorem markModel_ok : MarkOk 18 shModel := by
  intro cs d bs k w hu hnd hk0 hk
  obtain ⟨a1, au⟩ := d
  obtain ⟨_, _, ba1, _, rfl, owa1, ⟨rfl, rfl⟩, rfl⟩ := hu
  obtain ⟨pa1, ca1, rfl, hla1⟩ := rep_val owa1.rep
  simp only [List.nil_append, List.append_nil] at hnd
  simp only [ofCs, Sh.agg, List.cons_append, List.nil_append, if_true]
  have htot : tot shModel (a1, au) = tot shLayerS a1 := by simp only [tot]; omega
  rw [htot] at hk
  clear htot
  have B1 := mkV_bd shLayerS (by decide) a1 k
  have nd1 := hnd
  have lt1 := owa1.lt
  go_enter Try.func18, Try.ntmps18
  go_wp2_with fail
  refine (markLayerS_ok [.slice pa1 (List.length a1) ca1] a1 ba1 k _ (Own.ext (w := w) owa1 ?_) nd1 (by omega) (by omega)).mono ?_
  · (repeat (first | with_reducible exact Ext.refl _ | with_reducible assumption | ((with_reducible refine Ext.setCell ?_ ?_ _); rotate_left; focus (first | (simp; done) | (simp; omega))) | (with_reducible refine Ext.trans ?_ (Ext.alloc _ _)) | (with_reducible refine Ext.trans ?_ (Ext.drew _)) | (with_reducible refine Ext.trans ?_ (by with_reducible assumption))))
  rintro e w1 ⟨rfl, owa1_1, ch1⟩
  have x1_0 := ch1.cellOf (b := w.heap.size) (by first | (simp; done) | (simp; omega)) (fun h => by have := lt1 _ h; omega)
  have y1 := ch1.size
  have E0 := (fun W0 (_ : Chg (fun b => b ∈ ba1) W0 w1) (h : Ext w W0) => h) _ ch1 (by (repeat (first | with_reducible exact Ext.refl _ | with_reducible assumption | ((with_reducible refine Ext.setCell ?_ ?_ _); rotate_left; focus (first | (simp; done) | (simp; omega))) | (with_reducible refine Ext.trans ?_ (Ext.alloc _ _)) | (with_reducible refine Ext.trans ?_ (Ext.drew _)) | (with_reducible refine Ext.trans ?_ (by with_reducible assumption)))))
  go_wp2
  go_ret
  exact ⟨rfl, ⟨[.slice pa1 (List.length a1) ca1], [], ba1, [], rfl, owa1_1, ⟨rfl, rfl⟩, rfl⟩, (Chg.of_ext E0).trans (ch1.mono fun b hb => by simp [hb])⟩

end Go.Proofs.Ytlimabbeaimdgaa
/- The harness on structs: TrainState. -/
namespace Go.Proofs.Ytlimabbeaimdgaa
set_option linter.unusedSimpArgs false
set_option linter.unusedVariables false
open Go.RowKit

abbrev shTrainState : Sh := .pr shModel (.pr shFloat32SS (.pr .int (.pr .int (.pr .flt (.un)))))
end Go.Proofs.Ytlimabbeaimdgaa
/- Things that a law makes: results that are lists or structs, cells of variables under changes. -/
namespace Go.Proofs.Ytlimabbeaimdgaa
set_option linter.unusedSimpArgs false
set_option linter.unusedVariables false
open Go.RowKit

/-- A list or struct of one's own, and a word whether it went well. -/
def OutOk (w : World) (s : Sh) (r : s.T × Bool) (e : Ending) (w' : World) : Prop :=
  ∃ cs bs, e = .returned (.tuple #[ofCs s cs, .bool r.2]) ∧ Own w' s cs r.1 bs ∧ bs.Nodup ∧ (∀ b ∈ bs, w.heap.size ≤ b) ∧ Ext w w'
/-- Two of them. -/
def Out2 (w : World) (s t : Sh) (r : s.T × t.T × Bool) (e : Ending) (w' : World) : Prop :=
  ∃ c1 b1 c2 b2, e = .returned (.tuple #[ofCs s c1, ofCs t c2, .bool r.2.2]) ∧ Own w' s c1 r.1 b1 ∧ Own w' t c2 r.2.1 b2 ∧ (b1 ++ b2).Nodup ∧ (∀ b ∈ b1 ++ b2, w.heap.size ≤ b) ∧ Ext w w'
theorem own_nil {w : World} {e : Sh} : Own w (.sl e) [.slice none 0 0] [] [] :=
  own_sl.2 ⟨none, 0, [], [], rfl, .inl ⟨rfl, rfl, rfl, rfl⟩, Nat.le_refl _, Nat.zero_le _, ⟨rfl, rfl, fun i cs bs d h => by simp at h⟩, rfl⟩
theorem outOk_no {w : World} {e : Sh} {en : Ending} {w' : World} (h : en = .returned (.tuple #[.slice none 0 0, .bool false])) (hx : Ext w w') : OutOk w (.sl e) ([], false) en w' :=
  ⟨[.slice none 0 0], [], h, own_nil, by simp, by simp, hx⟩
theorem Cs.blkLt {w : World} {b : Nat} {cs : List Value} (h : Cs w (some ⟨b, 0, none⟩) cs) (hl : 0 < cs.length) : b < w.heap.size := by
  have := h.blk (List.ne_nil_of_length_pos hl)
  rwa [adr_row] at this
theorem Cs.chgB {S : Nat → Prop} {w w' : World} {b : Nat} {cs : List Value} (h : Cs w (some ⟨b, 0, none⟩) cs) (k : Chg S w w') (hb : b < w.heap.size) (hn : ¬ S b) : Cs w' (some ⟨b, 0, none⟩) cs :=
  ⟨fun i u hu => by
    have := h.1 i u hu
    rw [adr_row] at this ⊢
    rw [(k.cellOf hb hn).1]; exact this, h.2⟩
/-- A new block that is written is no change of what was there. -/
theorem Ext.of_chg1 {w w' : World} {o : Obj} (ch : Chg (fun b => b = w.heap.size) (w.alloc o) w') : Ext w w' := (Ext.alloc w o).chg ch (fun b hb => by subst hb; exact Nat.le_refl _)
end Go.Proofs.Ytlimabbeaimdgaa
/- slices.IndexFunc and slices.ContainsFunc: whatever the predicate's function is. -/
namespace Go.Proofs.Ytlimabbeaimdgaa
set_option linter.unusedSimpArgs false
set_option linter.unusedVariables false
open Go.RowKit

/-- Some place before n. -/
def anyTo (q : Nat → Bool) : Nat → Bool
  | 0 => false
  | n + 1 => anyTo q n || q n
theorem anyTo_true {q : Nat → Bool} : ∀ {n : Nat}, anyTo q n = true ↔ ∃ i, i < n ∧ q i = true
  | 0 => by simp [anyTo]
  | n + 1 => by
    rw [anyTo, Bool.or_eq_true, anyTo_true]
    constructor
    · rintro (⟨i, h1, h2⟩ | h)
      · exact ⟨i, by omega, h2⟩
      · exact ⟨n, by omega, h⟩
    · rintro ⟨i, h1, h2⟩
      by_cases hi : i = n
      · subst hi; exact .inr h2
      · exact .inl ⟨i, by omega, h2⟩
theorem anyTo_false {q : Nat → Bool} {n : Nat} (h : ∀ i, i < n → q i = false) : anyTo q n = false := by
  rw [← Bool.not_eq_true, anyTo_true]; rintro ⟨i, h1, h2⟩; rw [h i h1] at h2; cases h2
/-- What is asked of the predicate's function. -/
def PredOk (fn : Nat) (cap : Array Value) (vs : List Value) (q : Nat → Bool) (w : World) : Prop :=
  ∀ (i : Nat) (u : Value) (W : World), vs[i]? = some u → Ext w W → Calls Try.prog fn (#[u] ++ cap) W fun e w' => e = .returned (.bool (q i)) ∧ Ext W w'

set_option maxRecDepth 100000 in
set_option maxHeartbeats 1000000 in
theorem indexFuncF32_any (fn : Nat) (cap : Array Value) (eg : ∀ args w, (callFunc fn args).run Try.prog w = .ok (.enter fn args) w) (p : Option Addr) (n c : Nat) (vs : List Value) (q : Nat → Bool) (w : World) (hv : vs.length = n) (hn : n ≤ maxLen) (hc : Cs w p vs) (hq : PredOk fn cap vs q w) :
    Calls Try.prog 140 #[.slice p n c, .func (.func fn) #[] cap] w fun e w' => ∃ z : Int, e = .returned (.int .i64 z) ∧ (0 ≤ z ↔ anyTo q n = true) ∧ Ext w w' := by
  have Hv := hid hv
  have Hq := hid hq
  clear hv hq
  unfold maxLen at hn
  go_enter Try.func140, Try.ntmps140
  go_wp2
  go_loopw [8] (fun iv wr => ∃ i : Nat, i ≤ n ∧ iv = .int .i64 i ∧ Hid (∀ j, j < i → q j = false) ∧ Ext w wr) (fun iv _ => n - (intOf iv).toNat)
  case atStart => exact ⟨0, by omega, rfl, fun j hj => by omega, Ext.refl w⟩
  case round =>
    obtain ⟨i, hi, rfl, Hall, he⟩ := hrel
    by_cases hlt : i < n
    · have hp' := hc.ext he
      have hvi : i < vs.length := by rw [Hv.out]; exact hlt
      have hu : vs[i]? = some vs[i] := by simp
      have hcall := Hq.out i vs[i] wr hu he
      cases hqi : q i with
      | true =>
        have Hqi := hid hqi
        clear hqi
        rw [Hqi.out] at hcall
        go_wp2_with (first | (go_at_fn fn; refine hcall.mono ?_; rintro e w1 ⟨rfl, e1⟩) | (refine wl_idxload rfl rfl rfl rfl (fun _ => rfl) rfl rfl hp' Hv.out (by omega) (by omega) ?_; intro u hu'; rw [Int.toNat_natCast, hu] at hu'; cases hu'))
        go_ret
        refine ⟨i, rfl, ⟨fun _ => anyTo_true.2 ⟨i, hlt, Hqi.out⟩, fun _ => by omega⟩, he.trans e1⟩
      | false =>
        have Hqi := hid hqi
        clear hqi
        rw [Hqi.out] at hcall
        go_wp2_with (first | (go_at_fn fn; refine hcall.mono ?_; rintro e w1 ⟨rfl, e1⟩) | (refine wl_idxload rfl rfl rfl rfl (fun _ => rfl) rfl rfl hp' Hv.out (by omega) (by omega) ?_; intro u hu'; rw [Int.toNat_natCast, hu] at hu'; cases hu'))
        go_roundw
        case rel =>
          refine ⟨i + 1, by omega, by go_num, fun j hj => ?_, he.trans e1⟩
          by_cases hji : j = i
          · subst hji; exact Hqi.out
          · exact Hall j (by omega)
        case measure => simp [intOf]; omega
    · obtain rfl : i = n := by omega
      go_wp2
      go_ret
      exact ⟨-1, rfl, by rw [anyTo_false Hall.out]; simp, he⟩
set_option maxRecDepth 100000 in
set_option maxHeartbeats 1000000 in
theorem containsFuncF32_any (fn : Nat) (cap : Array Value) (eg : ∀ args w, (callFunc fn args).run Try.prog w = .ok (.enter fn args) w) (p : Option Addr) (n c : Nat) (vs : List Value) (q : Nat → Bool) (w : World) (hv : vs.length = n) (hn : n ≤ maxLen) (hc : Cs w p vs) (hq : PredOk fn cap vs q w) :
    Calls Try.prog 82 #[.slice p n c, .func (.func fn) #[] cap] w fun e w' => e = .returned (.bool (anyTo q n)) ∧ Ext w w' := by
  have hcall := indexFuncF32_any fn cap eg p n c vs q w hv hn hc hq
  generalize anyTo q n = b at *
  clear hv hc hq eg
  go_enter Try.func82, Try.ntmps82
  go_wp2_with fail
  refine hcall.mono ?_
  rintro e w1 ⟨z, rfl, hz, he⟩
  have Hz := hid hz
  clear hz
  go_wp2
  go_ret
  refine ⟨ret_bool ?_, he⟩
  have := Hz.out
  cases b <;> simp at this <;> simp <;> omega
end Go.Proofs.Ytlimabbeaimdgaa
