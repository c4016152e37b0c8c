/- A part of the proofs: Clo, Fwd7, Fwd8, Fwd9, Fwd10, Stg, InOut. -/
import Derived.Test.YtbdcjhhphkckcaaKd
import Derived.Test.YtbdcjhhphkckcaaKc
import Derived.Test.YtbdcjhhphkckcaaKb
/- Lists of numbers, cloned. -/
namespace Go.Proofs.Ytbdcjhhphkckcaa
set_option linter.unusedSimpArgs false
set_option linter.unusedVariables false
open Go.RowKit

theorem retFl_nil {w w' : World} {e : Ending} (he : e = .returned (.slice none 0 0)) (hx : Ext w w') : RetFl w [] e w' :=
  ⟨none, 0, [], he, ⟨rfl, .inl ⟨rfl, rfl⟩⟩, F32s.nil, hx⟩
set_option maxRecDepth 100000 in
set_option maxHeartbeats 1000000 in
theorem cloneF_any (p : Option Addr) (n c : Nat) (us : List Value) (xs : List Nat) (w : World) (hx : xs.length = n) (hn : n ≤ 1073741824) (hc : n ≤ c) (hp : Cs w p us) (hf : F32s us xs) : Calls Try.prog 106 #[.slice p n c] w (RetFl w xs) := by
  have o1 := hid hf.one
  have u1 := hf.1
  cases p with
  | none =>
    have h0 : us = [] := Classical.byContradiction fun h => by have := hp.isS h; simp at this
    subst h0
    obtain rfl : xs = [] := List.eq_nil_of_length_eq_zero (by simpa using u1.symm)
    obtain rfl : n = 0 := by simpa using hx.symm
    clear hp hf o1 u1
    go_enter Try.func106, Try.ntmps106
    go_wp2
    go_ret
    exact retFl_nil rfl (Ext.refl _)
  | some ad =>
    have hstart : (w.alloc (.cells #[] 22)).ownsRow w.heap.size 22 1 (.slice (some ⟨w.heap.size, 0, none⟩) 0 0) 0 [] := World.ownsRow_made w #[] 0 (Nat.le_refl _) (by decide) rfl
    have e0 := Ext.alloc w (.cells #[] 22)
    have HX := hid hx
    have U1 := hid u1
    clear hx u1
    go_enter Try.func106, Try.ntmps106
    go_wp2_with ((with_reducible show wpList _ _ _ (Oper.mk _ (Op.call _) _ _ _ _ :: _) _ _); refine wl_appz rfl rfl rfl rfl hstart (hp.ext e0) (by rw [U1.out, HX.out, Nat.mul_one]) hc o1.out (by unfold maxLen; omega) (by omega) (by simp) ?_; intro v1 w1 own1 g1)
    go_ret
    rw [Nat.zero_add, List.nil_append] at own1
    exact retFl_of HX.out own1 hf rfl (e0.grown g1 (fun k hk => own_le hstart k hk))
end Go.Proofs.Ytbdcjhhphkckcaa
/- The forward pass: normed numbers. -/
namespace Go.Proofs.Ytbdcjhhphkckcaa
set_option linter.unusedSimpArgs false
set_option linter.unusedVariables false
open Go.RowKit

section
variable {P : Program} {w : World} {ops : Array Oper} {rest : List Oper} {o : Oper} {a : Act} {Q : Exit → Act → World → Prop}
/-- A store to an element of a row of the call's own. -/
theorem wl_stP {e : Nat} [Cell1 P e] {x y : Operand} (hg : o.guard = none) (ho : o.op = .store e x y)
    {p : Option Addr} {n c B i : Nat} {u : Value} (hx : a.eval x = .pointer (some (adr p i))) (hy : a.eval y = u) (hu1 : u.oneCell' = true) {vs : List Value} (hc : w.ownsRow B e 1 (.slice p n c) n vs) (hn : i < n)
    (h : ∀ w', w'.ownsRow B e 1 (.slice p n c) n (vs.set i u) → w.grownBy w' (Value.slice p n c).ownBlock → wpList P ops Q rest (a.put o.dst undef) w') : wpList P ops Q (o :: rest) a w := by
  obtain ⟨g, rfl⟩ := own_some hc (by omega)
  have hlen : vs.length = n := by have := hc.1; omega
  have hcell : w.cell? (adr (some ⟨g, 0, none⟩) i) = some (vs[i]'(by omega)) := by
    rw [adr_row, hc.cellAt _ (by omega)]; simp [hlen, hn]
  have hfr : w.frozen? (adr (some ⟨g, 0, none⟩) i) = false := by rw [adr_row]; exact hc.frozenAt _
  have hst := hc.stored i u
  rw [← adr_row] at hst
  refine wl_skip hg (w' := w.setCell (adr (some ⟨g, 0, none⟩) i) u) ?_ (h _ hst.1 hst.2)
  simp [execOp, ho, hx, hy, run_store1 hcell hfr hu1]
end

def nM (xs : List Nat) : Nat := fop .quo .f32 (sumG (fun j => xs.getD j 0) xs.length) (floatOfInt .f32 (xs.length : Int))
def nD (xs : List Nat) (i : Nat) : Nat := fop .sub .f32 (xs.getD i 0) (nM xs)
def nR (xs : List Nat) : Nat := rootF (fop .add .f32 (fop .quo .f32 (dotG (nD xs) (nD xs) xs.length) (floatOfInt .f32 (xs.length : Int))) 981467136)
def nO (ws bs xs : List Nat) (i : Nat) : Nat := fop .add .f32 (fop .mul .f32 (fop .quo .f32 (nD xs i) (nR xs)) (ws.getD i 0)) (bs.getD i 0)
def normF (ws bs xs : List Nat) : List Nat := tab xs.length (nO ws bs xs)
theorem cn_near32 (n : Int) : cn .f32 (floatOfInt .f32 n) = floatOfInt .f32 n := cn_nearest .f32 n
theorem cn_eps : cn .f32 981467136 = 981467136 := by decide +kernel

end Go.Proofs.Ytbdcjhhphkckcaa
/- The forward pass: one layer. -/
namespace Go.Proofs.Ytbdcjhhphkckcaa
set_option linter.unusedSimpArgs false
set_option linter.unusedVariables false
open Go.RowKit

section
variable {P : Program} {w wf : World} {ops : Array Oper} {rest : List Oper} {o : Oper} {a : Act} {Q : Act → Prop} {F : Option Tmp → World → World → Value → Prop}
/-- A part of a slice, in a region whose order is drawn. -/
theorem x_slice {t e s b : Nat} {z : Value} [T : SlTy P t e s z b] {x lo hi : Operand} (hw : Region.wanted o (yielded ops a.tmps) = true) (ho : o.op = .slice t x (some lo) (some hi) none) {p : Option Addr} {n c : Nat} {k1 k2 : IntKind} {li ui : Int} {l u : Nat}
    (hx : a.eval x = .slice p n c) (hlo : a.eval lo = .int k1 li) (hhi : a.eval hi = .int k2 ui) (h1 : li = l) (h2 : ui = u) (h3 : l ≤ u) (h4 : u ≤ c)
    (h : wpX P ops F w wf Q rest (a.put o.dst (.slice (subp p s l c) (u - l) (c - l)))) : wpX P ops F w wf Q (o :: rest) a := by
  subst h1; subst h2
  exact x_pure hw (fun w1 _ => by simp [execOp, ho, hx, hlo, hhi, run_slice h3 h4]) h
end
theorem F32s.part {us : List Value} {xs : List Nat} (h : F32s us xs) (l u : Nat) : F32s ((us.take u).drop l) ((xs.take u).drop l) := by
  refine ⟨by simp [h.1], fun i hi => ?_⟩
  simp only [List.length_drop, List.length_take] at hi
  obtain ⟨b, h1, h2⟩ := h.2 (l + i) (by omega)
  refine ⟨b, ?_, ?_⟩
  · rw [List.getElem?_drop, List.getElem?_take_of_lt (by omega)]; exact h1
  · rw [h2, List.getD_eq_getElem?_getD, List.getD_eq_getElem?_getD, List.getElem?_drop, List.getElem?_take_of_lt (by omega)]
theorem part_get {xs : List Nat} {l u i : Nat} (h : l + i < u) : ((xs.take u).drop l).getD i 0 = xs.getD (l + i) 0 := by
  rw [List.getD_eq_getElem?_getD, List.getD_eq_getElem?_getD, List.getElem?_drop, List.getElem?_take_of_lt h]

/-- One number that a layer makes: dense, greater than nought, scaled, tangent. -/
def rO (k : Int) (n : Nat) (ws bs xs : List Nat) (j : Nat) : Nat :=
  if k = 0 then fop .add .f32 (dotG (fun t => ws.getD (j * n + t) 0) (fun t => xs.getD t 0) n) (bs.getD j 0)
  else if k = 1 then reluF (xs.getD j 0)
  else if k = 2 then fop .mul .f32 (ws.getD j 0) (xs.getD j 0)
  else tanF (xs.getD j 0)
/-- What a layer makes of a row. -/
def runF (k : Int) (n m : Nat) (ws bs xs : List Nat) : List Nat :=
  if k = 4 then softF xs else if k = 5 then normF ws bs xs else tab m (rO k n ws bs xs)
/-- The counts of a valid layer. -/
theorem lay_of {k : Int} {n m nw nb : Nat} (h : layB k n m nw nb = true) : (k = 0 ∨ k = 1 ∨ k = 2 ∨ k = 3 ∨ k = 4 ∨ k = 5) ∧ 1 ≤ n ∧ n ≤ 8 ∧ 1 ≤ m ∧ m ≤ 8 ∧ (k = 0 ∨ n = m) ∧ (k = 0 → nw = n * m ∧ nb = m) ∧ (k = 2 → n = nw) ∧ (k = 5 → n = nw ∧ n = nb) := by
  unfold layB inB at h
  simp only [Bool.and_eq_true, decide_eq_true_eq, Bool.or_eq_true] at h
  obtain ⟨h1, h2, h3, h4, h5, h6⟩ := h
  refine ⟨by omega, by omega, by omega, by omega, by omega, by omega, ?_, ?_, ?_⟩
  · rintro rfl
    simp only [wCnt, bCnt, if_true] at h5 h6
    exact ⟨by exact_mod_cast h5, by omega⟩
  · rintro rfl
    simp [wCnt] at h5
    omega
  · rintro rfl
    simp [wCnt, bCnt] at h5 h6
    omega

end Go.Proofs.Ytbdcjhhphkckcaa
/- The forward pass: one layer, the second program. -/
namespace Go.Proofs.Ytbdcjhhphkckcaa
set_option linter.unusedSimpArgs false
set_option linter.unusedVariables false
open Go.RowKit

end Go.Proofs.Ytbdcjhhphkckcaa
/- The forward pass: a layer as a thing. -/
namespace Go.Proofs.Ytbdcjhhphkckcaa
set_option linter.unusedSimpArgs false
set_option linter.unusedVariables false
open Go.RowKit

def layF (d : shLayer.T) (xs : List Nat) : List Nat := runF d.1 d.2.1.toNat d.2.2.1.toNat d.2.2.2.1 d.2.2.2.2.1 xs
theorem layD_int {d : shLayer.T} (h : layD d = true) : (d.2.1.toNat : Int) = d.2.1 ∧ (d.2.2.1.toNat : Int) = d.2.2.1 ∧ d.2.1.toNat ≤ 8 ∧ 1 ≤ d.2.1.toNat ∧ d.2.2.1.toNat ≤ 8 ∧ 1 ≤ d.2.2.1.toNat := by
  unfold layD layB inB at h
  simp only [Bool.and_eq_true, decide_eq_true_eq] at h
  omega
theorem softF_len (xs : List Nat) : (softF xs).length = xs.length := tab_len _ _
theorem normF_len (ws bs xs : List Nat) : (normF ws bs xs).length = xs.length := tab_len _ _
theorem layF_len {d : shLayer.T} (h : layD d = true) {xs : List Nat} (hx : (xs.length : Int) = d.2.1) : ((layF d xs).length : Int) = d.2.2.1 := by
  obtain ⟨a1, a2, _⟩ := layD_int h
  have h' : layB d.1 d.2.1.toNat d.2.2.1.toNat d.2.2.2.1.length d.2.2.2.2.1.length = true := by rw [a1, a2]; exact h
  obtain ⟨b0, _, _, _, _, b5, _⟩ := lay_of h'
  unfold layF runF
  split
  · rw [softF_len]; rcases b5 with b | b <;> omega
  · split
    · rw [normF_len]; rcases b5 with b | b <;> omega
    · rw [tab_len]; exact a2
theorem layers_at {w : World} {q : Addr} {cs : List Value} {d : shLayer.T} (h : Rep w shLayer cs d) (g : ∀ (j : Nat) (v : Value), cs[j]? = some v → w.cell? (q.add j) = some v) : Calls Try.prog 110 #[.pointer (some q)] w (RetB w (layD d)) := by
  obtain ⟨pw, cw, pb, cb, rfl, k1, k2⟩ := lay_vals h
  exact l03Layer_any (sp := q.spot) q.block q.off d.1 d.2.1 d.2.2.1 pw pb _ cw _ cb w (g 0 _ rfl) (g 1 _ rfl) (g 2 _ rfl) (g 3 _ rfl) (g 4 _ rfl) k1 k2
theorem valid_at {w : World} {cs : List Value} {d : shLayer.T} (h : Rep w shLayer cs d) : Calls Try.prog 112 #[.agg cs.toArray] w (RetB w (layD d)) := by
  obtain ⟨pw, cw, pb, cb, rfl, k1, k2⟩ := lay_vals h
  exact ValidLayer_any d.1 d.2.1 d.2.2.1 pw pb _ cw _ cb w k1 k2
theorem cs_add {w : World} {q : Addr} {cs : List Value} (h : Cs w (some q) cs) (j : Nat) (v : Value) (hv : cs[j]? = some v) : w.cell? (q.add j) = some v := h.cell j v hv
/-- A list of numbers and a word. -/
theorem out_flts {w w' : World} {xs : List Nat} {e : Ending} {q : Option Addr} {c : Nat} {vs : List Value} (h : w'.ownsRow w.heap.size 22 1 (.slice q xs.length c) xs.length vs) (hf : F32s vs xs) (he : e = .returned (.tuple #[.slice q xs.length c, .bool true])) (hx : Ext w w') : OutOk w (.sl .flt) (xs, true) e w' := by
  have h1 := own_flts.2 ⟨q, c, vs, rfl, ownRow_of h, hf, (own_cap h).1, (own_cap h).2, rfl⟩
  refine ⟨[.slice q xs.length c], _, he, h1, ?_, ?_, hx⟩
  · cases q <;> simp [blocksOf]
  · intro b hb
    cases q with
    | none => simp [blocksOf] at hb
    | some a => simp [blocksOf] at hb; subst hb; exact own_le h _ rfl
end Go.Proofs.Ytbdcjhhphkckcaa
/- The forward pass: layer after layer. -/
namespace Go.Proofs.Ytbdcjhhphkckcaa
set_option linter.unusedSimpArgs false
set_option linter.unusedVariables false
open Go.RowKit

/-- What the first layers make of a row. -/
def curF (l : List shLayer.T) (x : List Nat) (i : Nat) : List Nat := (l.take i).foldl (fun y d => layF d y) x
theorem curF_zero (l : List shLayer.T) (x : List Nat) : curF l x 0 = x := rfl
theorem curF_succ {l : List shLayer.T} (x : List Nat) {i : Nat} (h : i < l.length) : curF l x (i + 1) = layF l[i] (curF l x i) := by
  unfold curF
  rw [List.take_add_one, List.getElem?_eq_getElem h, List.foldl_append]; rfl
/-- What layer i gets, what the last one gives. -/
def inL (l : List shLayer.T) (i : Nat) : Int := (l[i]?.map fun d => d.2.1).getD 0
def outL (l : List shLayer.T) : Int := (l[l.length - 1]?.map fun d => d.2.2.1).getD 0
theorem modGo_all {l : List shLayer.T} : ∀ {i : Nat} {p : Option Int}, modGo p l = true → ∀ (h : i < l.length), layD l[i] = true ∧ ∀ (h' : i + 1 < l.length), l[i + 1].2.1 = l[i].2.2.1 := by
  induction l with
  | nil => intro i p _ h; simp at h
  | cons d t ih =>
    intro i p hm h
    simp only [modGo, Bool.and_eq_true] at hm
    obtain ⟨h1, h2, h3⟩ := hm
    cases i with
    | zero =>
      refine ⟨h1, fun h' => ?_⟩
      cases t with
      | nil => simp at h'
      | cons d2 t2 =>
        simp only [modGo, Bool.and_eq_true, linkL, decide_eq_true_eq] at h3
        exact h3.2.1
    | succ i =>
      have := ih (i := i) h3 (by simpa using h)
      simpa using this
structure ModOk (l : List shLayer.T) : Prop where
  pos : 1 ≤ l.length
  few : l.length ≤ 6
  lay : ∀ i (h : i < l.length), layD l[i] = true
  link : ∀ i (h : i + 1 < l.length), l[i + 1].2.1 = (l[i]'(by omega)).2.2.1
theorem modOk {l : List shLayer.T} (h : modB l = true) : ModOk l := by
  unfold modB at h
  simp only [Bool.and_eq_true, decide_eq_true_eq] at h
  obtain ⟨h1, h2, h3⟩ := h
  exact ⟨h1, h2, fun i hi => (modGo_all h3 hi).1, fun i hi => (modGo_all h3 (by omega)).2 hi⟩
theorem cur_len {l : List shLayer.T} (h : ModOk l) {x : List Nat} (hx : (x.length : Int) = inL l 0) : ∀ i (hi : i < l.length), ((curF l x i).length : Int) = l[i].2.1
  | 0, hi => by rw [curF_zero, hx]; unfold inL; simp [hi]
  | i + 1, hi => by
    rw [curF_succ x (by omega), h.link i hi]
    exact layF_len (h.lay i (by omega)) (cur_len h hx i (by omega))
theorem cur_out {l : List shLayer.T} (h : ModOk l) {x : List Nat} (hx : (x.length : Int) = inL l 0) : ((curF l x l.length).length : Int) = outL l := by
  have hp := h.pos
  obtain ⟨n, hn⟩ : ∃ n, l.length = n + 1 := ⟨l.length - 1, by omega⟩
  have h1 : ((curF l x (n + 1)).length : Int) = (l[n]'(by omega)).2.2.1 := by
    rw [curF_succ x (by omega)]
    exact layF_len (h.lay n (by omega)) (cur_len h hx n (by omega))
  unfold outL
  rw [hn, h1]
  simp [show n < l.length by omega]
/-- The stages. -/
def stF (l : List shLayer.T) (x : List Nat) (i : Nat) : List (List Nat) := (List.range i).map fun j => curF l x (j + 1)
theorem stF_len (l : List shLayer.T) (x : List Nat) (i : Nat) : (stF l x i).length = i := by simp [stF]
theorem stF_succ (l : List shLayer.T) (x : List Nat) (i : Nat) : stF l x (i + 1) = stF l x i ++ [curF l x (i + 1)] := by simp [stF, List.range_succ]

/-- A list of numbers of one's own, as a thing. -/
theorem retFl_thing {w w' : World} {xs : List Nat} {e : Ending} (h : RetFl w xs e w') : ∃ q c bs, e = .returned (.slice q xs.length c) ∧ Own w' (.sl .flt) [.slice q xs.length c] xs bs ∧ bs.Nodup ∧ (∀ b ∈ bs, w.heap.size ≤ b) ∧ Ext w w' := by
  obtain ⟨q, c, vs, he, ho, hf, hx⟩ := h
  refine ⟨q, c, blocksOf q, he, own_flts.2 ⟨q, c, vs, rfl, ownRow_of ho, hf, (own_cap ho).1, (own_cap ho).2, rfl⟩, ?_, ?_, hx⟩
  · cases q <;> simp [blocksOf]
  · intro b hb
    cases q with
    | none => simp [blocksOf] at hb
    | some a => simp [blocksOf] at hb; subst hb; exact own_le ho _ rfl
theorem rep_flt1 {w : World} {q : Option Addr} {n c : Nat} {xs : List Nat} (h : Rep w (.sl .flt) [.slice q n c] xs) : ∃ us, xs.length = n ∧ Cs w q us ∧ F32s us xs ∧ xs.length ≤ c := by
  obtain ⟨q', c', us, h1, h2, h3, h4, _⟩ := rep_flts.1 h
  simp only [List.cons.injEq, Value.slice.injEq, and_true] at h1
  obtain ⟨rfl, rfl, rfl⟩ := h1
  exact ⟨us, rfl, h2, h3, h4⟩
/-- The last element of a list that grows. -/
theorem GrowOwn.last {w : World} {B : Nat} {te : TypeId} {E : Sh} {v : Value} {l : List E.T} {css : List (List Value)} {bss : List (List Nat)} {cs : List Value} {d : E.T} {bs : List Nat} (h : GrowOwn w B te E v (l ++ [d]) (css ++ [cs]) (bss ++ [bs])) (h1 : css.length = l.length) (h2 : bss.length = l.length) : Rep w E cs d :=
  (h.els.2.2 l.length cs bs d (by rw [← h1]; simp) (by rw [← h2]; simp) (by simp)).rep

set_option maxRecDepth 100000 in
set_option maxHeartbeats 1000000 in
theorem l02Own_any (p : Option Addr) (n c : Nat) (us : List Value) (xs : List Nat) (w : World) (hx : xs.length = n) (hn : n ≤ 1073741824) (hc : n ≤ c) (hp : Cs w p us) (hf : F32s us xs) : Calls Try.prog 135 #[.slice p n c] w (RetFl w xs) := by
  have hstart : (w.alloc (.cells #[] 22)).ownsRow w.heap.size 22 1 (.slice (some ⟨w.heap.size, 0, none⟩) 0 0) 0 [] := World.ownsRow_made w #[] 0 (Nat.le_refl _) (by decide) rfl
  have e0 := Ext.alloc w (.cells #[] 22)
  have o1 := hid hf.one
  have u1 := hf.1
  have U1 := hid u1
  have HX := hid hx
  clear hx u1
  go_enter Try.func135, Try.ntmps135
  go_wp2_with ((with_reducible show wpList _ _ _ (Oper.mk _ (Op.call _) _ _ _ _ :: _) _ _); refine wl_appz rfl rfl rfl rfl hstart (hp.ext e0) (by rw [U1.out, HX.out, Nat.mul_one]) hc o1.out (by unfold maxLen; omega) (by omega) (by simp) ?_; intro v1 w1 own1 g1)
  go_ret
  rw [Nat.zero_add, List.nil_append] at own1
  exact retFl_of HX.out own1 hf rfl (e0.grown g1 (fun k hk => own_le hstart k hk))
end Go.Proofs.Ytbdcjhhphkckcaa
/- What a model takes and gives. -/
namespace Go.Proofs.Ytbdcjhhphkckcaa
set_option linter.unusedSimpArgs false
set_option linter.unusedVariables false
open Go.RowKit

/-- A layer of a list, its cells. -/
theorem Lays.at {w : World} {p : Option Addr} {n : Nat} {css : List (List Value)} {l : List shLayer.T} (h : Lays w p n css l) {i : Nat} (hi : i < n) : ∃ ci, css[i]? = some ci ∧ ci[1]? = some (.int .i64 (inL l i)) ∧ ci[2]? = some (.int .i64 ((l[i]?.map fun d => d.2.2.1).getD 0)) ∧ p.isSome = true := by
  have hl := h.len
  obtain ⟨ci, hci, ri⟩ := h.all.get i (l[i]'(by omega)) (by simp)
  have hs := h.cs.some_of h.size (by decide) (show i < css.length by rw [h.cnt]; exact hi)
  obtain ⟨pw, cw, pb, cb, rfl, _, _⟩ := lay_vals ri
  exact ⟨_, hci, by unfold inL; simp [show i < l.length by omega], by simp [show i < l.length by omega], hs⟩
theorem outL_eq {l : List shLayer.T} {n : Nat} (h : l.length = n) : ((l[n - 1]?.map fun d => d.2.2.1).getD 0) = outL l := by subst h; rfl
end Go.Proofs.Ytbdcjhhphkckcaa
