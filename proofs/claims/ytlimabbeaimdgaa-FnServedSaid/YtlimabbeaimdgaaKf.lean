/- A part of the proofs: RowT, Row, RowM, RowS, AggW, RgS. -/
import Derived.Test.YtlimabbeaimdgaaKc
import Derived.Test.YtlimabbeaimdgaaKe
import Derived.Test.YtlimabbeaimdgaaKb
/- Rows of tensors. -/
namespace Go.Proofs.Ytlimabbeaimdgaa
set_option linter.unusedSimpArgs false
set_option linter.unusedVariables false
open Go.RowKit

/-- A row of a tensor. -/
def rowT (xs : List Nat) (c i : Nat) : List Nat := (xs.take ((i + 1) * c)).drop (i * c)
theorem row_le {r c i : Nat} (hi : i < r) : (i + 1) * c ≤ r * c := Nat.mul_le_mul_right c hi
theorem rowT_len {xs : List Nat} {c i r : Nat} (h : xs.length = r * c) (hi : i < r) : (rowT xs c i).length = c := by
  unfold rowT
  rw [List.length_drop, List.length_take, h, Nat.min_eq_left (row_le hi), Nat.add_mul]
  omega
/-- What a model makes of the first rows. -/
def rowsM (l : List shLayer.T) (xs : List Nat) (c r : Nat) : List Nat := ((List.range r).map fun i => curF l (rowT xs c i) l.length).flatten
theorem rowsM_zero (l : List shLayer.T) (xs : List Nat) (c : Nat) : rowsM l xs c 0 = [] := rfl
theorem rowsM_succ (l : List shLayer.T) (xs : List Nat) (c r : Nat) : rowsM l xs c (r + 1) = rowsM l xs c r ++ curF l (rowT xs c r) l.length := by
  simp [rowsM, List.range_succ]
theorem rowsM_len {l : List shLayer.T} {xs : List Nat} {c R m : Nat} (hM : ModOk l) (hc : (c : Int) = inL l 0) (hm : (m : Int) = outL l) (hx : xs.length = R * c) : ∀ r, r ≤ R → (rowsM l xs c r).length = r * m
  | 0, _ => by simp [rowsM_zero]
  | r + 1, h => by
    have h1 := cur_out hM (x := rowT xs c r) (by rw [rowT_len hx (by omega)]; exact hc)
    rw [rowsM_succ, List.length_append, rowsM_len hM hc hm hx r (by omega), Nat.add_mul]
    omega
/-- What comes out of a valid model is not much. -/
theorem outL_nat {l : List shLayer.T} (hM : ModOk l) : ∃ m : Nat, (m : Int) = outL l ∧ 1 ≤ m ∧ m ≤ 8 := by
  have hp := hM.pos
  obtain ⟨n, hn⟩ : ∃ n, l.length = n + 1 := ⟨l.length - 1, by omega⟩
  have h1 := layD_int (hM.lay n (by omega))
  have h2 : outL l = (l[n]'(by omega)).2.2.1 := by
    unfold outL
    simp [hn, show n < l.length by omega]
  exact ⟨(outL l).toNat, by omega, by omega, by omega⟩
theorem tenB_of {r c : Int} {n : Nat} (h : tenB r c n = true) : ∃ R C : Nat, r = R ∧ c = C ∧ 1 ≤ R ∧ R ≤ 16 ∧ 1 ≤ C ∧ C ≤ 16 ∧ n = R * C := by
  unfold tenB at h
  simp only [Bool.and_eq_true, inB_true, decide_eq_true_eq] at h
  obtain ⟨⟨h1, h2⟩, h3⟩ := h
  obtain ⟨R, rfl⟩ := Int.eq_ofNat_of_zero_le (show 0 ≤ r by omega)
  obtain ⟨C, rfl⟩ := Int.eq_ofNat_of_zero_le (show 0 ≤ c by omega)
  exact ⟨R, C, rfl, rfl, by omega, by omega, by omega, by omega, by exact_mod_cast h3⟩
theorem cell_le {R C i : Nat} (hi : i < R) (hR : R ≤ 16) (hC : C ≤ 16) : (i + 1) * C ≤ R * C ∧ R * C ≤ 256 ∧ i * C ≤ (i + 1) * C ∧ (i + 1) * C - i * C = C := by
  have h1 := row_le (c := C) hi
  have h2 := Nat.mul_le_mul hR hC
  rw [Nat.add_mul] at *
  omega
/-- A tensor of one's own. -/
theorem own_ten {w : World} {r c : Int} {q : Option Addr} {n cp : Nat} {xs : List Nat} {bs : List Nat} (e : xs.length = n) (h : Own w (.sl .flt) [.slice q n cp] xs bs) : Own w shTensor [.int .i64 r, .int .i64 c, .slice q n cp] (r, c, xs, ()) bs := by
  subst e
  exact ⟨[.int .i64 r], [.int .i64 c, .slice q xs.length cp], [], bs, rfl, ⟨rfl, rfl⟩, ⟨[.int .i64 c], [.slice q xs.length cp], [], bs, rfl, ⟨rfl, rfl⟩, ⟨[.slice q xs.length cp], [], bs, [], rfl, h, ⟨rfl, rfl⟩, by simp⟩, rfl⟩, rfl⟩
theorem out_no_ten {w : World} {en : Ending} {w' : World} (h : en = .returned (.tuple #[.agg #[.int .i64 0, .int .i64 0, .slice none 0 0], .bool false])) (hx : Ext w w') : OutOk w shTensor ((0, 0, [], ()), false) en w' :=
  ⟨[.int .i64 0, .int .i64 0, .slice none 0 0], [], h, own_ten rfl own_nil, by simp, by simp, hx⟩
/-- The values of a tensor. -/
theorem ten_vals {w : World} {cs : List Value} {d : shTensor.T} (h : Rep w shTensor cs d) : ∃ p c us, cs = [.int .i64 d.1, .int .i64 d.2.1, .slice p d.2.2.1.length c] ∧ Cs w p us ∧ F32s us d.2.2.1 ∧ (d.2.2.1 : List Nat).length ≤ c ∧ c ≤ maxLen := by
  obtain ⟨d1, d2, d3, _⟩ := d
  obtain ⟨_, _, rfl, rfl, _, _, rfl, rfl, _, _, rfl, h3, rfl⟩ := h
  obtain ⟨p, c, us, rfl, hp, hf, hc, hn⟩ := rep_flts.1 h3
  exact ⟨p, c, us, rfl, hp, hf, hc, hn⟩
end Go.Proofs.Ytlimabbeaimdgaa
/- Rows of tensors, taken out; rows through a model. -/
namespace Go.Proofs.Ytlimabbeaimdgaa
set_option linter.unusedSimpArgs false
set_option linter.unusedVariables false
open Go.RowKit

set_option maxRecDepth 100000 in
set_option maxHeartbeats 1000000 in
theorem row_any (R C i n cp : Nat) (p : Option Addr) (w : World) (hi : i < R) (hR : R ≤ 16) (hC : C ≤ 16) (hn : n = R * C) (hcp : n ≤ cp) :
    Calls Try.prog 98 #[.agg #[.int .i64 R, .int .i64 C, .slice p n cp], .int .i64 i] w fun e w' => e = .returned (.slice (subp p 1 (i * C) cp) C (cp - i * C)) ∧ Ext w w' := by
  obtain ⟨h1, h2, h3, h4⟩ := cell_le (C := C) hi hR hC
  have q1 : IntKind.i64.wrap ((i : Int) * C) = ((i * C : Nat) : Int) := by rw [← Int.natCast_mul]; exact wrap_in _ (by omega) (by omega)
  have q2 : IntKind.i64.wrap ((i : Int) + 1) = ((i + 1 : Nat) : Int) := by rw [show (i : Int) + 1 = ((i + 1 : Nat) : Int) by omega]; exact wrap_in _ (by omega) (by omega)
  have q3 : IntKind.i64.wrap (((i : Int) + 1) * C) = (((i + 1) * C : Nat) : Int) := by rw [show ((i : Int) + 1) * C = (((i + 1) * C : Nat) : Int) by push_cast; rfl]; exact wrap_in _ (by omega) (by omega)
  generalize hA : i * C = A at *
  generalize hB : (i + 1) * C = B at *
  have h5 : A ≤ B := h3
  have h6 : B ≤ cp := by omega
  have H4 := hid h4
  clear hA hB
  go_enter Try.func98, Try.ntmps98
  go_wp2_with (refine wl_slice (l := A) (u := B) rfl rfl rfl rfl rfl (by first | rfl | exact q1) (by first | rfl | exact q3) h5 h6 ?_)
  go_ret
  exact ⟨rfl, Ext.alloc _ _⟩
/-- A list of numbers of one's own, as a value. -/
def IsFl (B : Nat) (xs : List Nat) (w : World) (u : Value) : Prop := ∃ q c vs, u = .slice q xs.length c ∧ w.ownsRow B 49 1 (.slice q xs.length c) xs.length vs ∧ F32s vs xs
theorem IsFl.ext {B : Nat} {xs : List Nat} {w w' : World} {u : Value} (h : IsFl B xs w u) (e : Ext w w') : IsFl B xs w' u := by
  obtain ⟨q, c, vs, h1, h2, h3⟩ := h
  exact ⟨q, c, vs, h1, own_ext h2 e, h3⟩
theorem IsFl.base {B B' : Nat} {xs : List Nat} {w : World} {u : Value} (h : IsFl B xs w u) (hB : B' ≤ B) : IsFl B' xs w u := by
  obtain ⟨q, c, vs, h1, h2, h3⟩ := h
  exact ⟨q, c, vs, h1, own_base h2 hB, h3⟩
theorem IsFl.ret {xs : List Nat} {w w' : World} {u : Value} {e : Ending} (h : IsFl w.heap.size xs w' u) (he : e = .returned u) (hx : Ext w w') : RetFl w xs e w' := by
  obtain ⟨q, c, vs, rfl, h2, h3⟩ := h
  exact ⟨q, c, vs, he, h2, h3, hx⟩
theorem RetFl.is {w w' : World} {xs : List Nat} {e : Ending} (h : RetFl w xs e w') : ∃ u, e = .returned u ∧ Ext w w' ∧ IsFl w.heap.size xs w' u := by
  obtain ⟨q, c, vs, he, h2, h3, hx⟩ := h
  exact ⟨_, he, hx, q, c, vs, rfl, h2, h3⟩
theorem calls_fl {P : Program} {f : Nat} {xs : Array Value} {wB w1 : World} {ys : List Nat} (hB : Ext wB w1) (h : Calls P f xs w1 (RetFl w1 ys)) : Calls P f xs w1 fun e w3 => ∃ u, e = .returned u ∧ Ext w1 w3 ∧ IsFl wB.heap.size ys w3 u :=
  h.mono fun e w3 h => by
    obtain ⟨u, h1, h2, h3⟩ := h.is
    exact ⟨u, h1, h2, h3.base hB.size⟩
theorem row_cs {w : World} {p : Option Addr} {us : List Value} {C i cp : Nat} (hp : Cs w p us) (h : (i + 1) * C ≤ cp) : Cs w (subp p 1 (i * C) cp) ((us.take ((i + 1) * C)).drop (i * C)) := by
  have := hp.sub (s := 1) (l := i * C) (hi := (i + 1) * C) (c := cp) (by rw [Nat.add_mul]; omega) h
  simpa only [Nat.mul_one] using this
end Go.Proofs.Ytlimabbeaimdgaa
/- Rows of a tensor through a model. -/
namespace Go.Proofs.Ytlimabbeaimdgaa
set_option linter.unusedSimpArgs false
set_option linter.unusedVariables false
open Go.RowKit

theorem cell_of_heap {w : World} {b : Nat} {Z : Array Value} {t : TypeId} {j : Nat} {v : Value} (h : w.heap[b]? = some (.cells Z t)) (hv : Z[j]? = some v) : w.cell? ⟨b, j, none⟩ = some v := by simp [World.cell?, h, hv]
theorem frozen_of_heap {w : World} {b : Nat} {Z : Array Value} {t : TypeId} {j : Nat} (h : w.heap[b]? = some (.cells Z t)) : w.frozen? ⟨b, j, none⟩ = false := by simp [World.frozen?, h]
theorem box2 {w W0 : World} {A B : Array Value} {ta tb : TypeId} (h : W0 = (w.alloc (.cells A ta)).alloc (.cells B tb)) : Ext w W0 ∧ W0.heap.size = w.heap.size + 2 ∧ W0.heap[w.heap.size]? = some (.cells A ta) ∧ W0.heap[w.heap.size + 1]? = some (.cells B tb) := by
  subst h
  have e1 := Ext.alloc w (.cells A ta)
  have e2 := Ext.alloc (w.alloc (.cells A ta)) (.cells B tb)
  refine ⟨e1.trans e2, by simp, ?_, ?_⟩
  · rw [e2.block _ (by simp)]; exact heap_alloc_new w _
  · have := heap_alloc_new (w.alloc (.cells A ta)) (.cells B tb)
    simpa using this
theorem box3 {w W0 : World} {A B C : Array Value} {ta tb tc : TypeId} (h : W0 = ((w.alloc (.cells A ta)).alloc (.cells B tb)).alloc (.cells C tc)) : Ext w W0 ∧ W0.heap.size = w.heap.size + 3 ∧ W0.heap[w.heap.size]? = some (.cells A ta) ∧ W0.heap[w.heap.size + 1]? = some (.cells B tb) ∧ W0.heap[w.heap.size + 2]? = some (.cells C tc) := by
  subst h
  obtain ⟨h1, h2, h3, h4⟩ := box2 (w := w) (A := A) (B := B) (ta := ta) (tb := tb) rfl
  have e3 := Ext.alloc ((w.alloc (.cells A ta)).alloc (.cells B tb)) (.cells C tc)
  refine ⟨h1.trans e3, by simp, ?_, ?_, ?_⟩
  · rw [e3.block _ (by simp; omega)]; exact h3
  · rw [e3.block _ (by simp)]; exact h4
  · have := heap_alloc_new ((w.alloc (.cells A ta)).alloc (.cells B tb)) (.cells C tc)
    simpa using this
section
variable {P : Program} {w wf : World} {ops : Array Oper} {rest : List Oper} {o : Oper} {a : Act} {Q : Act → Prop} {F : Option Tmp → World → World → Value → Prop}
/-- A new variable, in a region whose order is drawn. -/
theorem x_alloc {t : TypeId} {Z : Array Value} (hw : Region.wanted o (yielded ops a.tmps) = true) (hr : ∀ w1, (execOp a.eval o).run P w1 = .ok (.value (.pointer (some ⟨w1.heap.size, 0, none⟩))) (w1.alloc (.cells Z t)))
    (h : ∀ b, w.heap.size ≤ b → b < wf.heap.size → wf.heap[b]? = some (.cells Z t) → wpX P ops F w wf Q rest (a.put o.dst (.pointer (some ⟨b, 0, none⟩)))) : wpX P ops F w wf Q (o :: rest) a :=
  x_made (V := fun wf u => ∃ b, u = .pointer (some ⟨b, 0, none⟩) ∧ w.heap.size ≤ b ∧ b < wf.heap.size ∧ wf.heap[b]? = some (.cells Z t)) hw
    (fun w1 e1 => ⟨_, _, hr w1, Ext.alloc _ _, fun wf hf => ⟨w1.heap.size, rfl, e1.size, Nat.lt_of_lt_of_le (by simp) hf.size, by rw [hf.block _ (by simp)]; exact heap_alloc_new w1 _⟩⟩)
    (fun u ⟨b, h1, h2, h3, h4⟩ => by subst h1; exact h b h2 h3 h4)
end
theorem growBase {w : World} {B B' : Nat} {te : TypeId} {E : Sh} {v : Value} {l : List E.T} {css : List (List Value)} {bss : List (List Nat)} (h : GrowOwn w B te E v l css bss) (hB : B' ≤ B) : GrowOwn w B' te E v l css bss :=
  ⟨own_base h.row hB, h.els, h.nodup, fun b hb => ⟨Nat.le_trans hB (h.lo b hb).1, (h.lo b hb).2⟩⟩
theorem own_chgB {S : Nat → Prop} {w w' : World} {B e s n : Nat} {v : Value} {vs : List Value} (h : w.ownsRow B e s v n vs) (k : Chg S w w') (hS : ∀ b, S b → b < B) : w'.ownsRow B e s v n vs := by
  obtain ⟨h1, h2⟩ := h
  refine ⟨h1, ?_⟩
  rcases h2 with h2 | ⟨g, cap, cur, hv, hg, hh, r⟩
  · exact .inl h2
  · have hlt : g < w.heap.size := by
      rcases Nat.lt_or_ge g w.heap.size with h' | h'
      · exact h'
      · simp [Array.getElem?_eq_none h'] at hh
    exact .inr ⟨g, cap, cur, hv, hg, by rw [k.block g hlt (fun hs => by have := hS g hs; omega)]; exact hh, r⟩
theorem own_slice {w : World} {B e s n : Nat} {v : Value} {vs : List Value} (h : w.ownsRow B e s v n vs) : ∃ q c, v = .slice q n c := by
  rcases h.2 with ⟨h1, h2⟩ | ⟨g, cap, cur, h1, _⟩
  · exact ⟨none, 0, by rw [h1, h2]⟩
  · exact ⟨_, _, h1⟩
/-- The stages, as a value; the last of them. -/
def IsSt (B : Nat) (l : List (List Nat)) (w : World) (u : Value) : Prop := ∃ css bss, GrowOwn w B 43 (.sl .flt) u l css bss
theorem IsSt.ext {B : Nat} {l : List (List Nat)} {w w' : World} {u : Value} (h : IsSt B l w u) (e : Ext w w') : IsSt B l w' u := by
  obtain ⟨css, bss, hg⟩ := h
  exact ⟨css, bss, hg.ext e⟩
theorem IsSt.last {B : Nat} {l : List shLayer.T} {x : List Nat} {n : Nat} {w : World} {u : Value} (h : IsSt B (stF l x n) w u) (hn : 1 ≤ n) : ∃ (p : Option Addr) (k : Nat) (q : Option Addr) (m cq : Nat) (css : List (List Value)), u = .slice p n k ∧ Cs w p css.flatten ∧ (∀ c ∈ css, c.length = 1) ∧ css.length = n ∧ p.isSome = true ∧ css[n - 1]? = some [.slice q m cq] ∧ Rep w (.sl .flt) [.slice q m cq] (curF l x n) := by
  obtain ⟨css, bss, hg⟩ := h
  have hrow := hg.row
  rw [stF_len] at hrow
  have hall := hg.els.all
  have k1 := hg.els.1
  have k2 := hg.els.2.1
  rw [stF_len] at k1 k2
  have hr := (hg.els.2.2 (n - 1) (css[n - 1]'(by omega)) (bss[n - 1]'(by omega)) (curF l x n) (by simp) (by simp) (by
    unfold stF; rw [List.getElem?_map, List.getElem?_range (by omega)]; simp [show n - 1 + 1 = n by omega])).rep
  obtain ⟨q, cq, us, hc, hrest⟩ := rep_flts.1 hr
  obtain ⟨p, k, rfl⟩ : ∃ p k, u = .slice p n k := by
    rcases hrow.2 with ⟨h1, h2⟩ | ⟨g, cap, cur, h1, _⟩
    · exact ⟨none, 0, by rw [h1, h2]⟩
    · exact ⟨_, _, h1⟩
  have hp := own_Cs hrow
  refine ⟨p, k, q, _, cq, css, rfl, hp, hall, k1, ?_, by rw [← hc]; simp, by rw [← hc]; exact hr⟩
  exact hp.some_of (s := 1) (i := 0) hall (by decide) (by omega)
theorem rep_row {w : World} {p : Option Addr} {us : List Value} {xs : List Nat} {C i R cp : Nat} (hp : Cs w p us) (hf : F32s us xs) (hx : xs.length = R * C) (hi : i < R) (hcp : R * C ≤ cp) (hcm : cp ≤ maxLen) : Rep w (.sl .flt) [.slice (subp p 1 (i * C) cp) C (cp - i * C)] (rowT xs C i) := by
  have hl := rowT_len hx hi
  have h1 := row_le (c := C) hi
  have h2 : (i + 1) * C = i * C + C := by rw [Nat.add_mul]; omega
  refine rep_flts.2 ⟨_, _, _, by rw [hl], row_cs hp (by omega), hf.part _ _, by rw [hl]; omega, by omega⟩
/-- A tensor of one's own, returned. -/
def RetTen (w : World) (r c : Int) (xs : List Nat) (e : Ending) (w' : World) : Prop :=
  ∃ q cp vs, e = .returned (.agg #[.int .i64 r, .int .i64 c, .slice q xs.length cp]) ∧ w'.ownsRow w.heap.size 49 1 (.slice q xs.length cp) xs.length vs ∧ F32s vs xs ∧ Ext w w'
theorem RetTen.of {w w' : World} {r c : Int} {xs : List Nat} {v : Value} {vs : List Value} {n : Nat} {e : Ending} (hl : xs.length = n) (h : w'.ownsRow w.heap.size 49 1 v n vs) (hf : F32s vs xs) (he : e = .returned (.agg #[.int .i64 r, .int .i64 c, v])) (hx : Ext w w') : RetTen w r c xs e w' := by
  obtain ⟨q, cp, us, h1, h2, h3, h4⟩ := retFl_of hl h hf (e := .returned v) rfl hx
  simp only [Ending.returned.injEq] at h1
  subst h1
  exact ⟨q, cp, us, he, h2, h3, h4⟩
theorem app_row {A : List Nat} {n m : Nat} (h : A.length = n * m) : (n + 1) * m = n * m + m := by rw [Nat.add_mul]; omega
set_option maxRecDepth 100000 in
set_option maxHeartbeats 4000000 in
theorem runModel_any (p q0 : Option Addr) (n c cp R C : Nat) (css : List (List Value)) (l : List shLayer.T) (us : List Value) (xs : List Nat) (w : World) (L : Lays w p n css l) (hM : ModOk l) (hx : (C : Int) = inL l 0)
    (hR1 : R ≤ 16) (hC : C ≤ 16) (hxs : xs.length = R * C) (hcp : R * C ≤ cp) (hcm : cp ≤ maxLen) (hp : Cs w q0 us) (hf : F32s us xs) :
    Calls Try.prog 101 #[.agg #[.slice p n c], .agg #[.int .i64 R, .int .i64 C, .slice q0 (R * C) cp]] w (RetTen w R (outL l) (rowsM l xs C R)) := by
  obtain ⟨m, hm, hm1, hm8⟩ := outL_nat hM
  have hlen := rowsM_len hM hx hm hxs
  have hn : n ≤ 6 := by have := hM.few; rw [L.len] at this; exact this
  have hn1 : 1 ≤ n := by have := hM.pos; rw [L.len] at this; exact this
  have A := hid (fun W (h : Ext w W) => out_any p n c css l W (L.ext h) hn1)
  rw [← hm] at A ⊢
  have B := hid (fun i (hi : i < R) W (h : Ext w W) => row_any R C i (R * C) cp q0 W hi hR1 hC rfl hcp)
  have D := hid (fun i (hi : i < R) W (h : Ext w W) => stages_any p (subp q0 1 (i * C) cp) n c C (cp - i * C) css l (rowT xs C i) W (L.ext h) hM (rep_row (hp.ext h) hf hxs hi hcp hcm) (by rw [rowT_len hxs hi]; exact hx))
  have HL := hid L.len
  have Hlen := hid hlen
  have Hs := hid (fun r => rowsM_succ l xs C r)
  have hRC : R * C ≤ 256 := Nat.mul_le_mul hR1 hC
  have Hcur := hid (fun i (hi : i < R) => show (curF l (rowT xs C i) n).length = m by
    have h1 := cur_out hM (x := rowT xs C i) (by rw [rowT_len hxs hi]; exact hx)
    rw [L.len] at h1
    omega)
  clear L hM hx hlen hm hp hf hxs
  generalize R * C = kk at *
  obtain ⟨W0, hW0⟩ : ∃ W0, W0 = ((w.alloc (.cells #[.slice p n c] 33)).alloc (.cells #[.int .i64 R, .int .i64 C, .slice q0 kk cp] 57)).alloc (.cells #[.int .i64 0, .int .i64 0, .slice none 0 0] 57) := ⟨_, rfl⟩
  obtain ⟨E0, s0, b0, b1, b2⟩ := box3 hW0
  have a0 : W0.cell? ⟨w.heap.size, 0, none⟩ = some (.slice p n c) := cell_of_heap b0 rfl
  have t0 : W0.cell? ⟨w.heap.size + 1, 0, none⟩ = some (.int .i64 R) := cell_of_heap b1 rfl
  have t1 : W0.cell? ⟨w.heap.size + 1, 1, none⟩ = some (.int .i64 C) := cell_of_heap b1 rfl
  have t2 : W0.cell? ⟨w.heap.size + 1, 2, none⟩ = some (.slice q0 kk cp) := cell_of_heap b1 rfl
  have z0 : W0.cell? ⟨w.heap.size + 2, 0, none⟩ = some (.int .i64 0) := cell_of_heap b2 rfl
  have z1 : W0.cell? ⟨w.heap.size + 2, 1, none⟩ = some (.int .i64 0) := cell_of_heap b2 rfl
  have z2 : W0.cell? ⟨w.heap.size + 2, 2, none⟩ = some (.slice none 0 0) := cell_of_heap b2 rfl
  have y0 := fun j => frozen_of_heap b2 (j := j)
  clear b0 b1 b2
  go_enter Try.func101, Try.ntmps101
  go_wp2
  rw [← hW0]
  clear hW0
  have e1 := Ext.drew W0
  have a1 := e1.cell a0
  have u0 := e1.cell t0
  obtain ⟨F, hF⟩ : ∃ F : Option Tmp → World → Value → Prop, F = fun _ _ u => u = .int .i64 m := ⟨_, rfl⟩
  have HF := hid hF
  clear hF
  refine wp_region_xt 6 (F := F) (by kernel_rfl) (by kernel_rfl) (by kernel_rfl) (by kernel_rfl) (by kernel_rfl) ?_
  intro wf hwf
  simp only [List.take_succ_cons, List.take_zero, List.drop_succ_cons, List.drop_zero]
  repeat (first
    | (refine x_skip rfl ?_; simp only [Act.put, ev_tmp, List.setIfInBounds_toArray, List.set_cons_succ, List.set_cons_zero, List.getD_cons_succ, List.getD_cons_zero])
    | (refine x_mv rfl rfl rfl ?_; simp only [Act.put, ev_tmp, List.setIfInBounds_toArray, List.set_cons_succ, List.set_cons_zero, List.getD_cons_succ, List.getD_cons_zero])
    | (refine x_as rfl rfl rfl ?_; simp only [Act.put, ev_tmp, List.setIfInBounds_toArray, List.set_cons_succ, List.set_cons_zero, List.getD_cons_succ, List.getD_cons_zero])
    | ((with_reducible show wpX _ _ _ _ _ _ (Oper.mk _ (Op.call _) _ _ _ _ :: _) _); refine x_callf (f := 149) (args := #[.agg #[.slice p n c]]) rfl rfl Try.func149 rfl (by kernel_rfl) ?_ ?_ ?_; (focus (simp [Act.eval]; done)); (focus (intro w1 hw1; exact (by rw [HF.out]; exact (A.out w1 (E0.trans (e1.trans hw1))).mono fun e w3 h => ⟨_, h.1, h.2, rfl⟩))); rintro u w3 e3 e4 hu; simp only [HF.out] at hu; subst hu; simp only [Act.put, ev_tmp, List.setIfInBounds_toArray, List.set_cons_succ, List.set_cons_zero, List.getD_cons_succ, List.getD_cons_zero])
    | ((with_reducible show wpX _ _ _ _ _ _ (Oper.mk _ (Op.alloc _) _ _ _ _ :: _) _); refine x_alloc (t := 57) (Z := #[.int .i64 0, .int .i64 0, .slice none 0 0]) rfl (fun w1 => by go_simp) ?_; intro b hb1 hb2 hb3; simp only [Act.put, ev_tmp, List.setIfInBounds_toArray, List.set_cons_succ, List.set_cons_zero, List.getD_cons_succ, List.getD_cons_zero])
    | (refine x_run rfl fun K hK w1 hw1 => ?_; have k0 := hw1.cell (a1); have k1 := hw1.cell (u0); go_simp; refine hK _ ?_; clear hK K k0 k1 hw1 w1))
  refine x_nil ?_
  have E1 := e1.trans hwf
  have o0 : wf.cell? ⟨b, 0, none⟩ = some (.int .i64 0) := cell_of_heap hb3 rfl
  have o1 : wf.cell? ⟨b, 1, none⟩ = some (.int .i64 0) := cell_of_heap hb3 rfl
  have o2 : wf.cell? ⟨b, 2, none⟩ = some (.slice none 0 0) := cell_of_heap hb3 rfl
  have o3 := fun j => frozen_of_heap hb3 (j := j)
  have x0 := E1.cell t0
  have hb1' : w.heap.size + 3 ≤ b := by have := e1.size; omega
  clear hb3 a1 u0
  go_wp2
  go_loopw [15] (fun iv wr => ∃ (r : Nat) (v : Value) (vs : List Value), r ≤ R ∧ iv = .int .i64 r ∧ wr.cell? ⟨b, 0, none⟩ = some (.int .i64 R) ∧ wr.cell? ⟨b, 1, none⟩ = some (.int .i64 m) ∧ wr.cell? ⟨b, 2, none⟩ = some v ∧ wr.frozen? ⟨b, 2, none⟩ = false ∧ wr.ownsRow (b + 1) 49 1 v (r * m) vs ∧ Hid (F32s vs (rowsM l xs C r)) ∧ Ext W0 wr ∧ b < wr.heap.size) (fun iv _ => R - (intOf iv).toNat)
  case atStart => exact ⟨0, .slice none 0 0, [], by omega, rfl, by go_simp, by go_simp, by go_simp, by go_simp, ⟨by simp, .inl ⟨rfl, by simp⟩⟩, F32s.nil, by (repeat (first | with_reducible exact Ext.refl _ | with_reducible assumption | ((with_reducible refine Ext.setCell ?_ ?_ _); rotate_left; focus (first | (simp; done) | (simp; omega))) | (with_reducible refine Ext.trans ?_ (Ext.alloc _ _)) | (with_reducible refine Ext.trans ?_ (Ext.drew _)) | (with_reducible refine Ext.trans ?_ (by with_reducible assumption)))), by simpa using hb2⟩
  case round =>
    clear o0 o1 o2 o3 x0 E1 hwf hb2
    obtain ⟨r, v, vs, hr, rfl, k0, k1, k2, k3, hown, HV, he, hz⟩ := hrel
    obtain ⟨q6, c6, rfl⟩ := own_slice hown
    by_cases hlt : r < R
    · have hRm : r * m ≤ 128 := Nat.mul_le_mul (show r ≤ 16 by omega) hm8
      have Am := hid (app_row (Hlen.out r hr))
      have eD := he.trans (Ext.drew wr)
      have g0 := eD.cell a0
      have g1 := eD.cell t0
      have g2 := eD.cell t1
      have g3 := eD.cell t2
      have C1 := hid (fun W (h : Ext wr.drew W) => B.out r hlt W (E0.trans (eD.trans h)))
      have C2 := hid (fun W (h : Ext wr.drew W) => D.out r hlt W (E0.trans (eD.trans h)))
      have Hc := hid (Hcur.out r hlt)
      have Hsr := hid (Hs.out r)
      have HL2 := HL
      clear A B D Hcur
      generalize hrc : r * C = rC at *
      clear hrc
      obtain ⟨F, hF⟩ : ∃ F : Option Tmp → World → Value → Prop, F = fun d w' u => match d with | some 21 => u = .slice (subp q0 1 rC cp) C (cp - rC) | some 22 => IsSt (b + 1) (stF l (rowT xs C r) n) w' u | _ => False := ⟨_, rfl⟩
      have HF := hid hF
      clear hF
      go_wp2
      refine wp_region_xall (F := F) (by kernel_rfl) (by kernel_rfl) (by kernel_rfl) ?_
      intro wf hwf
      repeat (first
        | (refine x_skip rfl ?_; simp only [Act.put, ev_tmp, List.setIfInBounds_toArray, List.set_cons_succ, List.set_cons_zero, List.getD_cons_succ, List.getD_cons_zero])
        | (refine x_mv rfl rfl rfl ?_; simp only [Act.put, ev_tmp, List.setIfInBounds_toArray, List.set_cons_succ, List.set_cons_zero, List.getD_cons_succ, List.getD_cons_zero])
        | (refine x_as rfl rfl rfl ?_; simp only [Act.put, ev_tmp, List.setIfInBounds_toArray, List.set_cons_succ, List.set_cons_zero, List.getD_cons_succ, List.getD_cons_zero])
        | ((with_reducible show wpX _ _ _ _ _ _ (Oper.mk _ (Op.call _) _ _ _ _ :: _) _); refine x_callf (f := 98) (args := #[.agg #[.int .i64 R, .int .i64 C, .slice q0 kk cp], .int .i64 r]) rfl rfl Try.func98 rfl (by kernel_rfl) ?_ ?_ ?_; (focus (simp [Act.eval]; done)); (focus (intro w1 hw1; exact (by rw [HF.out]; exact (C1.out w1 hw1).mono fun e w3 h => ⟨_, h.1, h.2, rfl⟩))); rintro u w3 e3 e4 hu; simp only [HF.out] at hu; subst hu; simp only [Act.put, ev_tmp, List.setIfInBounds_toArray, List.set_cons_succ, List.set_cons_zero, List.getD_cons_succ, List.getD_cons_zero])
        | ((with_reducible show wpX _ _ _ _ _ _ (Oper.mk _ (Op.call _) _ _ _ _ :: _) _); refine x_callf (f := 104) (args := #[.agg #[.slice p n c], .slice (subp q0 1 rC cp) C (cp - rC)]) rfl rfl Try.func104 rfl (by kernel_rfl) ?_ ?_ ?_; (focus (simp [Act.eval]; done)); (focus (intro w1 hw1; exact (by rw [HF.out]; exact (C2.out w1 hw1).mono fun e w3 ⟨v, css, bss, h1, h2, h3⟩ => ⟨v, h1, h3, show IsSt (b + 1) (stF l (rowT xs C r) n) w3 v from ⟨css, bss, growBase h2 (Nat.le_trans hz hw1.size)⟩⟩))); rintro u w3 e3 e4 hu; simp only [HF.out] at hu; have HU := hid (IsSt.ext hu e4); clear hu; simp only [Act.put, ev_tmp, List.setIfInBounds_toArray, List.set_cons_succ, List.set_cons_zero, List.getD_cons_succ, List.getD_cons_zero])
        | (refine x_run rfl fun K hK w1 hw1 => ?_; have k0 := hw1.cell (g0); have k1 := hw1.cell (g1); have k2 := hw1.cell (g2); have k3 := hw1.cell (g3); go_simp; refine hK _ ?_; clear hK K k0 k1 k2 k3 hw1 w1))
      refine x_nil ?_
      obtain ⟨p5, k5, q5, m5, c5, css5, rfl, hp5, hall5, hcnt5, hs5, hget5, hrep5⟩ := IsSt.last (HU.out) hn1
      clear HU
      obtain ⟨us5, hx5, hc5, hf5, hmc5⟩ := rep_flt1 hrep5
      have eF := eD.trans hwf
      have hwf' := hwf
      have o0 := hwf.cell ((Ext.drew wr).cell k2)
      have hownF := own_ext hown ((Ext.drew wr).trans hwf)
      have hzF : b < wf.heap.size := Nat.lt_of_lt_of_le hz hwf.size
      have fz := ((Ext.drew wr).trans hwf).frozen (p := ⟨b, 2, none⟩) hz k3
      have hm5 : m5 = m := by rw [← hx5]; exact Hc.out
      have hm5c : m5 ≤ c5 := by rw [← hx5]; exact hmc5
      subst hm5
      have q1 : IntKind.i64.wrap ((n : Int) - 1) = ((n - 1 : Nat) : Int) := by rw [show (n : Int) - 1 = ((n - 1 : Nat) : Int) by omega]; exact wrap_in _ (by omega) (by omega)
      have hmm := hid (hf5.one)
      have eG := Ext.drew wf
      have o1 := eG.cell o0
      have hpG := hp5.ext eG
      go_wp2
      refine wp_region_xt 8 (F := fun _ _ _ => True) (by kernel_rfl) (by kernel_rfl) (by kernel_rfl) (by kernel_rfl) (by kernel_rfl) ?_
      intro wf hwf
      simp only [List.take_succ_cons, List.take_zero, List.drop_succ_cons, List.drop_zero]
      repeat (first
        | (refine x_skip rfl ?_; simp only [Act.put, ev_tmp, List.setIfInBounds_toArray, List.set_cons_succ, List.set_cons_zero, List.getD_cons_succ, List.getD_cons_zero])
        | (refine x_mv rfl rfl rfl ?_; simp only [Act.put, ev_tmp, List.setIfInBounds_toArray, List.set_cons_succ, List.set_cons_zero, List.getD_cons_succ, List.getD_cons_zero])
        | (refine x_as rfl rfl rfl ?_; simp only [Act.put, ev_tmp, List.setIfInBounds_toArray, List.set_cons_succ, List.set_cons_zero, List.getD_cons_succ, List.getD_cons_zero])
        | ((with_reducible show wpX _ _ _ _ _ _ (Oper.mk _ (Op.indexAddr _ _ _) _ _ _ _ :: Oper.mk _ (Op.load _ _) _ _ _ _ :: _) _); refine x_idxloadE (s := (.sl .flt)) (j := n - 1) rfl rfl (fun _ => rfl) rfl (fun _ => rfl) rfl rfl (by first | rfl | exact q1 | omega) hpG hall5 hcnt5 (by omega) hs5 hget5 ?_; simp only [ofCs, Sh.agg, List.headD_cons, Bool.false_eq_true, if_false]; simp only [Act.put, ev_tmp, List.setIfInBounds_toArray, List.set_cons_succ, List.set_cons_zero, List.getD_cons_succ, List.getD_cons_zero])
        | (refine x_run rfl fun K hK w1 hw1 => ?_; have k0 := hw1.cell (o1); go_simp; refine hK _ ?_; clear hK K k0 hw1 w1))
      refine x_nil ?_
      have eH := eG.trans hwf
      have l0 := eH.cell o0
      have l2 := eH.frozen (p := ⟨b, 2, none⟩) hzF fz
      have hownH := own_ext hownF eH
      have hzH : b < wf.heap.size := Nat.lt_of_lt_of_le hzF eH.size
      have hcH := hc5.ext eH
      have l1 := (eF.trans eH)
      have l3 := (((Ext.drew wr).trans hwf').trans eH)
      go_wp2_with ((with_reducible show wpList _ _ _ (Oper.mk _ (Op.call _) _ _ _ _ :: _) _ _); refine wl_appz rfl rfl rfl rfl hownH hcH (by rw [Nat.mul_one, hf5.1, hx5]) hm5c hmm.out (by unfold maxLen; omega) (by omega) (by have := eH.size; omega) ?_; intro v9 w9 own9 g9; obtain ⟨q9, c9, rfl⟩ := own_slice own9; have l4 := (g9.block b (by omega) (fun hh => by have := own_le hownH b hh.symm; omega)); have l5 := (World.cell?_of_block (a := ⟨b, 2, none⟩) l4).trans l0; have l6 := (World.frozen?_of_block (a := ⟨b, 2, none⟩) l4).trans l2; clear l4)
      go_roundw
      case rel =>
        have blk := g9.block b hzH (fun hh => by have := own_le hownH b hh.symm; omega)
        have j0 := (World.cell?_of_block (a := ⟨b, 0, none⟩) blk).trans (l3.cell k0)
        have j1 := (World.cell?_of_block (a := ⟨b, 1, none⟩) blk).trans (l3.cell k1)
        have am := Am.out
        have e9 : Ext W0 w9 := l1.grown g9 (fun k hk => by have := own_le hownH k hk; omega)
        have hz9 := g9.size
        have hchg : Chg (fun k => k = b) w9 (w9.setCell ⟨b, 2, none⟩ (.slice q9 (r * m5 + m5) c9)) := by (repeat (first | with_reducible exact Chg.refl _ _ | (with_reducible exact Chg.of_ext (by with_reducible assumption)) | with_reducible assumption | ((with_reducible refine Chg.setCell ?_ ?_ _); rotate_left; focus (first | (simp; done) | (simp; omega))) | (with_reducible refine Chg.alloc ?_ _) | (with_reducible refine Chg.drew ?_) | (with_reducible refine Chg.trans ?_ (Chg.of_ext (by with_reducible assumption)))))
        have hF9 := HV.out.app hf5
        rw [← HL.out, ← Hsr.out] at hF9
        refine ⟨r + 1, .slice q9 (r * m5 + m5) c9, vs ++ us5, by omega, by go_num, by go_simp, by go_simp, by go_simp, by go_simp, ?_, hF9, ?_, by simp; omega⟩
        · rw [am]; exact own_chgB own9 hchg (fun k hk => by omega)
        · exact e9.chg hchg (fun k hk => by omega)
      case measure => simp [intOf]; omega
    · obtain rfl : r = R := by omega
      have n0 := he.cell z0
      have n1 := he.cell z1
      have n2 := he.cell z2
      have n3 := he.frozen (p := ⟨w.heap.size + 2, 0, none⟩) (by simp; omega) (y0 0)
      have n4 := he.frozen (p := ⟨w.heap.size + 2, 1, none⟩) (by simp; omega) (y0 1)
      have n5 := he.frozen (p := ⟨w.heap.size + 2, 2, none⟩) (by simp; omega) (y0 2)
      clear z0 z1 z2 y0
      go_wp2
      refine bodyPost_ret (v := .agg #[.int .i64 r, .int .i64 m, .slice q6 (r * m) c6]) (by simp [results, Try.results101, go_sem, n0, n1, n2, n3, n4, n5]) rfl ?_
      exact RetTen.of (Hlen.out r (Nat.le_refl _)) (own_base (own_chgB (S := fun k => k = w.heap.size + 2) hown (by (repeat (first | with_reducible exact Chg.refl _ _ | (with_reducible exact Chg.of_ext (by with_reducible assumption)) | with_reducible assumption | ((with_reducible refine Chg.setCell ?_ ?_ _); rotate_left; focus (first | (simp; done) | (simp; omega))) | (with_reducible refine Chg.alloc ?_ _) | (with_reducible refine Chg.drew ?_) | (with_reducible refine Chg.trans ?_ (Chg.of_ext (by with_reducible assumption)))))) (fun k hk => by omega)) (by omega)) HV.out rfl (by have := E0.trans he; (repeat (first | with_reducible exact Ext.refl _ | with_reducible assumption | ((with_reducible refine Ext.setCell ?_ ?_ _); rotate_left; focus (first | (simp; done) | (simp; omega))) | (with_reducible refine Ext.trans ?_ (Ext.alloc _ _)) | (with_reducible refine Ext.trans ?_ (Ext.drew _)) | (with_reducible refine Ext.trans ?_ (by with_reducible assumption)))))
end Go.Proofs.Ytlimabbeaimdgaa
/- Rows of a tensor through a model: the reference's part. -/
namespace Go.Proofs.Ytlimabbeaimdgaa
set_option linter.unusedSimpArgs false
set_option linter.unusedVariables false
open Go.RowKit

theorem heap_setCell {w : World} {b j : Nat} {Z : Array Value} {t : TypeId} {u : Value} (h : w.heap[b]? = some (.cells Z t)) : (w.setCell ⟨b, j, none⟩ u).heap[b]? = some (.cells (Z.setIfInBounds j u) t) := by
  simp [World.setCell, Array.getElem?_modify, h]
theorem own_tag {w : World} {B te t s n b : Nat} {v : Value} {vs : List Value} {Z : Array Value} (h : w.ownsRow B te s v n vs) (hb : w.heap[b]? = some (.cells Z t)) (hne : te ≠ t) : ∀ k, v.ownBlock = some k → k ≠ b := by
  intro k hk he
  subst he
  rcases h.2 with ⟨h1, _⟩ | ⟨g, cap, cur, h1, _, h2, _⟩
  · subst h1; simp [Value.ownBlock] at hk
  · subst h1
    simp [Value.ownBlock] at hk
    subst hk
    rw [hb] at h2
    simp only [Option.some.injEq, Obj.cells.injEq] at h2
    exact hne h2.2.1.symm
theorem own_chgK {S : Nat → Prop} {w w' : World} {B e s n : Nat} {v : Value} {vs : List Value} (h : w.ownsRow B e s v n vs) (k : Chg S w w') (hS : ∀ b, v.ownBlock = some b → ¬ S b) : w'.ownsRow B e s v n vs := by
  have hlt0 := own_lt h
  obtain ⟨h1, h2⟩ := h
  refine ⟨h1, ?_⟩
  rcases h2 with h2 | ⟨g, cap, cur, hv, hg, hh, r⟩
  · exact .inl h2
  · have hgb : v.ownBlock = some g := by rw [hv]; rfl
    exact .inr ⟨g, cap, cur, hv, hg, by rw [k.block g (hlt0 g hgb) (hS g hgb)]; exact hh, r⟩
section
variable {P : Program} {w wf : World} {ops : Array Oper} {rest : List Oper} {o : Oper} {a : Act} {Q : Act → Prop} {F : Option Tmp → World → World → Value → Prop}
/-- A new empty list, in a region whose order is drawn. -/
theorem x_empty {te : TypeId} {s : Nat} (hw : Region.wanted o (yielded ops a.tmps) = true) (hr : ∀ w1, (execOp a.eval o).run P w1 = .ok (.value (.slice (some ⟨w1.heap.size, 0, none⟩) 0 0)) (w1.alloc (.cells #[] te))) (hs : 0 ≤ maxLen)
    (h : ∀ b, wf.ownsRow w.heap.size te s (.slice (some ⟨b, 0, none⟩) 0 0) 0 [] → wpX P ops F w wf Q rest (a.put o.dst (.slice (some ⟨b, 0, none⟩) 0 0))) : wpX P ops F w wf Q (o :: rest) a :=
  x_made (V := fun wf u => ∃ b, u = .slice (some ⟨b, 0, none⟩) 0 0 ∧ wf.ownsRow w.heap.size te s (.slice (some ⟨b, 0, none⟩) 0 0) 0 []) hw
    (fun w1 e1 => ⟨_, _, hr w1, Ext.alloc _ _, fun wf hf => ⟨w1.heap.size, rfl, own_ext (World.ownsRow_made w1 #[] 0 e1.size hs (by simp)) hf⟩⟩)
    (fun u ⟨b, h1, h2⟩ => by subst h1; exact h b h2)
end
theorem IsFl.rep {B : Nat} {xs : List Nat} {w : World} {q : Option Addr} {n c : Nat} (h : IsFl B xs w (.slice q n c)) : Rep w (.sl .flt) [.slice q n c] xs := by
  obtain ⟨q', c', vs, h1, h2, h3⟩ := h
  cases h1
  exact rep_flts.2 ⟨q, c, vs, rfl, own_Cs h2, h3, (own_cap h2).1, (own_cap h2).2⟩
/-- A list of numbers of one's own, as a thing (its length told). -/
theorem retFl_thing2 {w w' : World} {xs : List Nat} {e : Ending} {n : Nat} (hn : xs.length = n) (h : RetFl w xs e w') : ∃ q c bs, e = .returned (.slice q n c) ∧ Own w' (.sl .flt) [.slice q n c] xs bs ∧ bs.Nodup ∧ (∀ b ∈ bs, w.heap.size ≤ b) ∧ Ext w w' := by
  subst hn
  obtain ⟨q, c, vs, he, ho, hf, hx⟩ := h
  refine ⟨q, c, blocksOf q, he, own_flts.2 ⟨q, c, vs, rfl, ownRow_of ho, hf, (own_cap ho).1, (own_cap ho).2, rfl⟩, ?_, ?_, hx⟩
  · cases q <;> simp [blocksOf]
  · intro b hb
    cases q with
    | none => simp [blocksOf] at hb
    | some a => simp [blocksOf] at hb; subst hb; exact own_le ho _ rfl
end Go.Proofs.Ytlimabbeaimdgaa
/- A struct is read whole, where the reading has a condition that holds. -/
namespace Go.Proofs.Ytlimabbeaimdgaa
set_option linter.unusedSimpArgs false
set_option linter.unusedVariables false
open Go.RowKit

section
variable {P : Program} {w : World} {ops : Array Oper} {rest : List Oper} {o : Oper} {a : Act} {Q : Exit → Act → World → Prop}
theorem wl_valueW {v : Value} {w' : World} (hw : Region.wanted o (yielded ops a.tmps) = true) (hr : (execOp a.eval o).run P w = .ok (.value v) w') (h : wpList P ops Q rest (a.put o.dst v) w') : wpList P ops Q (o :: rest) a w := by
  unfold wpList
  rw [if_pos hw]
  refine .inl ?_
  unfold Oper.wp
  rw [hr]
  exact h
theorem wl_ldAw {t : TypeId} {s : Sh} [ElTy P t s] {x : Operand} (hw : Region.wanted o (yielded ops a.tmps) = true) (ho : o.op = .load t x) {q : Addr} {cs : List Value} (hx : a.eval x = .pointer (some q)) (hc : Cs w (some q) cs) (hl : cs.length = s.sz)
    (h : wpList P ops Q rest (a.put o.dst (ofCs s cs)) w) : wpList P ops Q (o :: rest) a w :=
  wl_valueW hw (by simp [execOp, ho, hx, run_loadE (P := P) (t := t) (s := s) hc hl]) h
end
theorem ext_size {w w' : World} (_ : Ext w w') : ∃ N, N = w'.heap.size ∧ N ≤ w'.heap.size := ⟨_, rfl, Nat.le_refl _⟩
theorem Own.tag_ext {w w' : World} {s : Sh} {cs : List Value} {d : s.T} {bs : List Nat} {t : TypeId} (h : Own w s cs d bs) (ht : ∀ b ∈ bs, ∀ Z, w.heap[b]? ≠ some (.cells Z t)) (e : Ext w w') : ∀ b ∈ bs, ∀ Z, w'.heap[b]? ≠ some (.cells Z t) := by
  intro b hb Z
  rw [e.block b (h.lt b hb)]
  exact ht b hb Z
/-- A result and a word, and no own block of it is of a type. -/
def OutT (w : World) (t : TypeId) (s : Sh) (r : s.T × Bool) (e : Ending) (w' : World) : Prop :=
  ∃ cs bs, e = .returned (.tuple #[ofCs s cs, .bool r.2]) ∧ Own w' s cs r.1 bs ∧ bs.Nodup ∧ (∀ b ∈ bs, w.heap.size ≤ b) ∧ (∀ b ∈ bs, ∀ Z, w'.heap[b]? ≠ some (.cells Z t)) ∧ Ext w w'
end Go.Proofs.Ytlimabbeaimdgaa
/- Regions whose order is drawn and that store a struct, while parts of a result may be taken out before or behind the store. -/
namespace Go.Proofs.Ytlimabbeaimdgaa
set_option linter.unusedSimpArgs false
set_option linter.unusedVariables false
open Go.RowKit
section
variable {P : Program} {ops : Array Oper} {F : Option Tmp → World → World → Value → Prop} {w : World}

def isExtract (o : Oper) : Bool := match o.op with | .extract _ _ => true | _ => false
theorem run_pure_ext {o : Oper} (h : isExtract o = true) {ρ : Operand → Value} {w w' : World} {n : Next} (hr : (execOp ρ o).run P w = .ok n w') : (∃ v, n = .value v) ∧ w' = w ∧ ∀ w2, (execOp ρ o).run P w2 = .ok n w2 := by
  obtain ⟨dst, op, ty, pos, after, guard⟩ := o
  cases op <;> simp only [isExtract] at h <;> try cases h
  rename_i t ix
  simp only [execOp] at hr ⊢
  cases hv : ρ t <;> simp [Instr.extract, hv] at hr ⊢
  rename_i vs
  cases hx : vs[ix]? with
  | none => rw [hx] at hr; simp [stuck] at hr
  | some v =>
    rw [hx] at hr
    simp at hr ⊢
    obtain ⟨rfl, rfl⟩ := hr
    exact ⟨⟨v, rfl⟩, rfl, rfl⟩
/-- The form of such a region: all before place N but parts that are taken out come before the store, and all of these and the store before the rest. -/
def storB (ops : Array Oper) (N : Nat) : Bool :=
  match ops[N]? with
  | some S => S.guard.isNone && S.dst.isNone && (List.range ops.size).all fun j => decide (j < N) || ((j == N || (ancs .any ops ops.size j).contains N) && (List.range N).all fun i => (ancs .any ops ops.size j).contains i ||
      (j == N && (match ops[i]? with | some x => isExtract x && x.guard.isNone && (match x.dst with | some d => !(S.looksAt ops).contains d | none => true) | none => false)))
  | none => false

theorem wpX_sto {Q : Exit → Act → World → Prop} {N R : Nat} {a0 : Act} {S : Oper} (hns : Region.noSelect ops = true) (hap : apartB .any ops N = true) (hst : storB ops N = true) (hS : ops[N]? = some S) (hR : ops.size = N + (R + 1))
    (h : ∀ wf, Ext w wf → wpX P ops F w wf (fun a' => ∃ w', (execOp a'.eval S).run P wf = .ok .skip w' ∧ wpAny P .any ops Q R (marked ops.size (N + 1)) a' w') (ops.toList.take N) a0) :
    ∀ (fuel : Nat) (listed : Array Bool) (u : Nat → Value) (w1 : World), listed.size = ops.size → Closed .any ops listed → (∀ j, N ≤ j → listed.getD j true = true → ops.size ≤ j) → Ext w w1 →
      ((List.range N).filter fun i => !listed.getD i false).length = fuel →
      (∀ j o, j < N → listed.getD j false = true → ops[j]? = some o → xOut P ops F w w1 o (actsP ops a0 (fun _ => true) u j) (u j)) →
      wpAny P .any ops Q (fuel + (R + 1)) listed (actsP ops a0 (fun i => listed.getD i false) u N) w1 := by
  have hN : N ≤ ops.size := by omega
  simp only [storB, hS, Bool.and_eq_true] at hst
  obtain ⟨⟨gS, dS⟩, hst⟩ := hst
  have gS : S.guard = none := by simpa using gS
  have dS : S.dst = none := by simpa using dS
  simp only [apartB, Bool.and_eq_true] at hap
  obtain ⟨hord, hap⟩ := hap
  have hsel := fun (j : Nat) (o : Oper) cs b (ho : ops[j]? = some o) => Region.noSelect_spec hns j o cs b ho
  have hll : (ops.toList.take N).length = N := by simp; omega
  have hlo : ∀ i, i < (ops.toList.take N).length → (ops.toList.take N)[i]? = ops[i]? := by
    intro i hi
    rw [hll] at hi
    rw [List.getElem?_take_of_lt hi]; simp
  have hat : ∀ i, i < N → ∃ o, ops[i]? = some o := fun i hi => ⟨ops[i], by simp [show i < ops.size by omega]⟩
  have hdep : ∀ j o, ops[j]? = some o → ∀ e ∈ o.after, Region.binds .any e = true → e.on < j := by
    intro j o ho e he hb
    have hj := (Array.getElem?_eq_some_iff.1 ho).1
    have h2 := List.all_eq_true.1 hord j (by simpa using hj)
    simp only [ho] at h2
    have h3 := (Array.all_eq_true_iff_forall_mem.1 h2) e he
    simpa [hb] using h3
  -- two places before N
  have hpair : ∀ i j x y, i < j → j < N → ops[i]? = some x → ops[j]? = some y → ((∃ e ∈ y.after, Region.binds .any e = true ∧ e.on = i) ∨ y.apart ops x = true) ∧ (∀ d, x.dst = some d → y.dst ≠ some d) := by
    intro i j x y hij hj hx hy
    have h2 := List.all_eq_true.1 (List.all_eq_true.1 hap j (by simpa using hj)) i (by simpa using hij)
    simp only [hx, hy, Bool.and_eq_true, Bool.or_eq_true, Array.any_eq_true', beq_iff_eq, Option.isNone_iff_eq_none, bne_iff_ne, ne_eq] at h2
    obtain ⟨h3, h4⟩ := h2
    refine ⟨?_, fun d hd hd' => ?_⟩
    · rcases h3 with ⟨e, he, hb, hon⟩ | h3
      · exact .inl ⟨e, he, hb, hon⟩
      · exact .inr h3
    · rcases h4 with h4 | h4
      · rw [hd] at h4; cases h4
      · exact h4 (by rw [hd, hd'])
  have hdst : ∀ i j d, i < N → j < N → i ≠ j → dstAt ops i = some d → dstAt ops j ≠ some d := by
    intro i j d hi hj hne h1 h2
    obtain ⟨x, hx⟩ := hat i hi
    obtain ⟨y, hy⟩ := hat j hj
    simp only [dstAt, hx, hy, Option.bind_some] at h1 h2
    rcases Nat.lt_or_ge i j with h' | h'
    · exact (hpair i j x y h' hj hx hy).2 d h1 h2
    · exact (hpair j i y x (by omega) hi hy hx).2 d h2 h1
  -- what an operation looks at and an earlier one leaves, it waits for
  have hlook : ∀ i j y d, i < j → j < N → ops[j]? = some y → dstAt ops i = some d → d ∈ y.looksAt ops → ∃ e ∈ y.after, Region.binds .any e = true ∧ e.on = i := by
    intro i j y d hij hj hy hd hm
    obtain ⟨x, hx⟩ := hat i (by omega)
    rcases (hpair i j x y hij hj hx hy).1 with h' | h'
    · exact h'
    · simp only [dstAt, hx, Option.bind_some] at hd
      exact ((Oper.apart_spec h').2.2 d hd hm).elim
  have hlook2 : ∀ i j x d, i < j → j < N → ops[i]? = some x → dstAt ops j = some d → d ∈ x.looksAt ops → ∃ y, ops[j]? = some y ∧ ∃ e ∈ y.after, Region.binds .any e = true ∧ e.on = i := by
    intro i j x d hij hj hx hd hm
    obtain ⟨y, hy⟩ := hat j hj
    rcases (hpair i j x y hij hj hx hy).1 with h' | h'
    · exact ⟨y, hy, h'⟩
    · simp only [dstAt, hy, Option.bind_some] at hd
      exact ((Oper.apart_spec h').1 d hd hm).elim
  have hmove : ∀ j o (v v' : Nat → Value), j < N → ops[j]? = some o → (∀ e ∈ o.after, Region.binds .any e = true → v e.on = v' e.on) → AgreeOn (o.looksAt ops) (actsP ops a0 (fun _ => true) v j) (actsP ops a0 (fun _ => true) v' j) ∧ AgreeOn (waits ops o) (actsP ops a0 (fun _ => true) v j) (actsP ops a0 (fun _ => true) v' j) ∧ (actsP ops a0 (fun _ => true) v j).tmps.size = (actsP ops a0 (fun _ => true) v' j).tmps.size := by
    intro j o v v' hj ho hv
    refine ⟨fun t ht => ?_, fun t ht => ?_, by rw [actsP_size, actsP_size]⟩
    · refine actsP_agree j fun i hi hd => ⟨rfl, fun _ => ?_⟩
      obtain ⟨e, he, hb, rfl⟩ := hlook i j o t hi hj ho hd ht
      exact hv e he hb
    · obtain ⟨e, he, hb, hed⟩ := mem_waits.1 ht
      have hej := hdep j o ho e he hb
      refine actsP_agree j fun i hi hd => ⟨rfl, fun _ => ?_⟩
      by_cases hie : i = e.on
      · subst hie; exact hv e he hb
      · exact (hdst e.on i t (by omega) (by omega) (Ne.symm hie) hed hd).elim
  -- who waits for whom from place N on
  have hlast : ∀ j, N < j → ∀ listed : Array Bool, Closed .any ops listed → j ∈ Region.ready .any ops listed → listed.getD N false = true ∧ ∀ i, i < N → listed.getD i false = true := by
    intro j hj listed hcl hr
    obtain ⟨_, o, ho, hall⟩ := mem_ready.1 hr
    have hjs := (Array.getElem?_eq_some_iff.1 ho).1
    have hb := List.all_eq_true.1 hst j (by simpa using hjs)
    have hne : (j == N) = false := by simp; omega
    simp only [hne, Bool.false_or, Bool.false_and, Bool.or_false, Bool.or_eq_true, decide_eq_true_eq, Bool.and_eq_true] at hb
    obtain ⟨hb1, hb2⟩ := hb.resolve_left (by omega)
    have hanc := ancs_listed hcl ops.size j (fun o' ho' => by rw [ho] at ho'; cases ho'; exact hall)
    refine ⟨hanc N (by simpa using hb1), fun i hi => hanc i ?_⟩
    have := List.all_eq_true.1 hb2 i (by simpa using hi)
    simpa using this
  have hmid : ∀ i, i < N → (∀ listed : Array Bool, Closed .any ops listed → N ∈ Region.ready .any ops listed → listed.getD i false = true) ∨ ∃ x, ops[i]? = some x ∧ isExtract x = true ∧ x.guard = none ∧ ∀ d, x.dst = some d → d ∉ S.looksAt ops := by
    intro i hi
    have hb := List.all_eq_true.1 hst N (by simp; omega)
    simp only [Nat.lt_irrefl, decide_false, Bool.false_or, beq_self_eq_true, Bool.true_or, Bool.true_and, Bool.and_eq_true, true_and] at hb
    have h2 := List.all_eq_true.1 hb i (by simpa using hi)
    rw [Bool.or_eq_true] at h2
    rcases h2 with h2 | h2
    · left
      intro listed hcl hr
      obtain ⟨_, o, ho, hall⟩ := mem_ready.1 hr
      exact ancs_listed hcl ops.size N (fun o' ho' => by rw [ho] at ho'; cases ho'; exact hall) i (by simpa using h2)
    · right
      obtain ⟨x, hx⟩ := hat i hi
      simp only [hx, Bool.and_eq_true] at h2
      obtain ⟨⟨h3, h4⟩, h5⟩ := h2
      refine ⟨x, hx, h3, by simpa using h4, fun d hd => ?_⟩
      rw [hd] at h5
      simpa using h5
  -- behind the store
  have behind : ∀ (u' : Nat → Value) (w' : World), wpAny P .any ops Q R (marked ops.size (N + 1)) (actsP ops a0 (fun _ => true) u' N) w' →
      ∀ (fuel : Nat) (listed : Array Bool), listed.size = ops.size → Closed .any ops listed → listed.getD N false = true → (∀ j, N < j → listed.getD j true = true → ops.size ≤ j) →
      ((List.range N).filter fun i => !listed.getD i false).length = fuel →
      (∀ i o, i < N → listed.getD i false = false → ops[i]? = some o → isExtract o = true ∧ o.guard = none ∧ ∃ w2, (execOp (actsP ops a0 (fun _ => true) u' i).eval o).run P w2 = .ok (.value (u' i)) w2) →
      wpAny P .any ops Q (fuel + R) listed (actsP ops a0 (fun i => listed.getD i false) u' N) w' := by
    intro u' w' hT fuel
    induction fuel with
    | zero =>
      intro listed hsz hcl hlN hlate hlen hfl
      have hall0 : ∀ i, i < N → listed.getD i false = true := by
        intro i hi
        have := List.eq_nil_of_length_eq_zero hlen
        rw [List.filter_eq_nil_iff] at this
        have := this i (by simpa using hi)
        simpa using this
      have hall : listed = marked ops.size (N + 1) := by
        apply Array.ext
        · simp [marked, hsz]
        · intro i hi hi'
          by_cases hiN : i < N
          · have := hall0 i hiN
            simp [hi] at this
            simp [marked, show i < N + 1 by omega, this]
          · by_cases hiN2 : i = N
            · subst hiN2
              simp [hi] at hlN
              simp [marked, hlN]
            · by_cases hl : listed.getD i true = true
              · have := hlate i (by omega) hl; omega
              · simp [hi] at hl
                simp [marked, show ¬ i < N + 1 by omega, hl]
      rw [Nat.zero_add, actsP_congr (ops := ops) (q := fun _ => true) (u' := u') N fun i hi => ⟨hall0 i hi, fun _ => rfl⟩, hall]
      exact hT
    | succ fuel ih =>
      intro listed hsz hcl hlN hlate hlen hfl
      have hunl : ∃ j, j < N ∧ listed.getD j false = false := by
        cases hr : (List.range N).filter fun i => !listed.getD i false with
        | nil => rw [hr] at hlen; simp at hlen
        | cons j l =>
          have hm : j ∈ (List.range N).filter fun i => !listed.getD i false := by rw [hr]; simp
          rw [List.mem_filter] at hm
          exact ⟨j, by simpa using hm.1, by simpa using hm.2⟩
      obtain ⟨j0, hj0, hl0⟩ := hunl
      rw [Nat.succ_add]
      refine ⟨fun hnone => (ready_some hord hsz (show j0 < ops.size by omega) (by rw [getD_tf (by omega)]; exact hl0) hnone).elim, fun i hi => ?_⟩
      obtain ⟨hun, y, hy, hall⟩ := mem_ready.1 hi
      have hios := (Array.getElem?_eq_some_iff.1 hy).1
      have his : i < listed.size := by omega
      have hunf : listed.getD i false = false := by rw [← getD_tf his]; exact hun
      have hiN : i < N := by
        rcases Nat.lt_trichotomy i N with h' | h' | h'
        · exact h'
        · subst h'; rw [hlN] at hunf; cases hunf
        · have := (hlast i h' listed hcl hi).2 j0 hj0
          rw [this] at hl0; cases hl0
      obtain ⟨f1, f2, w2, f3⟩ := hfl i y hiN hunf hy
      have hagree : AgreeOn (y.looksAt ops) (actsP ops a0 (fun _ => true) u' i) (actsP ops a0 (fun i => listed.getD i false) u' N) := by
        intro t ht
        have e1 : (actsP ops a0 (fun _ => true) u' i).eval (.tmp t) = (actsP ops a0 (fun k => decide (k < i)) u' N).eval (.tmp t) := by
          have : ∀ n, i ≤ n → actsP ops a0 (fun k => decide (k < i)) u' n = actsP ops a0 (fun _ => true) u' i := by
            intro n
            induction n with
            | zero => intro hn; obtain rfl : i = 0 := by omega
                      rfl
            | succ n ihn =>
              intro hn
              by_cases hin : i = n + 1
              · subst hin
                exact actsP_congr _ fun k hk => ⟨by simpa using hk, fun _ => rfl⟩
              · have h2 : decide (n < i) = false := by simp; omega
                have h3 : actsP ops a0 (fun k => decide (k < i)) u' (n + 1) = actsP ops a0 (fun k => decide (k < i)) u' n := by
                  conv => lhs; unfold actsP
                  simp only [h2, Bool.false_eq_true, if_false]
                rw [h3]
                exact ihn (by omega)
          rw [this N (by omega)]
        rw [e1]
        refine actsP_agree N fun k hk hd => ?_
        by_cases hki : k < i
        · obtain ⟨e, he, hb, rfl⟩ := hlook k i y t hki hiN hy hd ht
          have hle := hall e he hb
          exact ⟨by simp [hki, hle], fun _ => rfl⟩
        · have hlk : listed.getD k false = false := by
            by_cases hk2 : k = i
            · subst hk2; exact hunf
            · obtain ⟨z, hz, e, he, hb, hon⟩ := hlook2 i k y t (by omega) hk hy hd ht
              cases hlk : listed.getD k false with
              | false => rfl
              | true =>
                have := hcl k z hz hlk e he hb
                rw [hon, hunf] at this; cases this
          exact ⟨by simp [hki, hlk], fun h' => by simp [hki] at h'⟩
      have hexec := exec_agree (fun cs b => hsel i y cs b hy) hagree
      unfold wpOp
      simp only [hy]
      rw [if_pos (by simp [Region.wanted, f2])]
      refine .inl ?_
      unfold Oper.wp
      rw [← hexec, (run_pure_ext f1 f3).2.2 w']
      simp only [Oper.upon]
      have hset : ∀ k, (listed.setIfInBounds i true).getD k false = (listed.getD k false || k == i) := by
        intro k
        by_cases hki : k = i
        · subst hki; simp [his]
        · rw [getD_set_ne false (fun h' => hki h'.symm)]; simp [hki]
      have hput := actsP_put (ops := ops) (a := a0) (p := fun k => listed.getD k false) (u := u') (j := i) (v := u' i) hunf N hiN (fun k hk hne d h1 h2 => hdst i k d hiN hk (Ne.symm hne) h1 h2)
      have hdi : dstAt ops i = y.dst := by simp [dstAt, hy]
      rw [hdi] at hput
      rw [hput, actsP_congr (ops := ops) (q := fun k => (listed.setIfInBounds i true).getD k false) (u' := u') N fun k hk => ⟨by rw [hset k], fun _ => by split <;> simp_all⟩]
      refine ih _ (by simpa using hsz) ?_ (getD_set_true hlN) ?_ ?_ ?_
      · intro j o ho hj e he hb
        by_cases hji : j = i
        · subst hji
          rw [hy] at ho; cases ho
          exact getD_set_true (hall e he hb)
        · have : (listed.setIfInBounds i true).getD j false = listed.getD j false := getD_set_ne false (fun h' => hji h'.symm)
          rw [this] at hj
          exact getD_set_true (hcl j o ho hj e he hb)
      · intro j hj hjl
        rw [getD_set_ne true (by omega)] at hjl
        exact hlate j hj hjl
      · have hf : ((List.range N).filter fun k => !(listed.setIfInBounds i true).getD k false) = ((List.range N).filter fun k => !listed.getD k false).filter fun k => !(k == i) := by
          rw [List.filter_filter]
          congr 1
          funext k
          rw [hset k]
          cases listed.getD k false <;> cases (k == i) <;> rfl
        have hnd : ((List.range N).filter fun k => !listed.getD k false).Nodup := List.Pairwise.filter _ List.nodup_range
        have hmem : i ∈ (List.range N).filter fun k => !listed.getD k false := by
          rw [List.mem_filter]; exact ⟨by simpa using hiN, by rw [hunf]; rfl⟩
        rw [hf]
        have h4 := filter_ne_len hnd hmem
        omega
      · intro k o hk hkl ho
        rw [hset k] at hkl
        exact hfl k o hk (by revert hkl; cases listed.getD k false <;> simp) ho
  intro fuel
  induction fuel using Nat.strongRecOn with
  | ind fuel ihs =>
    intro listed u w1 hsz hcl hlate h1 hlen hx
    have hlN : listed.getD N false = false := by
      cases hl : listed.getD N true with
      | false => rw [← getD_tf (by omega)]; exact hl
      | true => have := hlate N (Nat.le_refl _) hl; omega
    -- those that have not come up yet, run as the text has them, up to place k
    have hhyp : ∀ k, k ≤ N → ∃ (u' : Nat → Value) (v : World), (∀ j, listed.getD j false = true → u' j = u j) ∧ Ext w1 v ∧ ∀ j o, j < k → ops[j]? = some o → xOut P ops F w v o (actsP ops a0 (fun _ => true) u' j) (u' j) := by
      intro k
      induction k with
      | zero => exact fun _ => ⟨u, w1, fun _ _ => rfl, Ext.refl _, fun j o hj => by omega⟩
      | succ k ihk =>
        intro hk
        obtain ⟨u', v, hu', hv, hxs⟩ := ihk (by omega)
        obtain ⟨o, ho⟩ := hat k (by omega)
        by_cases hlk : listed.getD k false = true
        · refine ⟨u', v, hu', hv, fun j o' hj ho' => ?_⟩
          by_cases hjk : j = k
          · subst hjk
            rw [ho] at ho'; cases ho'
            rw [hu' j hlk]
            refine xOut_agree (fun cs b => hsel j o cs b ho) (hmove j o u u' (by omega) ho fun e he hb => ?_) (xOut_mono (hx j o (by omega) hlk ho) hv)
            exact (hu' e.on (hcl j o ho hlk e he hb)).symm
          · exact hxs j o' (by omega) ho'
        · have hfeed := wpX_feed (u := u') hlo (h v (h1.trans hv)) k (by omega) (fun j o hj ho => hxs j o hj ho)
          have hlk2 : k < (ops.toList.take N).length := by omega
          rw [List.drop_eq_getElem_cons hlk2] at hfeed
          have hok : (ops.toList.take N)[k] = o := by
            have := hlo k hlk2
            rw [ho, List.getElem?_eq_getElem hlk2] at this
            exact Option.some.inj this
          rw [hok] at hfeed
          obtain ⟨uk, v2, hv2, hxk⟩ := hfeed.1.some v (h1.trans hv) (fun e he hb x d hxo hd hr => by
            have hek := hdep k o ho e he hb
            refine ⟨actsP ops a0 (fun _ => true) u' e.on, ?_⟩
            · have hat1 := actsP_at (ops := ops) (a := a0) (p := fun _ => true) (u := u') (j := e.on) (d := d) (by simp [dstAt, hxo, hd]) rfl (by rw [actsP_size] at hr; exact hr) k hek (fun i hi hne => hdst e.on i d (by omega) (by omega) (Ne.symm hne) (by simp [dstAt, hxo, hd]))
              rw [hat1]
              exact hxs e.on x hek hxo)
          refine ⟨fun j => if j = k then uk else u' j, v2, fun j hj => ?_, hv.trans hv2, fun j o' hj ho' => ?_⟩
          · have : j ≠ k := fun he => hlk (he ▸ hj)
            simp only [if_neg this]; exact hu' j hj
          · rw [actsP_congr (ops := ops) (q := fun _ => true) (u' := u') j fun i hi => ⟨rfl, fun _ => by simp [show i ≠ k by omega]⟩]
            by_cases hjk : j = k
            · subst hjk
              rw [ho] at ho'; cases ho'
              simp only [if_true]; exact hxk
            · simp only [if_neg hjk]
              exact xOut_mono (hxs j o' (by omega) ho') hv2
    rw [show fuel + (R + 1) = (fuel + R) + 1 by omega]
    refine ⟨fun hnone => (ready_some hord hsz (show N < ops.size by omega) (by rw [getD_tf (by omega)]; exact hlN) hnone).elim, fun i hi => ?_⟩
    rcases Nat.lt_trichotomy i N with hiN | hiN | hiN
    · have hun0 : listed.getD i false = false := by
        obtain ⟨hun, y, hy, _⟩ := mem_ready.1 hi
        have := (Array.getElem?_eq_some_iff.1 hy).1
        rw [← getD_tf (by omega)]; exact hun
      obtain ⟨f', hf'⟩ : ∃ f', fuel = f' + 1 := by
        have hm : i ∈ (List.range N).filter fun i => !listed.getD i false := by rw [List.mem_filter]; exact ⟨by simpa using hiN, by rw [hun0]; rfl⟩
        have := List.length_pos_of_mem hm
        exact ⟨fuel - 1, by omega⟩
      rw [show fuel + R = f' + (R + 1) by omega]
      obtain ⟨hun, y, hy, hall⟩ := mem_ready.1 hi
      have his : i < listed.size := by omega
      have hunf : listed.getD i false = false := by rw [← getD_tf his]; exact hun
      obtain ⟨u', v, hu', hv, hxs⟩ := hhyp i (by omega)
      have hfeed := wpX_feed (u := u') hlo (h v (h1.trans hv)) i (by omega) (fun j o hj ho => hxs j o hj ho)
      have hil : i < (ops.toList.take N).length := by omega
      rw [List.drop_eq_getElem_cons hil] at hfeed
      have hoi : (ops.toList.take N)[i] = y := by
        have := hlo i hil
        rw [hy, List.getElem?_eq_getElem hil] at this
        exact Option.some.inj this
      rw [hoi] at hfeed
      have hsafe := hfeed.1
      have hknown : Known P ops F w y (actsP ops a0 (fun _ => true) u' i) w1 := by
        intro e he hb x d hxo hd hr
        have hek := hdep i y hy e he hb
        have hle := hall e he hb
        refine ⟨actsP ops a0 (fun _ => true) u' e.on, ?_⟩
        have hat1 := actsP_at (ops := ops) (a := a0) (p := fun _ => true) (u := u') (j := e.on) (d := d) (by simp [dstAt, hxo, hd]) rfl (by rw [actsP_size] at hr; exact hr) i hek (fun k hk hne => hdst e.on k d (by omega) (by omega) (Ne.symm hne) (by simp [dstAt, hxo, hd]))
        rw [hat1, hu' e.on hle]
        have hxe := hx e.on x (by omega) hle hxo
        exact xOut_agree (fun cs b => hsel e.on x cs b hxo) (hmove e.on x u u' (by omega) hxo fun e' he' hb' => (hu' e'.on (hcl e.on x hxo hle e' he' hb')).symm) hxe
      have hagree : AgreeOn (y.looksAt ops) (actsP ops a0 (fun _ => true) u' i) (actsP ops a0 (fun i => listed.getD i false) u N) := by
        intro t ht
        have e1 : (actsP ops a0 (fun _ => true) u' i).eval (.tmp t) = (actsP ops a0 (fun k => decide (k < i)) u' N).eval (.tmp t) := by
          have : ∀ n, i ≤ n → actsP ops a0 (fun k => decide (k < i)) u' n = actsP ops a0 (fun _ => true) u' i := by
            intro n
            induction n with
            | zero => intro hn; obtain rfl : i = 0 := by omega
                      rfl
            | succ n ihn =>
              intro hn
              by_cases hin : i = n + 1
              · subst hin
                exact actsP_congr _ fun k hk => ⟨by simpa using hk, fun _ => rfl⟩
              · have h2 : decide (n < i) = false := by simp; omega
                have h3 : actsP ops a0 (fun k => decide (k < i)) u' (n + 1) = actsP ops a0 (fun k => decide (k < i)) u' n := by
                  conv => lhs; unfold actsP
                  simp only [h2, Bool.false_eq_true, if_false]
                rw [h3]
                exact ihn (by omega)
          rw [this N (by omega)]
        rw [e1]
        refine actsP_agree N fun k hk hd => ?_
        by_cases hki : k < i
        · obtain ⟨e, he, hb, rfl⟩ := hlook k i y t hki hiN hy hd ht
          have hle := hall e he hb
          exact ⟨by simp [hki, hle], fun _ => hu' _ hle⟩
        · have hlk : listed.getD k false = false := by
            by_cases hk2 : k = i
            · subst hk2; exact hunf
            · obtain ⟨z, hz, e, he, hb, hon⟩ := hlook2 i k y t (by omega) hk hy hd ht
              cases hlk : listed.getD k false with
              | false => rfl
              | true =>
                have := hcl k z hz hlk e he hb
                rw [hon, hunf] at this; cases this
          exact ⟨by simp [hki, hlk], fun h' => by simp [hki] at h'⟩
      have hexec := exec_agree (fun cs b => hsel i y cs b hy) hagree
      have hwant := wanted_agree hagree
      have hcl' : Closed .any ops (listed.setIfInBounds i true) := by
        intro j o ho hj e he hb
        by_cases hji : j = i
        · subst hji
          rw [hy] at ho; cases ho
          exact getD_set_true (hall e he hb)
        · have : (listed.setIfInBounds i true).getD j false = listed.getD j false := getD_set_ne false (fun h' => hji h'.symm)
          rw [this] at hj
          exact getD_set_true (hcl j o ho hj e he hb)
      have hlate' : ∀ j, N ≤ j → (listed.setIfInBounds i true).getD j true = true → ops.size ≤ j := by
        intro j hj hjl
        rw [getD_set_ne true (by omega)] at hjl
        exact hlate j hj hjl
      have hset : ∀ k, (listed.setIfInBounds i true).getD k false = (listed.getD k false || k == i) := by
        intro k
        by_cases hki : k = i
        · subst hki; simp [his]
        · rw [getD_set_ne false (fun h' => hki h'.symm)]; simp [hki]
      have hlen' : ((List.range N).filter fun k => !(listed.setIfInBounds i true).getD k false).length = f' := by
        have hf : ((List.range N).filter fun k => !(listed.setIfInBounds i true).getD k false) = ((List.range N).filter fun k => !listed.getD k false).filter fun k => !(k == i) := by
          rw [List.filter_filter]
          congr 1
          funext k
          rw [hset k]
          cases listed.getD k false <;> cases (k == i) <;> rfl
        have hnd : ((List.range N).filter fun k => !listed.getD k false).Nodup := List.Pairwise.filter _ List.nodup_range
        have hmem : i ∈ (List.range N).filter fun k => !listed.getD k false := by
          rw [List.mem_filter]; exact ⟨by simpa using hiN, by rw [hunf]; rfl⟩
        rw [hf]
        have h4 := filter_ne_len hnd hmem
        omega
      -- behind it
      have next : ∀ (ui : Value) (w2 : World), Ext w1 w2 → xOut P ops F w w2 y (actsP ops a0 (fun _ => true) u' i) ui →
          wpAny P .any ops Q (f' + (R + 1)) (listed.setIfInBounds i true) ((actsP ops a0 (fun i => listed.getD i false) u N).put y.dst ui) w2 := by
        intro ui w2 e2 hxi
        have hput := actsP_put (ops := ops) (a := a0) (p := fun k => listed.getD k false) (u := u) (j := i) (v := ui) hunf N hiN (fun k hk hne d h1 h2 => hdst i k d hiN hk (Ne.symm hne) h1 h2)
        have hdi : dstAt ops i = y.dst := by simp [dstAt, hy]
        rw [hdi] at hput
        rw [hput, actsP_congr (ops := ops) (q := fun k => (listed.setIfInBounds i true).getD k false) (u' := fun k => if k = i then ui else u k) N fun k hk => ⟨by rw [hset k], fun _ => rfl⟩]
        refine ihs f' (by omega) _ _ w2 (by simpa using hsz) hcl' hlate' (h1.trans e2) hlen' (fun j o hj hlj ho => ?_)
        by_cases hji : j = i
        · subst hji
          rw [hy] at ho; cases ho
          simp only [if_true]
          refine xOut_agree (fun cs b => hsel j y cs b hy) (hmove j y u' _ hj hy fun e he hb => ?_) hxi
          have := hdep j y hy e he hb
          simp only [if_neg (show e.on ≠ j by omega)]
          exact hu' _ (hall e he hb)
        · have hlj' : listed.getD j false = true := by rw [hset j] at hlj; simpa [hji] using hlj
          simp only [if_neg hji]
          refine xOut_agree (fun cs b => hsel j o cs b ho) (hmove j o u _ hj ho fun e he hb => ?_) (xOut_mono (hx j o hj hlj' ho) e2)
          have hle := hcl j o ho hlj' e he hb
          have : e.on ≠ i := fun hei => by rw [hei, hunf] at hle; cases hle
          simp only [if_neg this]
      unfold wpOp
      simp only [hy]
      rw [← hwant]
      split
      · rename_i hw
        have h2 := hsafe hw w1 h1 hknown
        refine .inl ?_
        unfold Oper.wp
        rw [← hexec]
        generalize hr : (execOp (actsP ops a0 (fun _ => true) u' i).eval y).run P w1 = r at h2
        cases r with
        | ok n w2 =>
          cases n <;> simp only [XSafe] at h2 <;> simp only [Oper.upon]
          case value ui => exact next ui w2 h2 (.inl ⟨hw, w1, h1, known_C hknown, by rw [hr]; exact ⟨rfl, Ext.refl _⟩⟩)
          case skip => exact next undef w2 h2 (.inl ⟨hw, w1, h1, known_C hknown, by rw [hr]; exact ⟨rfl, Ext.refl _⟩⟩)
          case enter f args =>
            obtain ⟨h3, hc⟩ := h2
            refine hc.mono fun e w3 ⟨ui, he, h4, h5⟩ => ?_
            subst he
            exact next ui w3 (h3.trans h4) (.inl ⟨hw, w1, h1, known_C hknown, by rw [hr]; exact ⟨w3, h4, Ext.refl _, h5⟩⟩)
        | halt x w2 => simp only [XSafe] at h2
      · rename_i hw
        have hw' : Region.wanted y (yielded ops (actsP ops a0 (fun _ => true) u' i).tmps) = false := by simpa using hw
        exact next undef w1 (Ext.refl _) (.inr ⟨hw', rfl⟩)
    · subst hiN
      obtain ⟨_, S', hS', hall⟩ := mem_ready.1 hi
      rw [hS] at hS'; cases hS'
      have hfl : ∀ k, k < i → listed.getD k false = false → ∃ x, ops[k]? = some x ∧ isExtract x = true ∧ x.guard = none ∧ ∀ d, x.dst = some d → d ∉ S.looksAt ops := by
        intro k hk hkl
        rcases hmid k hk with h' | h'
        · rw [h' listed hcl hi] at hkl; cases hkl
        · exact h'
      have hhypF : ∀ k, k ≤ i → ∃ (u' : Nat → Value), (∀ j, listed.getD j false = true → u' j = u j) ∧ (∀ j o, j < k → ops[j]? = some o → xOut P ops F w w1 o (actsP ops a0 (fun _ => true) u' j) (u' j)) ∧
          ∀ j o, j < k → listed.getD j false = false → ops[j]? = some o → ∃ w2, (execOp (actsP ops a0 (fun _ => true) u' j).eval o).run P w2 = .ok (.value (u' j)) w2 := by
        intro k
        induction k with
        | zero => exact fun _ => ⟨u, fun _ _ => rfl, fun j o hj => by omega, fun j o hj => by omega⟩
        | succ k ihk =>
          intro hk
          obtain ⟨u', hu', hxs, hps⟩ := ihk (by omega)
          obtain ⟨o, ho⟩ := hat k (by omega)
          by_cases hlk : listed.getD k false = true
          · refine ⟨u', hu', fun j o' hj ho' => ?_, fun j o' hj hjl ho' => ?_⟩
            · by_cases hjk : j = k
              · subst hjk
                rw [ho] at ho'; cases ho'
                rw [hu' j hlk]
                refine xOut_agree (fun cs b => hsel j o cs b ho) (hmove j o u u' (by omega) ho fun e he hb => ?_) (hx j o (by omega) hlk ho)
                exact (hu' e.on (hcl j o ho hlk e he hb)).symm
              · exact hxs j o' (by omega) ho'
            · by_cases hjk : j = k
              · subst hjk; rw [hlk] at hjl; cases hjl
              · exact hps j o' (by omega) hjl ho'
          · have hlk' : listed.getD k false = false := by simpa using hlk
            obtain ⟨x, hx0, p1, p2, p3⟩ := hfl k (by omega) hlk'
            rw [ho] at hx0; cases hx0
            have hfeed := wpX_feed (u := u') hlo (h w1 h1) k (by omega) (fun j o hj ho => hxs j o hj ho)
            have hlk2 : k < (ops.toList.take i).length := by omega
            rw [List.drop_eq_getElem_cons hlk2] at hfeed
            have hok : (ops.toList.take i)[k] = o := by
              have := hlo k hlk2
              rw [ho, List.getElem?_eq_getElem hlk2] at this
              exact Option.some.inj this
            rw [hok] at hfeed
            have hwk : Region.wanted o (yielded ops (actsP ops a0 (fun _ => true) u' k).tmps) = true := by simp [Region.wanted, p2]
            have hkn : Known P ops F w o (actsP ops a0 (fun _ => true) u' k) w1 := (fun e he hb x d hxo hd hr => by
              have hek := hdep k o ho e he hb
              refine ⟨actsP ops a0 (fun _ => true) u' e.on, ?_⟩
              have hat1 := actsP_at (ops := ops) (a := a0) (p := fun _ => true) (u := u') (j := e.on) (d := d) (by simp [dstAt, hxo, hd]) rfl (by rw [actsP_size] at hr; exact hr) k hek (fun i' hi' hne => hdst e.on i' d (by omega) (by omega) (Ne.symm hne) (by simp [dstAt, hxo, hd]))
              rw [hat1]
              exact hxs e.on x hek hxo)
            have hsafe := hfeed.1 hwk w1 h1 hkn
            generalize hr : (execOp (actsP ops a0 (fun _ => true) u' k).eval o).run P w1 = r at hsafe
            cases r with
            | halt x w2 => simp only [XSafe] at hsafe
            | ok n w2 =>
              obtain ⟨⟨uk, rfl⟩, rfl, hpure⟩ := run_pure_ext p1 hr
              refine ⟨fun j => if j = k then uk else u' j, fun j hj => ?_, fun j o' hj ho' => ?_, fun j o' hj hjl ho' => ?_⟩
              · have : j ≠ k := fun he => hlk (he ▸ hj)
                simp only [if_neg this]; exact hu' j hj
              · rw [actsP_congr (ops := ops) (q := fun _ => true) (u' := u') j fun i' hi' => ⟨rfl, fun _ => by simp [show i' ≠ k by omega]⟩]
                by_cases hjk : j = k
                · subst hjk
                  rw [ho] at ho'; cases ho'
                  simp only [if_true]
                  exact .inl ⟨hwk, _, h1, known_C hkn, by rw [hr]; exact ⟨rfl, Ext.refl _⟩⟩
                · simp only [if_neg hjk]
                  exact hxs j o' (by omega) ho'
              · rw [actsP_congr (ops := ops) (q := fun _ => true) (u' := u') j fun i' hi' => ⟨rfl, fun _ => by simp [show i' ≠ k by omega]⟩]
                by_cases hjk : j = k
                · subst hjk
                  rw [ho] at ho'; cases ho'
                  simp only [if_true]
                  exact ⟨_, hr⟩
                · simp only [if_neg hjk]
                  exact hps j o' (by omega) hjl ho'
      obtain ⟨u', hu', hxs, hps⟩ := hhypF i (Nat.le_refl _)
      have hfin := wpX_feed (u := u') hlo (h w1 h1) i (by omega) (fun j o hj ho => hxs j o hj ho)
      rw [List.drop_of_length_le (by omega)] at hfin
      obtain ⟨w', hr, hT⟩ := hfin
      have hagreeS : AgreeOn (S.looksAt ops) (actsP ops a0 (fun _ => true) u' i) (actsP ops a0 (fun k => listed.getD k false) u i) := by
        intro t ht
        refine actsP_agree i fun k hk hd => ?_
        cases hlk : listed.getD k false with
        | true => exact ⟨rfl, fun _ => hu' k hlk⟩
        | false =>
          obtain ⟨x, hx0, p1, p2, p3⟩ := hfl k hk hlk
          simp only [dstAt, hx0, Option.bind_some] at hd
          exact (p3 t hd ht).elim
      have hexec := exec_agree (fun cs b => hsel i S cs b hS) hagreeS
      have his : i < listed.size := by omega
      have hset : ∀ k, k ≠ i → (listed.setIfInBounds i true).getD k false = listed.getD k false := fun k hk => getD_set_ne false (fun h' => hk h'.symm)
      unfold wpOp
      simp only [hS]
      rw [if_pos (by simp [Region.wanted, gS])]
      refine .inl ?_
      unfold Oper.wp
      rw [← hexec, hr]
      simp only [Oper.upon, dS]
      show wpAny P .any ops Q (fuel + R) (listed.setIfInBounds i true) (actsP ops a0 (fun k => listed.getD k false) u i) w'
      rw [actsP_congr (ops := ops) (q := fun k => (listed.setIfInBounds i true).getD k false) (u' := u') i fun k hk => ⟨by rw [hset k (by omega)], fun hp => (hu' k hp).symm⟩]
      refine behind u' w' hT fuel _ (by simpa using hsz) ?_ (by simp [his]) ?_ ?_ ?_
      · intro j o ho hj e he hb
        by_cases hji : j = i
        · subst hji
          rw [hS] at ho; cases ho
          exact getD_set_true (hall e he hb)
        · rw [hset j hji] at hj
          exact getD_set_true (hcl j o ho hj e he hb)
      · intro j hj hjl
        rw [getD_set_ne true (by omega)] at hjl
        exact hlate j (by omega) hjl
      · rw [← hlen]
        congr 1
        apply List.filter_congr
        intro k hk
        have hk' : k < i := by simpa using hk
        rw [hset k (by omega)]
      · intro k o hk hkl ho
        rw [hset k (by omega)] at hkl
        obtain ⟨x, hx0, p1, p2, p3⟩ := hfl k hk hkl
        rw [ho] at hx0; cases hx0
        exact ⟨p1, p2, hps k o hk hkl ho⟩
    · obtain ⟨hl, _⟩ := hlast i hiN listed hcl hi
      rw [hl] at hlN; cases hlN

/-- A struct is stored at place N, in a region whose order is drawn. -/
theorem wp_region_ys {id : Nat} {Q : Exit → Act → World → Prop} {a : Act} {l : List Oper} (N : Nat) (F : Option Tmp → World → World → Value → Prop) (hm : P.follows .mixedOrders = true)
    (hns : Region.noSelect l.toArray = true) (hap : apartB .any l.toArray N = true) (hst : storB l.toArray N = true) (hf : forcedB .any l.toArray (l.drop (N + 1)).length (N + 1) (marked l.length (N + 1)) = true)
    (h : ∀ wf, Ext w.drew wf → wpX P l.toArray F w.drew wf (fun a' => ∃ S rest w', l.drop N = S :: rest ∧ (execOp a'.eval S).run P wf = .ok .skip w' ∧ wpList P l.toArray Q rest a' w') (l.take N) a) : (Code.region id l.toArray true).wp P Q a w := by
  refine wp_region_any hm ?_
  have hst0 := hst
  unfold storB at hst0
  cases hS : l.toArray[N]? with
  | none => rw [hS] at hst0; cases hst0
  | some S =>
    have hNs := (Array.getElem?_eq_some_iff.1 hS).1
    have hNl : N < l.length := by simpa using hNs
    have key := wpX_sto (P := P) (ops := l.toArray) (F := F) (w := w.drew) (Q := Q) (N := N) (R := l.length - (N + 1)) (a0 := a) hns hap hst hS (by simp; omega) (fun wf hf2 => by
      refine wp_region_yall.wpX_mono (fun a' ha => ?_) (h wf hf2)
      obtain ⟨S', rest, w', h1, h2, h3⟩ := ha
      have hd : l.drop N = l[N] :: l.drop (N + 1) := List.drop_eq_getElem_cons hNl
      rw [hd] at h1
      cases h1
      have hSl : S = l[N] := by
        have : l[N]? = some S := by simpa using hS
        rw [List.getElem?_eq_getElem hNl] at this
        exact (Option.some.inj this).symm
      refine ⟨w', by rw [hSl]; exact h2, ?_⟩
      have := wpAny_forced (P := P) (md := .any) (ops := l.toArray) (Q := Q) (l.drop (N + 1)) (N + 1) (marked l.length (N + 1)) a' w' (fun j => by simp) hf h3
      rw [List.length_drop] at this
      simpa using this) N (Array.replicate l.length false) (fun _ => undef) w.drew (by simp)
      (fun j o _ hj => by
        rcases Nat.lt_or_ge j l.length with h' | h'
        · simp [h'] at hj
        · simp [h'] at hj)
      (fun j _ hj => by
        rcases Nat.lt_or_ge j l.length with h' | h'
        · simp [h'] at hj
        · simpa using h') (Ext.refl _) (by
          have hf : ((List.range N).filter fun i => !(Array.replicate l.length false).getD i false) = List.range N := by
            rw [List.filter_eq_self]
            intro i hi
            have : i < N := by simpa using hi
            simp [show i < l.length by omega]
          rw [hf]; simp)
      (fun j o _ hj => by
        rcases Nat.lt_or_ge j l.length with h' | h'
        · simp [h'] at hj
        · simp [h'] at hj)
    rw [show N + (l.length - (N + 1) + 1) = l.length by omega] at key
    rw [show actsP l.toArray a (fun i => (Array.replicate l.length false).getD i false) (fun _ => undef) N = a from ?_] at key
    · simpa using key
    · have : ∀ k, actsP l.toArray a (fun i => (Array.replicate l.length false).getD i false) (fun _ => undef) k = a := by
        intro k
        induction k with
        | zero => rfl
        | succ k ih =>
          have : (Array.replicate l.length false).getD k false = false := by
            rcases Nat.lt_or_ge k l.length with h' | h' <;> simp [h']
          unfold actsP
          simp only [this, Bool.false_eq_true, if_false]
          exact ih
      exact this N
/-- The same where a call's contract speaks of the world behind it alone. -/
theorem wp_region_xs {id : Nat} {Q : Exit → Act → World → Prop} {a : Act} {l : List Oper} (N : Nat) (F : Option Tmp → World → Value → Prop) (hm : P.follows .mixedOrders = true)
    (hns : Region.noSelect l.toArray = true) (hap : apartB .any l.toArray N = true) (hst : storB l.toArray N = true) (hf : forcedB .any l.toArray (l.drop (N + 1)).length (N + 1) (marked l.length (N + 1)) = true)
    (h : ∀ wf, Ext w.drew wf → wpX P l.toArray (fun d _ W u => F d W u) w.drew wf (fun a' => ∃ S rest w', l.drop N = S :: rest ∧ (execOp a'.eval S).run P wf = .ok .skip w' ∧ wpList P l.toArray Q rest a' w') (l.take N) a) : (Code.region id l.toArray true).wp P Q a w := wp_region_ys N _ hm hns hap hst hf h
end
section
variable {P : Program} {w : World} {ops : Array Oper} {l rest : List Oper} {o : Oper} {a : Act} {Q : Exit → Act → World → Prop}
theorem as_stA {N : Nat} {t : TypeId} {s : Sh} [T : ElTy P t s] {x y : Operand} (hd : l.drop N = o :: rest) (ho : o.op = .store t x y) {g : Nat} {Z : Array Value} {e : TypeId} {cs : List Value} (hx : a.eval x = .pointer (some ⟨g, 0, none⟩)) (hy : a.eval y = ofCs s cs)
    (hg : w.heap[g]? = some (.cells Z e (0, 0))) (hZ : Z.size = s.sz) (hl : cs.length = s.sz) (h1 : ∀ u ∈ cs, u.oneCell' = true) (hs : 0 < s.sz)
    (h : ∀ w', Cs w' (some ⟨g, 0, none⟩) cs → Chg (fun b => b = g) w w' → wpList P ops Q rest a w') : ∃ S rest w', l.drop N = S :: rest ∧ (execOp a.eval S).run P w = .ok .skip w' ∧ wpList P ops Q rest a w' := by
  obtain ⟨w', h2, h3, h4⟩ := run_stA (P := P) (t := t) hg hZ hl h1 hs
  exact ⟨o, rest, w', hd, by simp [execOp, ho, hx, hy, h2], h w' h3 h4⟩
end
/-! ### Two structs, stored one after the other into two new variables -/
theorem heap_alloc_old2 (w : World) (x y : Obj) : ((w.alloc x).alloc y).heap[w.heap.size]? = some x := by
  rw [Below.heap_alloc _ y _ (by simp)]
  exact heap_alloc_new w x
theorem heap_second {w w' : World} {x y : Obj} (ch : Chg (fun b => b = w.heap.size) ((w.alloc x).alloc y) w') : w'.heap[w.heap.size + 1]? = some y := by
  rw [ch.block (w.heap.size + 1) (by simp) (by omega)]
  have := heap_alloc_new (w.alloc x) y
  simpa using this
theorem Ext.of_chg22 {w w' w2 : World} {x y : Obj} (ch : Chg (fun b => b = w.heap.size) ((w.alloc x).alloc y) w') (ch2 : Chg (fun b => b = w.heap.size + 1) w' w2) : Ext w w2 :=
  ((((Ext.alloc w x).trans (Ext.alloc _ y)).chg ch (fun b hb => by omega)).chg ch2 (fun b hb => by omega))
theorem Cs.first2 {w w' w2 : World} {x y : Obj} {cs : List Value} (h : Cs w' (some ⟨w.heap.size, 0, none⟩) cs) (ch : Chg (fun b => b = w.heap.size) ((w.alloc x).alloc y) w') (ch2 : Chg (fun b => b = w.heap.size + 1) w' w2) : Cs w2 (some ⟨w.heap.size, 0, none⟩) cs :=
  Cs.chgB h ch2 (by have := ch.size; simp at this; omega) (fun h => by omega)
end Go.Proofs.Ytlimabbeaimdgaa
