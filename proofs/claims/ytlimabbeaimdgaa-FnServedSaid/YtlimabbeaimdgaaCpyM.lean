/- Models, copied: the program's part. -/
import Derived.Test.YtlimabbeaimdgaaKf
import Derived.Test.YtlimabbeaimdgaaTab
import Derived.Test.YtlimabbeaimdgaaKe
namespace Go.Proofs.Ytlimabbeaimdgaa
set_option linter.unusedSimpArgs false
set_option linter.unusedVariables false
open Go.RowKit

instance c1SlLay : Cell1 Try.prog 31 := ⟨by kernel_rfl, by kernel_rfl⟩
/-- A block of one's own, cell by cell. -/
def HB (w : World) (b : Nat) (Z : Array Value) (t : TypeId) : Prop := w.heap[b]? = some (.cells Z t)
theorem HB.cell {w : World} {b : Nat} {Z : Array Value} {t : TypeId} (h : HB w b Z t) (j : Nat) {v : Value} (hv : Z[j]? = some v) : w.cell? ⟨b, j, none⟩ = some v := cell_of_heap h hv
theorem HB.froz {w : World} {b : Nat} {Z : Array Value} {t : TypeId} (h : HB w b Z t) (j : Nat) : w.frozen? ⟨b, j, none⟩ = false := frozen_of_heap h
theorem HB.ext {w w' : World} {b : Nat} {Z : Array Value} {t : TypeId} (h : HB w b Z t) (e : Ext w w') : HB w' b Z t := by
  have hb : b < w.heap.size := by
    rcases Nat.lt_or_ge b w.heap.size with h' | h'
    · exact h'
    · unfold HB at h; simp [Array.getElem?_eq_none h'] at h
  unfold HB at *
  rw [e.block b hb]; exact h
theorem HB.lt {w : World} {b : Nat} {Z : Array Value} {t : TypeId} (h : HB w b Z t) : b < w.heap.size := by
  rcases Nat.lt_or_ge b w.heap.size with h' | h'
  · exact h'
  · unfold HB at h; simp [Array.getElem?_eq_none h'] at h
theorem HB.chg {S : Nat → Prop} {w w' : World} {b : Nat} {Z : Array Value} {t : TypeId} (h : HB w b Z t) (k : Chg S w w') (hS : ¬ S b) : HB w' b Z t := by
  have hb := h.lt
  unfold HB at *
  rw [k.block b hb hS]; exact h
theorem HB.set {w : World} {b : Nat} {Z : Array Value} {t : TypeId} (h : HB w b Z t) (j : Nat) (v : Value) : HB (w.setCell ⟨b, j, none⟩ v) b (Z.setIfInBounds j v) t := by
  unfold HB at *
  simp [World.setCell, Array.getElem?_modify, h]
theorem HB.new (w : World) (Z : Array Value) (t : TypeId) : HB (w.alloc (.cells Z t)) w.heap.size Z t := heap_alloc_new w _
theorem chg_cell (w : World) (b j : Nat) (u : Value) : Chg (fun k => k = b) w (w.setCell ⟨b, j, none⟩ u) := ⟨rfl, rfl, rfl, by simp [World.setCell], fun k hk hn => Below.heap_setCell _ _ _ _ (fun h => hn h)⟩
section
variable {P : Program} {w : World} {ops : Array Oper} {rest : List Oper} {o : Oper} {a : Act} {Q : Exit → Act → World → Prop}
/-- One cell of a block of one's own is stored. -/
theorem wl_stHB {t : TypeId} [Cell1 P t] {x y : Operand} (hg : o.guard = none) (ho : o.op = .store t x y) {b j : Nat} {Z : Array Value} {te : TypeId} {u v : Value} (hb : HB w b Z te) (hj : Z[j]? = some v) (hx : a.eval x = .pointer (some ⟨b, j, none⟩)) (hy : a.eval y = u) (hu : u.oneCell' = true)
    (h : ∀ w', HB w' b (Z.setIfInBounds j u) te → Chg (fun k => k = b) w w' → wpList P ops Q rest (a.put o.dst undef) w') : wpList P ops Q (o :: rest) a w :=
  wl_store1 hg ho hx hy hu (hb.cell j hj) (hb.froz j) (h _ (hb.set j u) ⟨rfl, rfl, rfl, by simp [World.setCell], fun k hk hn => Below.heap_setCell _ _ _ _ (fun h => hn h)⟩)
end
section
variable {P : Program} {w wf : World} {ops : Array Oper} {rest : List Oper} {o : Oper} {a : Act} {Q : Act → Prop} {F : Option Tmp → World → World → Value → Prop}
theorem x_sliceTo {t e s b : Nat} {z : Value} [T : SlTy P t e s z b] {x hi : Operand} (hw : Region.wanted o (yielded ops a.tmps) = true) (ho : o.op = .slice t x none (some hi) none) {p : Option Addr} {n c : Nat} {k2 : IntKind} {ui : Int} {u : Nat}
    (hx : a.eval x = .slice p n c) (hhi : a.eval hi = .int k2 ui) (h2 : ui = u) (h4 : u ≤ c)
    (h : wpX P ops F w wf Q rest (a.put o.dst (.slice (subp p s 0 c) (u - 0) (c - 0)))) : wpX P ops F w wf Q (o :: rest) a := by
  subst h2
  exact x_pure hw (fun w1 _ => by simp [execOp, ho, hx, hhi, run_sliceTo h4]) h
theorem x_sliceFrom {t e s b : Nat} {z : Value} [T : SlTy P t e s z b] {x lo : Operand} (hw : Region.wanted o (yielded ops a.tmps) = true) (ho : o.op = .slice t x (some lo) none none) {p : Option Addr} {n c : Nat} {k1 : IntKind} {li : Int} {l : Nat}
    (hx : a.eval x = .slice p n c) (hlo : a.eval lo = .int k1 li) (h1 : li = l) (h3 : l ≤ n) (h4 : n ≤ c)
    (h : wpX P ops F w wf Q rest (a.put o.dst (.slice (subp p s l c) (n - l) (c - l)))) : wpX P ops F w wf Q (o :: rest) a := by
  subst h1
  exact x_pure hw (fun w1 _ => by simp [execOp, ho, hx, hlo, run_sliceFrom h3 h4]) h
end
/-- Of which types the cells of blocks are. -/
def Tys (w : World) (ts : List TypeId) (bs : List Nat) : Prop := ∀ b ∈ bs, ∃ Z T m, T ∈ ts ∧ w.heap[b]? = some (.cells Z T m)
theorem heap_lt {w : World} {b : Nat} {o : Obj} (h : w.heap[b]? = some o) : b < w.heap.size := by
  rcases Nat.lt_or_ge b w.heap.size with h' | h'
  · exact h'
  · simp [Array.getElem?_eq_none h'] at h
theorem Tys.ext {w w' : World} {ts : List TypeId} {bs : List Nat} (h : Tys w ts bs) (e : Ext w w') : Tys w' ts bs := by
  intro b hb
  obtain ⟨Z, T, m, h1, h2⟩ := h b hb
  exact ⟨Z, T, m, h1, by rw [e.block b (heap_lt h2)]; exact h2⟩
theorem Tys.chg {S : Nat → Prop} {w w' : World} {ts : List TypeId} {bs : List Nat} (h : Tys w ts bs) (k : Chg S w w') (hS : ∀ b ∈ bs, ¬ S b) : Tys w' ts bs := by
  intro b hb
  obtain ⟨Z, T, m, h1, h2⟩ := h b hb
  exact ⟨Z, T, m, h1, by rw [k.block b (heap_lt h2) (hS b hb)]; exact h2⟩
theorem Tys.app {w : World} {ts : List TypeId} {a b : List Nat} (h : Tys w ts a) (k : Tys w ts b) : Tys w ts (a ++ b) := fun x hx => by
  rcases List.mem_append.1 hx with hx | hx
  · exact h x hx
  · exact k x hx
theorem Tys.mono {w : World} {ts us : List TypeId} {a : List Nat} (h : Tys w ts a) (k : ∀ t ∈ ts, t ∈ us) : Tys w us a := fun x hx => by
  obtain ⟨Z, T, m, h1, h2⟩ := h x hx
  exact ⟨Z, T, m, k T h1, h2⟩
theorem Tys.no {w : World} {ts : List TypeId} {bs : List Nat} (h : Tys w ts bs) {t : TypeId} (ht : ¬ t ∈ ts) : ∀ b ∈ bs, ∀ Z, w.heap[b]? ≠ some (.cells Z t) := by
  intro b hb Z he
  obtain ⟨Z', T, m, h1, h2⟩ := h b hb
  rw [h2] at he
  injection he with he
  injection he with _ he
  exact ht (he ▸ h1)
theorem own_tys {w : World} {B te s n c : Nat} {q : Option Addr} {vs : List Value} (h : w.ownsRow B te s (.slice q n c) n vs) : Tys w [te] (blocksOf q) := by
  intro b hb
  rcases h.2 with ⟨hv, h0⟩ | ⟨g, cap, cur, hv, hg, hh, hr⟩
  · cases hv; simp [blocksOf] at hb
  · cases hv
    simp [blocksOf] at hb; subst hb
    exact ⟨_, _, _, by simp, hh⟩
/-- A thing of one's own, the types of whose blocks are known. -/
def IsOwnY (ts : List TypeId) (B : Nat) (s : Sh) (w : World) (cs : List Value) (d : s.T) : Prop := ∃ bs, Own w s cs d bs ∧ bs.Nodup ∧ (∀ b ∈ bs, B ≤ b) ∧ Tys w ts bs
theorem IsOwnY.is {ts : List TypeId} {B : Nat} {s : Sh} {w : World} {cs : List Value} {d : s.T} (h : IsOwnY ts B s w cs d) : IsOwn B s w cs d := by
  obtain ⟨bs, h1, h2, h3, _⟩ := h; exact ⟨bs, h1, h2, h3⟩
theorem IsOwnY.ext {ts : List TypeId} {B : Nat} {s : Sh} {w w' : World} {cs : List Value} {d : s.T} (h : IsOwnY ts B s w cs d) (e : Ext w w') : IsOwnY ts B s w' cs d := by
  obtain ⟨bs, h1, h2, h3, h4⟩ := h; exact ⟨bs, h1.ext e, h2, h3, h4.ext e⟩
theorem IsOwnY.base {ts : List TypeId} {B B' : Nat} {s : Sh} {w : World} {cs : List Value} {d : s.T} (h : IsOwnY ts B s w cs d) (hB : B' ≤ B) : IsOwnY ts B' s w cs d := by
  obtain ⟨bs, h1, h2, h3, h4⟩ := h; exact ⟨bs, h1, h2, fun b hb => Nat.le_trans hB (h3 b hb), h4⟩
theorem IsOwnY.chg {ts : List TypeId} {B : Nat} {s : Sh} {w w' : World} {cs : List Value} {d : s.T} (h : IsOwnY ts B s w cs d) {S : Nat → Prop} (k : Chg S w w') (hS : ∀ b, S b → b < B) : IsOwnY ts B s w' cs d := by
  obtain ⟨bs, h1, h2, h3, h4⟩ := h
  have hn : ∀ b ∈ bs, ¬ S b := fun b hb hs => by have := h3 b hb; have := hS b hs; omega
  exact ⟨bs, h1.chg k hn, h2, h3, h4.chg k hn⟩
theorem GrowOwn.ownY {w : World} {B : Nat} {te : TypeId} {E : Sh} {v : Value} {l : List E.T} {css : List (List Value)} {bss : List (List Nat)} (h : GrowOwn w B te E v l css bss) {ts : List TypeId} (ht : Tys w ts bss.flatten) (hte : te ∈ ts) : IsOwnY ts B (.sl E) w [v] l := by
  obtain ⟨h1, h2, h3, h4⟩ := h
  have hrow := h1
  obtain ⟨hl, hr⟩ := h1
  rcases hr with ⟨rfl, h0⟩ | ⟨g, cap, cur, rfl, hg, hh, hnc, hm, hsz, ht'⟩
  · have hl0 : l = [] := List.eq_nil_of_length_eq_zero h0
    subst hl0
    exact ⟨[], own_nil, by simp, by simp, fun b hb => by simp at hb⟩
  · refine ⟨g :: bss.flatten, own_sl.2 ⟨some ⟨g, 0, none⟩, cap, css, bss, rfl, ownRow_of hrow, hnc, hm, h2, rfl⟩, ?_, ?_, ?_⟩
    · rw [List.nodup_cons]; exact ⟨fun hb => (h4 g hb).2 rfl, h3⟩
    · intro b hb
      rcases List.mem_cons.1 hb with rfl | hb
      · exact hg
      · exact (h4 b hb).1
    · intro b hb
      rcases List.mem_cons.1 hb with rfl | hb
      · exact ⟨_, _, _, hte, hh⟩
      · exact ht b hb
theorem retFl_thing3 {w w' : World} {xs : List Nat} {e : Ending} {n : Nat} (hn : xs.length = n) (h : RetFl w xs e w') : ∃ q c bs, e = .returned (.slice q n c) ∧ Own w' (.sl .flt) [.slice q n c] xs bs ∧ bs.Nodup ∧ (∀ b ∈ bs, w.heap.size ≤ b) ∧ Ext w w' ∧ Tys w' [49] bs := by
  subst hn
  obtain ⟨q, c, vs, he, ho, hf, hx⟩ := h
  refine ⟨q, c, blocksOf q, he, own_flts.2 ⟨q, c, vs, rfl, ownRow_of ho, hf, (own_cap ho).1, (own_cap ho).2, rfl⟩, ?_, ?_, hx, own_tys ho⟩
  · cases q <;> simp [blocksOf]
  · intro b hb
    cases q with
    | none => simp [blocksOf] at hb
    | some a => simp [blocksOf] at hb; subst hb; exact own_le ho _ rfl
/-- Layers that are few and small. -/
def Small (L : List shLayer.T) : Prop := L.length ≤ 12 ∧ ∀ d ∈ L, (d.2.2.2.1 : List Nat).length ≤ 64 ∧ (d.2.2.2.2.1 : List Nat).length ≤ 64
theorem lay_full {w : World} {cs : List Value} {d : shLayer.T} (h : Rep w shLayer cs d) : ∃ pw cw pb cb uw ub, cs = [.int .i64 d.1, .int .i64 d.2.1, .int .i64 d.2.2.1, .slice pw (d.2.2.2.1 : List Nat).length cw, .slice pb (d.2.2.2.2.1 : List Nat).length cb] ∧
    (Cs w pw uw ∧ F32s uw d.2.2.2.1 ∧ (d.2.2.2.1 : List Nat).length ≤ cw) ∧ (Cs w pb ub ∧ F32s ub d.2.2.2.2.1 ∧ (d.2.2.2.2.1 : List Nat).length ≤ cb) := by
  obtain ⟨a1, a2, a3, a4, a5, au⟩ := d
  obtain ⟨_, _, rfl, rfl, _, _, rfl, rfl, _, _, rfl, rfl, _, _, rfl, h4, _, _, rfl, h5, rfl⟩ := h
  obtain ⟨p4, c4, u4, rfl, g1, g2, g3, _⟩ := rep_flts.1 h4
  obtain ⟨p5, c5, u5, rfl, k1, k2, k3, _⟩ := rep_flts.1 h5
  exact ⟨p4, c4, p5, c5, u4, u5, rfl, ⟨g1, g2, g3⟩, ⟨k1, k2, k3⟩⟩
theorem own_lay {w : World} {d : shLayer.T} {qw qb : Option Addr} {lw kw lb kb : Nat} {bw bb : List Nat} (h1 : Own w (.sl .flt) [.slice qw lw kw] d.2.2.2.1 bw) (h2 : Own w (.sl .flt) [.slice qb lb kb] d.2.2.2.2.1 bb) :
    Own w shLayer [.int .i64 d.1, .int .i64 d.2.1, .int .i64 d.2.2.1, .slice qw lw kw, .slice qb lb kb] d (bw ++ bb) := by
  obtain ⟨a1, a2, a3, a4, a5, au⟩ := d
  exact ⟨[.int .i64 a1], [.int .i64 a2, .int .i64 a3, .slice qw lw kw, .slice qb lb kb], [], bw ++ bb, rfl, ⟨rfl, rfl⟩, ⟨[.int .i64 a2], [.int .i64 a3, .slice qw lw kw, .slice qb lb kb], [], bw ++ bb, rfl, ⟨rfl, rfl⟩, ⟨[.int .i64 a3], [.slice qw lw kw, .slice qb lb kb], [], bw ++ bb, rfl, ⟨rfl, rfl⟩,
    ⟨[.slice qw lw kw], [.slice qb lb kb], bw, bb, rfl, h1, ⟨[.slice qb lb kb], [], bb, [], rfl, h2, ⟨rfl, rfl⟩, by simp⟩, rfl⟩, rfl⟩, rfl⟩, rfl⟩
theorem take_snoc {A : Type} {l : List A} {i : Nat} {d : A} (h : l[i]? = some d) : l.take i ++ [d] = l.take (i + 1) := by
  rw [List.take_add_one, h]; rfl
theorem GrowOwn.chgB {S : Nat → Prop} {w w' : World} {B : Nat} {te : TypeId} {E : Sh} {v : Value} {l : List E.T} {css : List (List Value)} {bss : List (List Nat)} (h : GrowOwn w B te E v l css bss) (k : Chg S w w') (hS : ∀ b, S b → b < B) : GrowOwn w' B te E v l css bss :=
  ⟨own_chgB h.row k hS, h.els.chg k (fun b hb hs => by have := (h.lo b hb).1; have := hS b hs; omega), h.nodup, h.lo⟩
set_option maxRecDepth 100000 in
set_option maxHeartbeats 4000000 in
theorem copyModel_any (p : Option Addr) (n c : Nat) (css : List (List Value)) (L : List shLayer.T) (w : World) (hL : Lays w p n css L) (hS : Small L) :
    Calls Try.prog 117 #[.agg #[.slice p n c]] w fun e w' => ∃ q k, e = .returned (.agg #[.slice q n k]) ∧ IsOwnY [65, 49] w.heap.size (.sl shLayer) w' [.slice q n k] L ∧ Ext w w' := by
  have hn : n ≤ 12 := by have := hS.1; rw [hL.len] at this; exact this
  have HS := hid hS.2
  have HL := hid hL.len
  have l1 := hL.cs; have l2 := hL.all; have l3 := hL.size; have l5 := hid hL.cnt
  obtain ⟨W0, hW0⟩ : ∃ W0, W0 = ((w.alloc (.cells #[.slice p n c] 33)).alloc (.cells #[.slice none 0 0] 33)).alloc (.cells #[.slice none 0 0] 33) := ⟨_, rfl⟩
  obtain ⟨E0, s0, _, b1, b2⟩ := box3 hW0
  have b1 : HB W0 (w.heap.size + 1) #[.slice none 0 0] 33 := b1
  have b2 : HB W0 (w.heap.size + 1 + 1) #[.slice none 0 0] 33 := b2
  have hst : W0.ownsRow W0.heap.size 65 shLayer.sz (.slice none 0 0) 0 [] := ⟨rfl, .inl ⟨rfl, rfl⟩⟩
  clear hL hS
  go_enter Try.func117, Try.ntmps117
  go_wp2_with fail
  rw [← hW0]
  clear hW0
  go_loopw [10] (fun iv wr => ∃ (i k : Nat) (q : Option Addr) (cs : List (List Value)) (bss : List (List Nat)), i ≤ n ∧ iv = .int .i64 i ∧ HB wr (w.heap.size + 1 + 1) #[.slice q i k] 33 ∧ HB wr (w.heap.size + 1) #[.slice none 0 0] 33 ∧ Hid (GrowOwn wr W0.heap.size 65 shLayer (.slice q i k) (L.take i) cs bss) ∧ Hid (Tys wr [49] bss.flatten) ∧ Ext w wr ∧ W0.heap.size ≤ wr.heap.size) (fun iv _ => n - (intOf iv).toNat)
  case atStart => exact ⟨0, 0, none, [], [], by omega, rfl, b2, b1, GrowOwn.empty hst, fun b hb => by simp at hb, E0, Nat.le_refl _⟩
  case round =>
    clear b1 b2 hst E0
    obtain ⟨i, k, q, cs, bss, hi, rfl, B2, B1, HG, HT, he, hsz⟩ := hrel
    by_cases hlt : i < n
    · have hil : i < L.length := by rw [HL.out]; exact hlt
      obtain ⟨ci, hci, ri⟩ := l2.get i L[i] (by simp)
      have hs1 : p.isSome = true := l1.some_of l3 (by decide) (show 0 < css.length by rw [l5.out]; omega)
      have hp := l1.ext he
      have one := ri.one
      obtain ⟨hw1, hw2⟩ := HS.out L[i] (by simp)
      obtain ⟨pw, cw, pb, cb, uw, ub, rfl, ⟨x1, x2, x3⟩, ⟨y1, y2, y3⟩⟩ := lay_full ri
      have C1 := hid (fun W (h : Ext w W) => cloneF_any pw _ cw uw _ W rfl (by omega) x3 (x1.ext h) x2)
      have C2 := hid (fun W (h : Ext w W) => cloneF_any pb _ cb ub _ W rfl (by omega) y3 (y1.ext h) y2)
      have HD := hid (show L[i]? = some L[i] by simp)
      generalize L[i] = d at *
      obtain ⟨d1, d2, d3, ws, bs, du⟩ := d
      dsimp only at hci one C1 C2 HD hw1 hw2
      have HH := hid (And.intro hw1 hw2)
      have hlw := hid (rfl : ws.length = ws.length)
      generalize hlw0 : ws.length = lw at *
      generalize hlb0 : bs.length = lb at *
      have Hlw := hid hlw0
      have Hlb := hid hlb0
      clear hlw0 hlb0 x1 x2 x3 y1 y2 y3 ri hw1 hw2 hlw
      have g2 : wr.cell? ⟨w.heap.size + 1 + 1, 0, none⟩ = some (.slice q i k) := B2.cell 0 rfl
      have hB2 := B2.lt
      have b5 := HB.new wr #[.int .i64 d1, .int .i64 d2, .int .i64 d3, .slice pw lw cw, .slice pb lb cb] 65
      obtain ⟨W1, hW1⟩ : ∃ W1, W1 = wr.alloc (.cells #[.int .i64 d1, .int .i64 d2, .int .i64 d3, .slice pw lw cw, .slice pb lb cb] 65) := ⟨_, rfl⟩
      have E1 : Ext wr W1 := by subst hW1; exact Ext.alloc _ _
      rw [← hW1] at b5
      go_wp2_with ((with_reducible show wpList _ _ _ (Oper.mk _ (Op.indexAddr _ _ _) _ _ _ _ :: Oper.mk _ (Op.load _ _) _ _ _ _ :: _) _ _); refine wl_idxloadE (s := shLayer) (j := i) rfl rfl rfl rfl (fun _ => rfl) rfl rfl rfl hp l3 l5.out hlt hs1 hci ?_; simp only [ofCs, Sh.agg, if_true])
      rw [← hW1]
      clear hW1
      refine (C1.out _ (he.trans E1)).mono ?_
      intro e w2 h2
      obtain ⟨qw, kw, bw, rfl, ow, ndw, low, e2, tw⟩ := retFl_thing3 Hlw.out h2
      have E2 := E1.trans e2
      have b6 := b5.ext e2
      have m3 : w2.cell? ⟨wr.heap.size, 3, none⟩ = some (.slice pw lw cw) := b6.cell 3 rfl
      have hW1s := b5.lt
      clear h2 b5
      go_wp2_with ((with_reducible show wpList _ _ _ (Oper.mk _ (Op.store _ _ _) _ _ _ _ :: _) _ _); refine wl_stHB (j := 3) rfl rfl b6 rfl rfl rfl rfl ?_; intro w3 b7 ch3; have E3 := E2.chg ch3 (fun b hb => by omega); have m4 : w3.cell? ⟨wr.heap.size, 4, none⟩ = some (.slice pb lb cb) := b7.cell 4 rfl)
      refine (C2.out _ (he.trans E3)).mono ?_
      intro e w4 h4
      obtain ⟨qb, kb, bb, rfl, ob, ndb, lob, e4, tb⟩ := retFl_thing3 Hlb.out h4
      have E4 := E3.trans e4
      have b8 := b7.ext e4
      clear h4 b7
      have hrow := HG.out.row
      rw [List.length_take, HL.out, Nat.min_eq_left (by omega)] at hrow
      go_wp2_with (first | ((with_reducible show wpList _ _ _ (Oper.mk _ (Op.store _ _ _) _ _ _ _ :: _) _ _); refine wl_stHB (j := 4) rfl rfl b8 rfl rfl rfl rfl ?_; intro w5 b9 ch5; have E5 := E4.chg ch5 (fun b hb => by omega); have k0 : w5.cell? ⟨wr.heap.size, 0, none⟩ = some (.int .i64 d1) := b9.cell 0 rfl; have k1 : w5.cell? ⟨wr.heap.size, 1, none⟩ = some (.int .i64 d2) := b9.cell 1 rfl; have k2 : w5.cell? ⟨wr.heap.size, 2, none⟩ = some (.int .i64 d3) := b9.cell 2 rfl; have k3 : w5.cell? ⟨wr.heap.size, 3, none⟩ = some (.slice qw lw kw) := b9.cell 3 rfl; have k4 : w5.cell? ⟨wr.heap.size, 4, none⟩ = some (.slice qb lb kb) := b9.cell 4 rfl; have g5 := E5.cell g2) | ((with_reducible show wpList _ _ _ (Oper.mk _ (Op.buildSlice _ _ _) _ _ _ _ :: Oper.mk _ (Op.call _) _ _ _ _ :: _) _ _); refine wl_app1b (u := .agg #[.int .i64 d1, .int .i64 d2, .int .i64 d3, .slice qw lw kw, .slice qb lb kb]) rfl rfl rfl rfl rfl (by rfl) (by rfl) (fun _ => rfl) (fun _ => rfl) (own_ext hrow E5) (by unfold maxLen; omega) (by omega) (by have := E5.size; omega) ?_; intro g9 c9 w9 own9 gr9 hw9; have hg9 : HB w9 (w.heap.size + 1 + 1) #[.slice q i k] 33 := (B2.ext E5).chg (.of_grown gr9) (fun h => by have := own_le hrow _ h.symm; omega)) | ((with_reducible show wpList _ _ _ (Oper.mk _ (Op.store _ _ _) _ _ _ _ :: _) _ _); refine wl_stHB (j := 0) rfl rfl hg9 rfl rfl rfl rfl ?_; intro w10 b10 ch10))
      go_roundw
      case rel =>
        have tw5 := ((tw.chg ch3 (fun b hb h => by have h : b = _ := h; have := low b hb; omega)).ext e4).chg ch5 (fun b hb h => by have h : b = _ := h; have := low b hb; omega)
        have tb5 := tb.chg ch5 (fun b hb h => by have h : b = _ := h; have := lob b hb; have := e2.size; have := ch3.size; omega)
        have T9 : Tys w10 [49] (bss ++ [bw ++ bb]).flatten := by
          have hh : (bss ++ [bw ++ bb]).flatten = bss.flatten ++ (bw ++ bb) := by simp
          rw [hh]
          refine ((((HT.out.ext E5).app (tw5.app tb5)).chg (.of_grown gr9) (fun b hb h => ?_)).chg ch10 (fun b hb h => ?_))
          · rcases List.mem_append.1 hb with hb | hb
            · exact (HG.out.lo b hb).2 h.symm
            · have hlt2 := own_lt hrow b h.symm
              rcases List.mem_append.1 hb with hb | hb
              · have := low b hb; omega
              · have := lob b hb; have := e2.size; have := ch3.size; omega
          · have h : b = _ := h
            rcases List.mem_append.1 hb with hb | hb
            · have := (HG.out.lo b hb).1; omega
            · rcases List.mem_append.1 hb with hb | hb
              · have := low b hb; omega
              · have := lob b hb; have := e2.size; have := ch3.size; omega
        have ow3 := ow.chg ch3 (fun b hb h => by have := low b hb; omega)
        have ow5 : Own w5 (.sl .flt) [.slice qw lw kw] ws bw := (ow3.ext e4).chg ch5 (fun b hb h => by have := low b hb; omega)
        have hs3 := ch3.size
        have hs2 := e2.size
        have ob5 : Own w5 (.sl .flt) [.slice qb lb kb] bs bb := ob.chg ch5 (fun b hb h => by have := lob b hb; omega)
        have H9 := HG.out.snoc E5 (own_lay (d := (d1, d2, d3, ws, bs, du)) ow5 ob5) (nodup_app ndw ndb (fun x hx => by have := ow.lt x hx; have := e2.size; omega) (fun x hx => lob x hx)) (fun b hb => by
          rcases List.mem_append.1 hb with h | h
          · have := low b h; omega
          · have := lob b h; omega) hsz (n := i) (by rw [List.length_take, HL.out, Nat.min_eq_left (by omega)]) own9 gr9 hw9
        rw [take_snoc HD.out] at H9
        exact ⟨i + 1, c9, some ⟨g9, 0, none⟩, _, _, by omega, by go_num, b10, ((B1.ext E5).chg (.of_grown gr9) (fun h => by have := own_le hrow _ h.symm; omega)).chg ch10 (fun h => by omega), H9.chgB ch10 (fun b hb => by omega), T9, ((he.trans E5).grown gr9 (fun kk hk => by have := own_le hrow kk hk; omega)).chg ch10 (fun b hb => by omega), by have := E5.size; have := gr9.size; have := ch10.size; omega⟩
      case measure => simp [intOf]; omega
    · obtain rfl : i = n := by omega
      have HG2 := HG.out
      rw [List.take_of_length_le (by rw [HL.out]; exact Nat.le_refl _)] at HG2
      have HG3 := hid (HG2.ownY (ts := [65, 49]) (HT.out.mono (by simp)) (by simp))
      have hB1 := B1.lt
      have g2 : wr.cell? ⟨w.heap.size + 1 + 1, 0, none⟩ = some (.slice q i k) := B2.cell 0 rfl
      have g1 : wr.cell? ⟨w.heap.size + 1, 0, none⟩ = some (.slice none 0 0) := B1.cell 0 rfl
      have g3 := B1.froz 0
      clear HG HG2
      go_wp2
      refine bodyPost_ret (v := .agg #[.slice q i k]) (by simp [results, Try.results117, go_sem, g1, g3]) rfl ?_
      have ch := chg_cell wr (w.heap.size + 1) 0 (.slice q i k)
      exact ⟨q, k, rfl, (IsOwnY.chg HG3.out ch (fun b hb => by omega)).base (by omega), he.chg ch (fun b hb => by omega)⟩
end Go.Proofs.Ytlimabbeaimdgaa
