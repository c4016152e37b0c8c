/- A part of the proofs: TnK, TnL, TnL1, TnL2. -/
import Derived.Test.YtlimabbeaimdgaaGreatZ12Evalua
import Derived.Test.YtlimabbeaimdgaaGreatTnJa
import Derived.Test.YtlimabbeaimdgaaGreatZ14Evalua
set_option linter.unusedSimpArgs false
set_option linter.unusedVariables false
namespace Go.Proofs.YtlimabbeaimdgaaGreat
open Go.RowKit
theorem valT_mk {k : Nat} (hk : k ≠ 0) (a b z : Nat) (vs : List shTensor.T) : valT (mkOp k a b z t0) vs = opV k z (vs.getD a t0) (vs.getD b t0) := by
 unfold valT mkOp
 rw [if_neg (by simp; exact hk)]
 simp only [Int.toNat_natCast]
structure Ops (w : World) (p : Option Addr) (n : Nat) (css : List (List Value)) (ops : List shOp.T) : Prop where
 cs : Cs w p css.flatten
 all : All2 (Rep w shOp) css ops
 cnt : css.length = n
theorem Ops.ext {w w' : World} {p : Option Addr} {n : Nat} {css : List (List Value)} {ops : List shOp.T} (h : Ops w p n css ops) (e : Ext w w') : Ops w' p n css ops :=
 ⟨h.cs.ext e, h.all.imp fun _ _ => Rep.ext e, h.cnt⟩
theorem Ops.len {w : World} {p : Option Addr} {n : Nat} {css : List (List Value)} {ops : List shOp.T} (h : Ops w p n css ops) : ops.length = n := by rw [← h.cnt]; exact h.all.length.symm
theorem Ops.size {w : World} {p : Option Addr} {n : Nat} {css : List (List Value)} {ops : List shOp.T} (h : Ops w p n css ops) : ∀ c ∈ css, c.length = shOp.sz := by
 intro c hc
 obtain ⟨i, hi, rfl⟩ := List.mem_iff_getElem.1 hc
 have hv : i < ops.length := by rw [h.len, ← h.cnt]; exact hi
 obtain ⟨_, hr⟩ := h.all.get' i hv
 exact hr.size
theorem Ops.at' {w : World} {p : Option Addr} {n : Nat} {css : List (List Value)} {ops : List shOp.T} (h : Ops w p n css ops) {j : Nat} (hj : j < n) : ∃ cs, css[j]? = some cs ∧ Rep w shOp cs (ops.getD j o0) := by
 have hv : j < ops.length := by rw [h.len]; exact hj
 obtain ⟨h1, hr⟩ := h.all.get' j hv
 refine ⟨css[j], by simp, ?_⟩
 rw [show ops.getD j o0 = ops[j] by simp [hv]]
 exact hr
theorem value_any {sh : Nat → Nat × Nat} {i : Nat} {o : shOp.T} (h : OpOk sh i o) (hs : ∀ j, j ≤ i → SideOk (sh j)) (oc : List Value) (p : Option Addr) (cp : Nat) (css : List (List Value)) (vs : List shTensor.T) (w : World) (T : Tens w p i css vs) (hv : ∀ j, j < i → Shaped (sh j) (vs.getD j t0)) (ho : Rep w shOp oc o) :
 Calls Tryz.prog 83 #[ofCs shOp oc, .slice p i cp] w (RetTen w (valT o vs).1 (valT o vs).2.1 (valT o vs).2.2.1) := by
 have key : ∀ a, a < i → ∃ cs, css[a]? = some cs ∧ TenAt w cs (sh a) (vs.getD a t0) := fun a ha => T.at' hv ha
 cases h with
 | inp r c xs hl h1 =>
   have h2 := hs i (Nat.le_refl _)
   rw [h1] at h2
   obtain ⟨_, i2, _, i4⟩ := h2
   exact value_inp r c xs oc p i cp w hl i2 i4 ho
 | add a b ha hb h1 h2 =>
   obtain ⟨ca, k1, k2⟩ := key a ha
   obtain ⟨cb, k3, k4⟩ := key b hb
   rw [valT_mk (by decide)]
   exact value_1 a b 0 oc p i cp css vs ca cb _ _ _ _ w T ha hb k1 k3 k2 k4 (hs a (by omega)) (hs b (by omega)) h1 ho
 | addR a b ha hb h1 h2 =>
   obtain ⟨ca, k1, k2⟩ := key a ha
   obtain ⟨cb, k3, k4⟩ := key b hb
   rw [valT_mk (by decide)]
   exact value_2 a b 0 oc p i cp css vs ca cb _ _ _ _ w T ha hb k1 k3 k2 k4 (hs a (by omega)) (hs b (by omega)) h1 ho
 | mul a b ha hb h1 h2 =>
   obtain ⟨ca, k1, k2⟩ := key a ha
   obtain ⟨cb, k3, k4⟩ := key b hb
   rw [valT_mk (by decide)]
   exact value_3 a b 0 oc p i cp css vs ca cb _ _ _ _ w T ha hb k1 k3 k2 k4 (hs a (by omega)) (hs b (by omega)) h1 ho
 | mulR a b ha hb h1 h2 =>
   obtain ⟨ca, k1, k2⟩ := key a ha
   obtain ⟨cb, k3, k4⟩ := key b hb
   rw [valT_mk (by decide)]
   exact value_4 a b 0 oc p i cp css vs ca cb _ _ _ _ w T ha hb k1 k3 k2 k4 (hs a (by omega)) (hs b (by omega)) h1 ho
 | scl a z ha h2 =>
   obtain ⟨ca, k1, k2⟩ := key a ha
   obtain ⟨cb, k3, k4⟩ := key 0 (by omega)
   rw [valT_mk (by decide)]
   exact value_5 a 0 z oc p i cp css vs ca cb _ _ _ _ w T ha (by omega) k1 k3 k2 k4 (hs a (by omega)) (hs 0 (by omega)) ho
 | mm a b ha hb h1 h2 =>
   obtain ⟨ca, k1, k2⟩ := key a ha
   obtain ⟨cb, k3, k4⟩ := key b hb
   rw [valT_mk (by decide)]
   exact value_6 a b 0 oc p i cp css vs ca cb _ _ _ _ w T ha hb k1 k3 k2 k4 (hs a (by omega)) (hs b (by omega)) h1 ho
 | turn a ha h2 =>
   obtain ⟨ca, k1, k2⟩ := key a ha
   obtain ⟨cb, k3, k4⟩ := key 0 (by omega)
   rw [valT_mk (by decide)]
   exact value_7 a 0 0 oc p i cp css vs ca cb _ _ _ _ w T ha (by omega) k1 k3 k2 k4 (hs a (by omega)) (hs 0 (by omega)) ho
 | relu a ha h2 =>
   obtain ⟨ca, k1, k2⟩ := key a ha
   obtain ⟨cb, k3, k4⟩ := key 0 (by omega)
   rw [valT_mk (by decide)]
   exact value_8 a 0 0 oc p i cp css vs ca cb _ _ _ _ w T ha (by omega) k1 k3 k2 k4 (hs a (by omega)) (hs 0 (by omega)) ho
 | sqr a ha h2 =>
   obtain ⟨ca, k1, k2⟩ := key a ha
   obtain ⟨cb, k3, k4⟩ := key 0 (by omega)
   rw [valT_mk (by decide)]
   exact value_9 a 0 0 oc p i cp css vs ca cb _ _ _ _ w T ha (by omega) k1 k3 k2 k4 (hs a (by omega)) (hs 0 (by omega)) ho
 | sum a ha h2 =>
   obtain ⟨ca, k1, k2⟩ := key a ha
   obtain ⟨cb, k3, k4⟩ := key 0 (by omega)
   rw [valT_mk (by decide)]
   exact value_10 a 0 0 oc p i cp css vs ca cb _ _ _ _ w T ha (by omega) k1 k3 k2 k4 (hs a (by omega)) (hs 0 (by omega)) ho
def IsTs (B : Nat) (l : List shTensor.T) (w : World) (u : Value) : Prop := ∃ css bss, GrowOwn w B 37 shTensor u l css bss
theorem IsTs.tens {B : Nat} {l : List shTensor.T} {w : World} {u : Value} (h : IsTs B l w u) : ∃ q k css, u = .slice q l.length k ∧ Tens w q l.length css l ∧ l.length ≤ k ∧ k ≤ maxLen := by
 obtain ⟨css, bss, hg⟩ := h
 obtain ⟨q, k, rfl⟩ := own_slice hg.row
 refine ⟨q, k, css, rfl, ⟨own_Cs hg.row, ?_, hg.els.1⟩, (own_cap hg.row).1, (own_cap hg.row).2⟩
 have k1 := hg.els.1; have k2 := hg.els.2.1
 refine All2.of_get k1 fun i cs d hc hd => ?_
 have hi : i < css.length := (List.getElem?_eq_some_iff.1 hc).1
 exact (hg.els.2.2 i cs (bss[i]'(by omega)) d hc (by simp) hd).rep
theorem own_mk {w : World} {r c : Int} {q : Option Addr} {k n : Nat} {xs : List Nat} {vs : List Value} {B : Nat} (hl : xs.length = n) (h : w.ownsRow B 48 1 (.slice q n k) n vs) (hf : F32s vs xs) : Own w shTensor [.int .i64 r, .int .i64 c, .slice q n k] (r, c, xs, ()) (blocksOf q) ∧ (blocksOf q).Nodup ∧ ∀ b ∈ blocksOf q, B ≤ b := by
 subst hl
 refine ⟨own_ten rfl (own_flts.2 ⟨q, k, vs, rfl, ownRow_of h, hf, (own_cap h).1, (own_cap h).2, rfl⟩), ?_, fun b hb => ?_⟩
 · cases q <;> simp [blocksOf]
 · cases q with
   | none => simp [blocksOf] at hb
   | some a => simp [blocksOf] at hb; subst hb; exact own_le h _ rfl
theorem op_vals {w : World} {cs : List Value} {d : shOp.T} (h : Rep w shOp cs d) : ∃ (k a b r c : Int) (zb : Nat) (q : Option Addr) (m cc : Nat), cs = [.int .i64 k, .int .i64 a, .int .i64 b, .float .f32 zb, .int .i64 r, .int .i64 c, .slice q m cc] := by
 obtain ⟨_, _, rfl, rfl, _, _, rfl, rfl, _, _, rfl, rfl, _, _, rfl, ⟨zb, rfl, hz⟩, ct, _, rfl, ht, rfl⟩ := h
 obtain ⟨q, c, us, rfl, _⟩ := ten_vals ht
 exact ⟨_, _, _, _, _, _, _, _, _, rfl⟩
set_option maxRecDepth 100000 in
set_option maxHeartbeats 4000000 in
theorem runTape_any {sh : Nat → Nat × Nat} (p : Option Addr) (n c : Nat) (css : List (List Value)) (ops : List shOp.T) (w : World) (O : Ops w p n css ops) (hT : TapeOk sh ops) (h1 : 1 ≤ n) :
 Calls Tryz.prog 66 #[.slice p n c] w fun e w' => ∃ u, e = .returned u ∧ IsTs w.heap.size (valsT ops n) w' u ∧ Ext w w' := by
 have hlen := O.len
 have hn : n ≤ 48 := by have := hT.len; omega
 have hps : p.isSome = true := O.cs.some_of (s := 7) (i := 0) O.size (by decide) (by have := O.cnt; omega)
 have K := hid (fun i (hi : i < n) (oc : List Value) (q : Option Addr) (k : Nat) (cs2 : List (List Value)) (W : World) (T : Tens W q i cs2 (valsT ops i)) (ho : Rep W shOp oc (ops.getD i o0)) => value_any (hT.ok i (by omega)) (fun j hj => hT.side j (by omega)) oc q k cs2 (valsT ops i) W T (fun j hj => vals_shaped hT i (by omega) j hj) ho)
 have HO := hid O
 have HT := hid hT
 have HV := hid (fun i => show valsT ops (i + 1) = valsT ops i ++ [valT (ops.getD i o0) (valsT ops i)] from rfl)
 have HVL := hid (fun i => valsT_len ops i)
 clear O hT hlen
 have G0 : GrowOwn (w.alloc (.cells #[] 37)) w.heap.size 37 shTensor (.slice (some ⟨w.heap.size, 0, none⟩) 0 0) [] [] [] := GrowOwn.empty (World.ownsRow_made w #[] 0 (Nat.le_refl _) (by decide) rfl)
 have E0 := Ext.alloc w (.cells #[] 37)
 go_enter Tryz.func66, Tryz.ntmps66
 go_wp2
 go_loopw [3, 9] (fun v iv wr => ∃ (i : Nat) (cs2 : List (List Value)) (bss : List (List Nat)), i ≤ n ∧ iv = .int .i64 (i : Int) ∧ GrowOwn wr w.heap.size 37 shTensor v (valsT ops i) cs2 bss ∧ Ext w wr) (fun _ iv _ => n - (intOf iv).toNat)
 case atStart => exact ⟨0, [], [], by omega, rfl, G0, E0⟩
 case round =>
  clear G0 E0
  obtain ⟨i, cs2, bss, hi, rfl, hG, he⟩ := hrel
  by_cases hlt : i < n
  · obtain ⟨oc, hoc, hro⟩ := HO.out.at' hlt
    have hTs : IsTs w.heap.size (valsT ops i) wr u3 := ⟨_, _, hG⟩
    obtain ⟨q, k, cs3, hu3, hten, hk1, hk2⟩ := hTs.tens
    rw [HVL.out i] at hu3 hten hk1
    subst hu3
    obtain ⟨ok, oa, ob, orr, oc', zb, oq, om, occ, rfl⟩ := op_vals hro
    obtain ⟨W1, hW1⟩ : ∃ W1, W1 = wr.alloc (.cells #[.int .i64 ok, .int .i64 oa, .int .i64 ob, .float .f32 zb, .int .i64 orr, .int .i64 oc', .slice oq om occ] 79) := ⟨_, rfl⟩
    have e1 : Ext wr W1 := by rw [hW1]; exact Ext.alloc _ _
    have KC := hid (K.out i hlt _ q k cs3 W1 (hten.ext e1) (hro.ext (he.trans e1)))
    have hcs := (HO.out.ext he).cs
    have hcnt := HO.out.cnt
    have hsz := HO.out.size
    have Hoc := hid hoc
    have G1 := hid (hG.ext e1)
    simp only [ofCs, Sh.agg, if_true] at KC
    have HVi := hid (HV.out i)
    have HVLi := hid (HVL.out i)
    generalize valT (ops.getD i o0) (valsT ops i) = tv at *
    obtain ⟨tr, tc, tx, tu⟩ := tv
    clear hoc hro hten hTs hG K HV HVL
    dsimp only at KC
    go_wp2_with (first | ((with_reducible show wpList _ _ _ (Oper.mk _ (Op.indexAddr _ _ _) _ _ _ _ :: Oper.mk _ (Op.load _ _) _ _ _ _ :: _) _ _); refine wl_idxloadE (s := shOp) (j := i) rfl rfl rfl rfl (fun _ => rfl) rfl rfl rfl hcs hsz hcnt hlt hps Hoc.out ?_; simp only [ofCs, Sh.agg, if_true]) | fail)
    rw [← hW1]
    clear hW1
    refine KC.out.mono ?_
    rintro e w2 ⟨tq, tk, ws, rfl, town, thf, e2⟩
    have E2 := e1.trans e2
    have HG2 := hid (G1.out.ext e2)
    have hrow := HG2.out.row
    rw [HVLi.out] at hrow
    have Hs1 := e1.size
    have Hs2 := e2.size
    have Hs0 := he.size
    obtain ⟨ho1, ho2, ho3⟩ := own_mk (r := tr) (c := tc) (B := W1.heap.size) rfl town thf
    have HO1 := hid ho1; have HO3 := hid ho3
    clear ho1 ho3
    go_wp2_with ((with_reducible show wpList _ _ _ (Oper.mk _ (Op.buildSlice _ _ _) _ _ _ _ :: Oper.mk _ (Op.call _) _ _ _ _ :: _) _ _); refine wl_app1b (u := .agg #[.int .i64 tr, .int .i64 tc, .slice tq (List.length tx) tk]) rfl rfl rfl rfl rfl rfl rfl (fun _ => rfl) (fun _ => rfl) hrow (by unfold maxLen; omega) (by omega) (by omega) ?_; intro g9 c9 w9 own9 g9' hg9)
    go_roundw
    case rel =>
     have hsn := G1.out.snoc e2 HO1.out ho2 HO3.out (by omega) HVLi.out own9 g9' hg9
     exact ⟨i + 1, _, _, by omega, by go_num, by rw [HVi.out]; exact hsn, (he.trans E2).grown g9' (fun k hk => by have := own_le hrow k hk; omega)⟩
    case measure => simp [intOf]; omega
  · obtain rfl : i = n := by omega
    go_wp2
    go_ret
    exact ⟨_, rfl, ⟨_, _, hG⟩, he⟩
theorem rep_ten {w : World} {r c : Int} {q : Option Addr} {n k : Nat} {us : List Value} {xs : List Nat} (hl : xs.length = n) (hq : Cs w q us) (hf : F32s us xs) (h1 : n ≤ k) (h2 : k ≤ maxLen) : Rep w shTensor [.int .i64 r, .int .i64 c, .slice q n k] (r, c, xs, ()) := by
 subst hl
 exact ⟨[.int .i64 r], [.int .i64 c, .slice q xs.length k], rfl, rfl, [.int .i64 c], [.slice q xs.length k], rfl, rfl, [.slice q xs.length k], [], by simp, rep_flts.2 ⟨q, k, us, rfl, hq, hf, h1, h2⟩, rfl⟩
def RepV (w : World) (u : Value) (d : shTensor.T) : Prop := ∃ cs, u = ofCs shTensor cs ∧ Rep w shTensor cs d
theorem RepV.of {w : World} {r c : Int} {q : Option Addr} {n k : Nat} {us : List Value} {xs : List Nat} (hl : xs.length = n) (hq : Cs w q us) (hf : F32s us xs) (h1 : n ≤ k) (h2 : k ≤ maxLen) : RepV w (.agg #[.int .i64 r, .int .i64 c, .slice q n k]) (r, c, xs, ()) :=
 ⟨_, rfl, rep_ten hl hq hf h1 h2⟩
theorem RepV.nil {w : World} : RepV w (.agg #[.int .i64 0, .int .i64 0, .slice none 0 0]) t0 := RepV.of (us := []) rfl (Cs.nil _ _) F32s.nil (Nat.le_refl _) (Nat.zero_le _)
def RepF (fs : List Nat) (w : World) (u : Value) (d : shTensor.T) : Prop := ∀ (W : World) (S : Nat → Prop), (∀ b ∈ fs, ¬ S b) → Chg S w W → RepV W u d
theorem RepF.of {fs : List Nat} {w : World} {r c : Int} {q : Option Addr} {n k : Nat} {us : List Value} {xs : List Nat} (hl : xs.length = n) (hq : ∀ (W : World) (S : Nat → Prop), (∀ b ∈ fs, ¬ S b) → Chg S w W → Cs W q us) (hf : F32s us xs) (h1 : n ≤ k) (h2 : k ≤ maxLen) : RepF fs w (.agg #[.int .i64 r, .int .i64 c, .slice q n k]) (r, c, xs, ()) :=
 fun W S hS ch => RepV.of hl (hq W S hS ch) hf h1 h2
theorem RepF.own {B : Nat} {w : World} {r c : Int} {q : Option Addr} {n k : Nat} {us : List Value} {xs : List Nat} (hl : xs.length = n) (h : w.ownsRow B 48 1 (.slice q n k) n us) (hf : F32s us xs) : RepF (blocksOf q) w (.agg #[.int .i64 r, .int .i64 c, .slice q n k]) (r, c, xs, ()) :=
 RepF.of hl (fun W S hS ch => ((ownRow_of h).chg ch hS).cs) hf (own_cap h).1 (own_cap h).2
theorem RepF.nil {w : World} : RepF [] w (.agg #[.int .i64 0, .int .i64 0, .slice none 0 0]) t0 := fun _ _ _ _ => RepV.nil
theorem RepF.here {fs : List Nat} {w : World} {u : Value} {d : shTensor.T} (h : RepF fs w u d) : RepV w u d := h w (fun _ => False) (fun _ _ h => h.elim) (Chg.refl _ _)
theorem RepF.chg {fs : List Nat} {w w' : World} {u : Value} {d : shTensor.T} (h : RepF fs w u d) {S : Nat → Prop} (ch : Chg S w w') (hS : ∀ b ∈ fs, ¬ S b) : RepF fs w' u d :=
 fun W S' hS' ch' => h W (fun b => S b ∨ S' b) (fun b hb h => h.elim (hS b hb) (hS' b hb)) ((ch.mono fun b hb => Or.inl hb).trans (ch'.mono fun b hb => Or.inr hb))
theorem RepF.ext {fs : List Nat} {w w' : World} {u : Value} {d : shTensor.T} (h : RepF fs w u d) (e : Ext w w') : RepF fs w' u d := h.chg (S := fun _ => False) (.of_ext e) (fun _ _ h => h)
theorem own_fs {B e n k : Nat} {w : World} {q : Option Addr} {us : List Value} (h : w.ownsRow B e 1 (.slice q n k) n us) : ∀ b ∈ blocksOf q, B ≤ b ∧ b < w.heap.size := by
 intro b hb
 cases q with
 | none => simp [blocksOf] at hb
 | some a => simp [blocksOf] at hb; subst hb; exact ⟨own_le h _ rfl, own_lt h _ rfl⟩
def PartsOut (fg : List Nat) (w : World) (A A2 : shTensor.T) (e : Ending) (w' : World) : Prop := ∃ ua ub fa fb, e = .returned (.tuple #[ua, ub]) ∧ RepF fa w' ua A ∧ RepF fb w' ub A2 ∧ (∀ b ∈ fa, b ∈ fg ∨ (w.heap.size ≤ b ∧ b < w'.heap.size)) ∧ (∀ b ∈ fb, b ∈ fg ∨ (w.heap.size ≤ b ∧ b < w'.heap.size)) ∧ Ext w w'
theorem PartsOut.of {fg fa fb : List Nat} {w w' : World} {A A2 A' A2' : shTensor.T} {ua ub : Value} {e : Ending} (he : e = .returned (.tuple #[ua, ub])) (ha : RepF fa w' ua A') (hb : RepF fb w' ub A2') (hA : A = A') (hB : A2 = A2') (ka : ∀ b ∈ fa, b ∈ fg ∨ (w.heap.size ≤ b ∧ b < w'.heap.size)) (kb : ∀ b ∈ fb, b ∈ fg ∨ (w.heap.size ≤ b ∧ b < w'.heap.size)) (hx : Ext w w') : PartsOut fg w A A2 e w' := ⟨ua, ub, fa, fb, he, hA ▸ ha, hB ▸ hb, ka, kb, hx⟩
def TenAtB (fg : List Nat) (w : World) (cs : List Value) (s : Nat × Nat) (d : shTensor.T) : Prop := ∃ (q : Option Addr) (c : Nat) (us : List Value) (xs : List Nat), cs = [.int .i64 s.1, .int .i64 s.2, .slice q (s.1 * s.2) c] ∧ d = tn s.1 s.2 xs ∧ xs.length = s.1 * s.2 ∧ (∀ (W : World) (S : Nat → Prop), (∀ b ∈ fg, ¬ S b) → Chg S w W → Cs W q us) ∧ F32s us xs ∧ s.1 * s.2 ≤ c ∧ c ≤ maxLen
section
variable {w : World} {ops : Array Oper} {rest : List Oper} {o : Oper} {a : Act} {Q : Exit → Act → World → Prop}
theorem wl_st3 {x y : Operand} {b : Nat} {x0 x1 x2 y0 y1 y2 : Value} (hg : o.guard = none) (ho : o.op = .store 37 x y) (hx : a.eval x = .pointer (some ⟨b, 0, none⟩)) (hy : a.eval y = .agg #[y0, y1, y2]) (hb : HB w b #[x0, x1, x2] 37) (h0 : y0.oneCell' = true) (h1 : y1.oneCell' = true) (h2 : y2.oneCell' = true)
 (h : ∀ w', HB w' b #[y0, y1, y2] 37 → Chg (fun k => k = b) w w' → wpList Tryz.prog ops Q rest (a.put o.dst undef) w') : wpList Tryz.prog ops Q (o :: rest) a w := by
 obtain ⟨w', hr, h3, h4⟩ := run_st3 hb h0 h1 h2
 exact wl_skip hg (by simp [execOp, ho, hx, hy, hr]) (h w' h3 h4)
end
set_option maxRecDepth 100000 in
set_option maxHeartbeats 1000000 in
theorem parts1_any (i b q : Nat) (r c : Int) (p : Option Addr) (m cp : Nat) (us : List Value) (gs : List Nat) (x : Nat) (w : World) (hq : HB w q #[.int .i64 r, .int .i64 c, .slice p m cp] 37) (hg : gs.length = m) (hm : m ≤ 1048576) (hp : Cs w p us) (hf : F32s us gs) (hi : i < m) (hb : cn .f32 b = x) :
 Calls Tryz.prog 116 #[.int .i64 i, .float .f32 b, .pointer (some ⟨q, 0, none⟩)] w (RF .f32 w (if fgt .f32 x 0 then gs.getD i 0 else 0)) := by
 have y2 := hq.cell 2 rfl
 have G := hid hg
 have hgt : (FloatKind.f32.format.order b 0 == some .gt) = fgt .f32 x 0 := by
  have h := fgt_cn .f32 b 0
  rw [hb, show cn .f32 0 = 0 from cn0] at h
  exact h.symm
 clear hg hq
 cases hc : fgt .f32 x 0 with
 | true =>
   rw [hc] at hgt
   have HC := hid hc
   clear hc
   go_enter Tryz.func116, Tryz.ntmps116
   go_wp2_with ((with_reducible show wpList _ _ _ (Oper.mk _ (Op.indexAddr _ _ _) _ _ _ _ :: Oper.mk _ (Op.load _ _) _ _ _ _ :: _) _ _); refine wl_ldF rfl rfl rfl rfl (fun _ => rfl) rfl rfl hp hf G.out (by omega) (by omega) ?_; intro r1 g1; have G1 := hid g1; clear g1)
   go_ret
   have q1 := G1.out
   simp only [Int.toNat_natCast] at q1
   exact ⟨r1, rfl, q1, Ext.refl _⟩
 | false =>
   rw [hc] at hgt
   have HC := hid hc
   clear hc
   go_enter Tryz.func116, Tryz.ntmps116
   go_wp2
   go_ret
   exact ⟨0, rfl, cn0, Ext.refl _⟩
set_option maxRecDepth 100000 in
set_option maxHeartbeats 4000000 in
theorem parts_1 (fg : List Nat) (a b z : Nat) (oc : List Value) (cg' cv' cw' : List Value) (sg sv sw : Nat × Nat) (g v u : shTensor.T) (w : World) (hg : TenAtB fg w cg' sg g) (hv : TenAt w cv' sv v) (hw : TenAt w cw' sw u) (hsg : SideOk sg) (hsv : SideOk sv) (hsw : SideOk sw)  (ho : Rep w shOp oc (mkOp 1 a b z t0)) :
 Calls Tryz.prog 87 #[ofCs shOp oc, ofCs shTensor cg', ofCs shTensor cv', ofCs shTensor cw'] w (PartsOut fg w (partA 1 z g v u) (partB 1 g v u)) := by
 obtain ⟨zb, ct, rfl, hz, ht⟩ := mkOp_vals ho
 obtain ⟨qt, ct', ut, rfl, hpt, _⟩ := ten_vals ht
 obtain ⟨qg, kg, ug, gs, rfl, rfl, lg, h1B, h2, h3, h4⟩ := hg
 have h1 : Cs w qg ug := h1B w (fun _ => False) (fun _ _ h => h.elim) (Chg.refl _ _)
 obtain ⟨qv, kv, uv, xs, rfl, rfl, lv, g1, g2, g3, g4⟩ := hv
 obtain ⟨qw, kw, uw, ys, rfl, rfl, lw, f1, f2, f3, f4⟩ := hw
 obtain ⟨rg, cg⟩ := sg
 obtain ⟨rv, cv⟩ := sv
 obtain ⟨rw, cw⟩ := sw
 obtain ⟨i1, i2, i3, i4⟩ := hsg
 obtain ⟨j1, j2, j3, j4⟩ := hsv
 obtain ⟨l1, l2, l3, l4⟩ := hsw
 dsimp only at lg lv lw h3 g3 f3 i1 i2 i3 i4 j1 j2 j3 j4 l1 l2 l3 l4 ⊢
 obtain ⟨Ng, hNg⟩ : ∃ N, N = rg * cg := ⟨_, rfl⟩
 obtain ⟨Nv, hNv⟩ : ∃ N, N = rv * cv := ⟨_, rfl⟩
 obtain ⟨Nw, hNw⟩ : ∃ N, N = rw * cw := ⟨_, rfl⟩
 have hNg2 : Ng ≤ 256 := by rw [hNg]; exact Nat.mul_le_mul i2 i4
 have hNv2 : Nv ≤ 256 := by rw [hNv]; exact Nat.mul_le_mul j2 j4
 have hNw2 : Nw ≤ 256 := by rw [hNw]; exact Nat.mul_le_mul l2 l4
 have hNg1 : 1 ≤ Ng := by rw [hNg]; exact Nat.mul_le_mul i1 i3
 have hNw1 : 1 ≤ Nw := by rw [hNw]; exact Nat.mul_le_mul l1 l3
 rw [← hNg] at lg h3
 rw [← hNv] at lv g3
 rw [← hNw] at lw f3
 simp only [ofCs, Sh.agg, if_true, List.cons_append, List.nil_append, t0, List.length_nil, ← hNg, ← hNv, ← hNw]
 obtain ⟨W0, hW0⟩ : ∃ W0, W0 = (((((w.alloc (.cells #[.int .i64 1, .int .i64 a, .int .i64 b, .float .f32 zb, .int .i64 0, .int .i64 0, .slice qt 0 ct'] 79)).alloc (.cells #[.int .i64 rg, .int .i64 cg, .slice qg Ng kg] 37)).alloc (.cells #[.int .i64 rv, .int .i64 cv, .slice qv Nv kv] 37)).alloc (.cells #[.int .i64 rw, .int .i64 cw, .slice qw Nw kw] 37)).alloc (.cells #[.int .i64 0, .int .i64 0, .slice none 0 0] 37)).alloc (.cells #[.int .i64 0, .int .i64 0, .slice none 0 0] 37) := ⟨_, rfl⟩
 obtain ⟨W3, hW3⟩ : ∃ W3, W3 = ((w.alloc (.cells #[.int .i64 1, .int .i64 a, .int .i64 b, .float .f32 zb, .int .i64 0, .int .i64 0, .slice qt 0 ct'] 79)).alloc (.cells #[.int .i64 rg, .int .i64 cg, .slice qg Ng kg] 37)).alloc (.cells #[.int .i64 rv, .int .i64 cv, .slice qv Nv kv] 37) := ⟨_, rfl⟩
 obtain ⟨E3, s3, b0, b1, b2⟩ := box3 hW3
 have hW6 : W0 = ((W3.alloc (.cells #[.int .i64 rw, .int .i64 cw, .slice qw Nw kw] 37)).alloc (.cells #[.int .i64 0, .int .i64 0, .slice none 0 0] 37)).alloc (.cells #[.int .i64 0, .int .i64 0, .slice none 0 0] 37) := by rw [hW0, ← hW3]
 obtain ⟨E6, s6, b3, b4, b5⟩ := box3 hW6
 rw [s3] at b3 b4 b5
 have B0 : HB W0 w.heap.size #[.int .i64 1, .int .i64 a, .int .i64 b, .float .f32 zb, .int .i64 0, .int .i64 0, .slice qt 0 ct'] 79 := HB.ext b0 E6
 have B1 : HB W0 (w.heap.size + 1) #[.int .i64 rg, .int .i64 cg, .slice qg Ng kg] 37 := HB.ext b1 E6
 have B2 : HB W0 (w.heap.size + 1 + 1) #[.int .i64 rv, .int .i64 cv, .slice qv Nv kv] 37 := HB.ext b2 E6
 have B3 : HB W0 (w.heap.size + 1 + 1 + 1) #[.int .i64 rw, .int .i64 cw, .slice qw Nw kw] 37 := b3
 have B4 : HB W0 (w.heap.size + 1 + 1 + 1 + 1) #[.int .i64 0, .int .i64 0, .slice none 0 0] 37 := b4
 have B5 : HB W0 (w.heap.size + 1 + 1 + 1 + 1 + 1) #[.int .i64 0, .int .i64 0, .slice none 0 0] 37 := b5
 have E0 := E3.trans E6
 clear hW3 hW6 E3 E6 s3 s6 b0 b1 b2 b3 b4 b5
 have HZ := hid hz
 have HNg := hid hNg
 have HNv := hid hNv
 have HNw := hid hNw
 clear ho ht hpt hz hNg hNv hNw 
 go_enter Tryz.func87, Tryz.ntmps87
 have z0 := B0.cell 0 rfl
 go_wp2_with fail
 rw [← hW0]
 clear hW0 z0
 generalize hH5 : w.heap.size + 1 + 1 + 1 + 1 + 1 = H5 at *
 generalize hH4 : w.heap.size + 1 + 1 + 1 + 1 = H4 at *
 generalize hH3 : w.heap.size + 1 + 1 + 1 = H3 at *
 generalize hH2 : w.heap.size + 1 + 1 = H2 at *
 generalize hH1 : w.heap.size + 1 = H1 at *
 obtain ⟨H0, hH0⟩ : ∃ H, H = w.heap.size := ⟨_, rfl⟩
 rw [← hH0] at B0 ⊢
 have P0 : w.heap.size ≤ H0 := by omega
 have P1 : H0 < H1 := by omega
 have P2 : H1 < H2 := by omega
 have P3 : H2 < H3 := by omega
 have P4 : H3 < H4 := by omega
 have P5 : H4 < H5 := by omega
 clear hH0 hH1 hH2 hH3 hH4 hH5
 have eD := Ext.drew W0
 have B1 := B1.ext eD; have B2 := B2.ext eD; have B3 := B3.ext eD; have B4 := B4.ext eD; have B5 := B5.ext eD
 have E0 := E0.trans eD
 clear B0
 refine wp_region_T (n := 3) (S := fun W => HB W H1 #[.int .i64 rg, .int .i64 cg, .slice qg Ng kg] 37 ∧ HB W H2 #[.int .i64 rv, .int .i64 cv, .slice qv Nv kv] 37 ∧ HB W H3 #[.int .i64 rw, .int .i64 cw, .slice qw Nw kw] 37) (by kernel_rfl) rfl ?_
 clear eD
 generalize W0.drew = W0 at *
 have hS : HB W0 H1 #[.int .i64 rg, .int .i64 cg, .slice qg Ng kg] 37 ∧ HB W0 H2 #[.int .i64 rv, .int .i64 cv, .slice qv Nv kv] 37 ∧ HB W0 H3 #[.int .i64 rw, .int .i64 cw, .slice qw Nw kw] 37 := ⟨B1, B2, B3⟩
 refine hs_take (k := 0) (.agg #[.int .i64 rg, .int .i64 cg, .slice qg Ng kg]) (by kernel_rfl) rfl rfl (fun _ _ _ h => h) hS (fun W hW => by have y0 := (hW.1).cell 0 rfl; have y1 := (hW.1).cell 1 rfl; have y2 := (hW.1).cell 2 rfl; go_simp) ?_
 (try simp only [List.getElem_toArray, List.getElem_cons_succ, List.getElem_cons_zero])
 simp only [Act.put, ev_tmp, pu1, pu2, pu3, pu4, pu5]
 refine hs_take (k := 1) (.agg #[.int .i64 rg, .int .i64 cg, .slice qg Ng kg]) (by kernel_rfl) rfl rfl (fun _ _ _ h => h) hS (fun W hW => by have y0 := (hW.1).cell 0 rfl; have y1 := (hW.1).cell 1 rfl; have y2 := (hW.1).cell 2 rfl; go_simp) ?_
 (try simp only [List.getElem_toArray, List.getElem_cons_succ, List.getElem_cons_zero])
 simp only [Act.put, ev_tmp, pu1, pu2, pu3, pu4, pu5]
 refine hs_only (k := 2) (by kernel_rfl) ?_
 obtain ⟨V1, hr1, B4', ch1⟩ := run_st3 (y0 := .int .i64 rg) (y1 := .int .i64 cg) (y2 := .slice qg Ng kg) B4 rfl rfl rfl
 refine wpOp_skip (w' := V1) rfl rfl (by simp [execOp, Act.eval, ofCs, Sh.agg, hr1]) ?_
 refine ⟨⟨hS.1.chg ch1 (fun h => by have h : H1 = H4 := h; omega), hS.2.1.chg ch1 (fun h => by have h : H2 = H4 := h; omega), hS.2.2.chg ch1 (fun h => by have h : H3 = H4 := h; omega)⟩, ?_⟩
 have B5' := B5.chg ch1 (fun h => by have h : H5 = H4 := h; omega)
 (try simp only [List.getElem_toArray, List.getElem_cons_succ, List.getElem_cons_zero])
 simp only [Act.put, ev_tmp, pu1, pu2, pu3, pu4, pu5]
 refine hs_last (k := 3) (by kernel_rfl) rfl ?_
 obtain ⟨V2, hr2, B5'', ch2⟩ := run_st3 (y0 := .int .i64 rg) (y1 := .int .i64 cg) (y2 := .slice qg Ng kg) B5' rfl rfl rfl
 refine wl_skip rfl (w' := V2) (by simp [execOp, Act.eval, ofCs, Sh.agg, hr2]) ?_
 have B4'' := B4'.chg ch2 (fun h => by have h : H4 = H5 := h; omega)
 have EF : Ext w V2 := (E0.chg ch1 (fun k hk => by have hk : k = H4 := hk; omega)).chg ch2 (fun k hk => by have hk : k = H5 := hk; omega)
 have n0 := B4''.cell 0 rfl; have n1 := B4''.cell 1 rfl; have n2 := B4''.cell 2 rfl
 have n3 := B5''.cell 0 rfl; have n4 := B5''.cell 1 rfl; have n5 := B5''.cell 2 rfl
 have RA := hid (RepF.of (fs := fg) (w := V2) (r := rg) (c := cg) lg (fun W S hS ch => h1B W S hS ((Chg.of_ext EF).trans ch)) h2 h3 h4)
 have RB := hid (RepF.of (fs := fg) (w := V2) (r := rg) (c := cg) lg (fun W S hS ch => h1B W S hS ((Chg.of_ext EF).trans ch)) h2 h3 h4)
 clear hr1 hr2 B4 B5 B4' B5' B4'' B5'' ch1 ch2
 go_wp2
 refine bodyPost_ret (v := .tuple #[.agg #[.int .i64 rg, .int .i64 cg, .slice qg Ng kg], .agg #[.int .i64 rg, .int .i64 cg, .slice qg Ng kg]]) (by simp [results, Tryz.results87, go_sem, n0, n1, n2, n3, n4, n5]) rfl ?_
 exact PartsOut.of rfl RA.out RB.out (rfl) (rfl) (fun b hb => .inl hb) (fun b hb => .inl hb) EF
set_option maxRecDepth 100000 in
set_option maxHeartbeats 4000000 in
theorem parts_2 (fg : List Nat) (a b z : Nat) (oc : List Value) (cg' cv' cw' : List Value) (sg sv sw : Nat × Nat) (g v u : shTensor.T) (w : World) (hg : TenAtB fg w cg' sg g) (hv : TenAt w cv' sv v) (hw : TenAt w cw' sw u) (hsg : SideOk sg) (hsv : SideOk sv) (hsw : SideOk sw)  (ho : Rep w shOp oc (mkOp 2 a b z t0)) :
 Calls Tryz.prog 87 #[ofCs shOp oc, ofCs shTensor cg', ofCs shTensor cv', ofCs shTensor cw'] w (PartsOut fg w (partA 2 z g v u) (partB 2 g v u)) := by
 obtain ⟨zb, ct, rfl, hz, ht⟩ := mkOp_vals ho
 obtain ⟨qt, ct', ut, rfl, hpt, _⟩ := ten_vals ht
 obtain ⟨qg, kg, ug, gs, rfl, rfl, lg, h1B, h2, h3, h4⟩ := hg
 have h1 : Cs w qg ug := h1B w (fun _ => False) (fun _ _ h => h.elim) (Chg.refl _ _)
 obtain ⟨qv, kv, uv, xs, rfl, rfl, lv, g1, g2, g3, g4⟩ := hv
 obtain ⟨qw, kw, uw, ys, rfl, rfl, lw, f1, f2, f3, f4⟩ := hw
 obtain ⟨rg, cg⟩ := sg
 obtain ⟨rv, cv⟩ := sv
 obtain ⟨rw, cw⟩ := sw
 obtain ⟨i1, i2, i3, i4⟩ := hsg
 obtain ⟨j1, j2, j3, j4⟩ := hsv
 obtain ⟨l1, l2, l3, l4⟩ := hsw
 dsimp only at lg lv lw h3 g3 f3 i1 i2 i3 i4 j1 j2 j3 j4 l1 l2 l3 l4 ⊢
 obtain ⟨Ng, hNg⟩ : ∃ N, N = rg * cg := ⟨_, rfl⟩
 obtain ⟨Nv, hNv⟩ : ∃ N, N = rv * cv := ⟨_, rfl⟩
 obtain ⟨Nw, hNw⟩ : ∃ N, N = rw * cw := ⟨_, rfl⟩
 have hNg2 : Ng ≤ 256 := by rw [hNg]; exact Nat.mul_le_mul i2 i4
 have hNv2 : Nv ≤ 256 := by rw [hNv]; exact Nat.mul_le_mul j2 j4
 have hNw2 : Nw ≤ 256 := by rw [hNw]; exact Nat.mul_le_mul l2 l4
 have hNg1 : 1 ≤ Ng := by rw [hNg]; exact Nat.mul_le_mul i1 i3
 have hNw1 : 1 ≤ Nw := by rw [hNw]; exact Nat.mul_le_mul l1 l3
 rw [← hNg] at lg h3
 rw [← hNv] at lv g3
 rw [← hNw] at lw f3
 simp only [ofCs, Sh.agg, if_true, List.cons_append, List.nil_append, t0, List.length_nil, ← hNg, ← hNv, ← hNw]
 obtain ⟨sr, hsr⟩ : ∃ sr, sr = sumRX cg gs := ⟨_, rfl⟩
 have HSR : Hid (sr.length = cg) := hid (by rw [hsr]; exact ntab_len _ _)
 have HSE := hid hsr
 have K1 : Hid (∀ W, Ext w W → Calls Tryz.prog 115 #[.agg #[.int .i64 rg, .int .i64 cg, .slice qg Ng kg]] W (RetFl W sr)) := hid (fun W hW => by rw [hsr]; exact sumRows_any rg cg qg Ng kg ug gs W lg (by omega) i3 (by omega) (h1.ext hW) h2)
 obtain ⟨W0, hW0⟩ : ∃ W0, W0 = (((((w.alloc (.cells #[.int .i64 2, .int .i64 a, .int .i64 b, .float .f32 zb, .int .i64 0, .int .i64 0, .slice qt 0 ct'] 79)).alloc (.cells #[.int .i64 rg, .int .i64 cg, .slice qg Ng kg] 37)).alloc (.cells #[.int .i64 rv, .int .i64 cv, .slice qv Nv kv] 37)).alloc (.cells #[.int .i64 rw, .int .i64 cw, .slice qw Nw kw] 37)).alloc (.cells #[.int .i64 0, .int .i64 0, .slice none 0 0] 37)).alloc (.cells #[.int .i64 0, .int .i64 0, .slice none 0 0] 37) := ⟨_, rfl⟩
 obtain ⟨W3, hW3⟩ : ∃ W3, W3 = ((w.alloc (.cells #[.int .i64 2, .int .i64 a, .int .i64 b, .float .f32 zb, .int .i64 0, .int .i64 0, .slice qt 0 ct'] 79)).alloc (.cells #[.int .i64 rg, .int .i64 cg, .slice qg Ng kg] 37)).alloc (.cells #[.int .i64 rv, .int .i64 cv, .slice qv Nv kv] 37) := ⟨_, rfl⟩
 obtain ⟨E3, s3, b0, b1, b2⟩ := box3 hW3
 have hW6 : W0 = ((W3.alloc (.cells #[.int .i64 rw, .int .i64 cw, .slice qw Nw kw] 37)).alloc (.cells #[.int .i64 0, .int .i64 0, .slice none 0 0] 37)).alloc (.cells #[.int .i64 0, .int .i64 0, .slice none 0 0] 37) := by rw [hW0, ← hW3]
 obtain ⟨E6, s6, b3, b4, b5⟩ := box3 hW6
 rw [s3] at b3 b4 b5
 have B0 : HB W0 w.heap.size #[.int .i64 2, .int .i64 a, .int .i64 b, .float .f32 zb, .int .i64 0, .int .i64 0, .slice qt 0 ct'] 79 := HB.ext b0 E6
 have B1 : HB W0 (w.heap.size + 1) #[.int .i64 rg, .int .i64 cg, .slice qg Ng kg] 37 := HB.ext b1 E6
 have B2 : HB W0 (w.heap.size + 1 + 1) #[.int .i64 rv, .int .i64 cv, .slice qv Nv kv] 37 := HB.ext b2 E6
 have B3 : HB W0 (w.heap.size + 1 + 1 + 1) #[.int .i64 rw, .int .i64 cw, .slice qw Nw kw] 37 := b3
 have B4 : HB W0 (w.heap.size + 1 + 1 + 1 + 1) #[.int .i64 0, .int .i64 0, .slice none 0 0] 37 := b4
 have B5 : HB W0 (w.heap.size + 1 + 1 + 1 + 1 + 1) #[.int .i64 0, .int .i64 0, .slice none 0 0] 37 := b5
 have E0 := E3.trans E6
 clear hW3 hW6 E3 E6 s3 s6 b0 b1 b2 b3 b4 b5
 have HZ := hid hz
 have HNg := hid hNg
 have HNv := hid hNv
 have HNw := hid hNw
 clear ho ht hpt hz hNg hNv hNw hsr
 go_enter Tryz.func87, Tryz.ntmps87
 have z0 := B0.cell 0 rfl
 go_wp2_with fail
 rw [← hW0]
 clear hW0 z0
 generalize hH5 : w.heap.size + 1 + 1 + 1 + 1 + 1 = H5 at *
 generalize hH4 : w.heap.size + 1 + 1 + 1 + 1 = H4 at *
 generalize hH3 : w.heap.size + 1 + 1 + 1 = H3 at *
 generalize hH2 : w.heap.size + 1 + 1 = H2 at *
 generalize hH1 : w.heap.size + 1 = H1 at *
 obtain ⟨H0, hH0⟩ : ∃ H, H = w.heap.size := ⟨_, rfl⟩
 rw [← hH0] at B0 ⊢
 have P0 : w.heap.size ≤ H0 := by omega
 have P1 : H0 < H1 := by omega
 have P2 : H1 < H2 := by omega
 have P3 : H2 < H3 := by omega
 have P4 : H3 < H4 := by omega
 have P5 : H4 < H5 := by omega
 clear hH0 hH1 hH2 hH3 hH4 hH5
 have eD := Ext.drew W0
 have B1 := B1.ext eD; have B2 := B2.ext eD; have B3 := B3.ext eD; have B4 := B4.ext eD; have B5 := B5.ext eD
 have E0 := E0.trans eD
 clear B0
 refine wp_region_T (n := 5) (S := fun W => HB W H1 #[.int .i64 rg, .int .i64 cg, .slice qg Ng kg] 37 ∧ HB W H2 #[.int .i64 rv, .int .i64 cv, .slice qv Nv kv] 37 ∧ HB W H3 #[.int .i64 rw, .int .i64 cw, .slice qw Nw kw] 37) (by kernel_rfl) rfl ?_
 clear eD
 generalize W0.drew = W0 at *
 have hS : HB W0 H1 #[.int .i64 rg, .int .i64 cg, .slice qg Ng kg] 37 ∧ HB W0 H2 #[.int .i64 rv, .int .i64 cv, .slice qv Nv kv] 37 ∧ HB W0 H3 #[.int .i64 rw, .int .i64 cw, .slice qw Nw kw] 37 := ⟨B1, B2, B3⟩
 refine hs_take (k := 0) (.agg #[.int .i64 rg, .int .i64 cg, .slice qg Ng kg]) (by kernel_rfl) rfl rfl (fun _ _ _ h => h) hS (fun W hW => by have y0 := (hW.1).cell 0 rfl; have y1 := (hW.1).cell 1 rfl; have y2 := (hW.1).cell 2 rfl; go_simp) ?_
 (try simp only [List.getElem_toArray, List.getElem_cons_succ, List.getElem_cons_zero])
 simp only [Act.put, ev_tmp, pu1, pu2, pu3, pu4, pu5]
 refine hs_take (k := 1) (.agg #[.int .i64 rg, .int .i64 cg, .slice qg Ng kg]) (by kernel_rfl) rfl rfl (fun _ _ _ h => h) hS (fun W hW => by have y0 := (hW.1).cell 0 rfl; have y1 := (hW.1).cell 1 rfl; have y2 := (hW.1).cell 2 rfl; go_simp) ?_
 (try simp only [List.getElem_toArray, List.getElem_cons_succ, List.getElem_cons_zero])
 simp only [Act.put, ev_tmp, pu1, pu2, pu3, pu4, pu5]
 refine hs_only (k := 2) (by kernel_rfl) ?_
 refine wpOp_call (f := 115) (args := #[.agg #[.int .i64 rg, .int .i64 cg, .slice qg Ng kg]]) rfl rfl rfl Tryz.func115 rfl (by kernel_rfl) (by simp [Act.eval]) (K1.out W0 E0) ?_
 rintro e w1 ⟨q0, k0, vs0, rfl, own0, hf0, eX⟩
 rw [HSR.out] at own0 ⊢
 have hb0 : H5 < W0.heap.size := B5.lt
 have B4 := B4.ext eX; have B5 := B5.ext eX
 have E0 := E0.trans eX
 have hS := And.intro (hS.1.ext eX) (And.intro (hS.2.1.ext eX) (hS.2.2.ext eX))
 refine ⟨_, rfl, hS, ?_⟩
 clear eX
 (try simp only [List.getElem_toArray, List.getElem_cons_succ, List.getElem_cons_zero])
 simp only [Act.put, ev_tmp, pu1, pu2, pu3, pu4, pu5]
 refine hs_only (k := 3) (by kernel_rfl) ?_
 refine wpOp_call (f := 63) (args := #[.slice q0 cg k0]) rfl rfl rfl Tryz.func63 rfl (by kernel_rfl) (by simp [Act.eval]) (rowTensor_any q0 cg k0 vs0 sr w1 HSR.out (by omega) (own_cap own0).1 (own_Cs own0) hf0) ?_
 rintro e w2 ⟨q1, k1, vs1, rfl, own1, hf1, eX⟩
 rw [HSR.out] at own1 ⊢
 have own0 := own_ext own0 eX
 have hb1 : H5 < w1.heap.size := B5.lt
 have B4 := B4.ext eX; have B5 := B5.ext eX
 have E0 := E0.trans eX
 have hS := And.intro (hS.1.ext eX) (And.intro (hS.2.1.ext eX) (hS.2.2.ext eX))
 refine ⟨_, rfl, hS, ?_⟩
 clear eX
 (try simp only [List.getElem_toArray, List.getElem_cons_succ, List.getElem_cons_zero])
 simp only [Act.put, ev_tmp, pu1, pu2, pu3, pu4, pu5]
 refine hs_only (k := 4) (by kernel_rfl) ?_
 obtain ⟨V1, hr1, B4', ch1⟩ := run_st3 (y0 := .int .i64 rg) (y1 := .int .i64 cg) (y2 := .slice qg Ng kg) B4 rfl rfl rfl
 refine wpOp_skip (w' := V1) rfl rfl (by simp [execOp, Act.eval, ofCs, Sh.agg, hr1]) ?_
 refine ⟨⟨hS.1.chg ch1 (fun h => by have h : H1 = H4 := h; omega), hS.2.1.chg ch1 (fun h => by have h : H2 = H4 := h; omega), hS.2.2.chg ch1 (fun h => by have h : H3 = H4 := h; omega)⟩, ?_⟩
 have B5' := B5.chg ch1 (fun h => by have h : H5 = H4 := h; omega)
 (try simp only [List.getElem_toArray, List.getElem_cons_succ, List.getElem_cons_zero])
 simp only [Act.put, ev_tmp, pu1, pu2, pu3, pu4, pu5]
 refine hs_last (k := 5) (by kernel_rfl) rfl ?_
 obtain ⟨V2, hr2, B5'', ch2⟩ := run_st3 (y0 := .int .i64 1) (y1 := .int .i64 cg) (y2 := .slice q1 cg k1) B5' rfl rfl rfl
 refine wl_skip rfl (w' := V2) (by simp [execOp, Act.eval, ofCs, Sh.agg, hr2]) ?_
 have B4'' := B4'.chg ch2 (fun h => by have h : H4 = H5 := h; omega)
 have EF : Ext w V2 := (E0.chg ch1 (fun k hk => by have hk : k = H4 := hk; omega)).chg ch2 (fun k hk => by have hk : k = H5 := hk; omega)
 have n0 := B4''.cell 0 rfl; have n1 := B4''.cell 1 rfl; have n2 := B4''.cell 2 rfl
 have n3 := B5''.cell 0 rfl; have n4 := B5''.cell 1 rfl; have n5 := B5''.cell 2 rfl
 have own0 := own_chgB (own_chgB own0 ch1 (fun k hk => by have hk : k = H4 := hk; omega)) ch2 (fun k hk => by have hk : k = H5 := hk; omega)
 have own1 := own_chgB (own_chgB own1 ch1 (fun k hk => by have hk : k = H4 := hk; omega)) ch2 (fun k hk => by have hk : k = H5 := hk; omega)
 have RA := hid (RepF.of (fs := fg) (w := V2) (r := rg) (c := cg) lg (fun W S hS ch => h1B W S hS ((Chg.of_ext EF).trans ch)) h2 h3 h4)
 have RB := hid (RepF.own (w := V2) (r := 1) (c := cg) HSR.out own1 hf1)
 clear hr1 hr2 B4 B5 B4' B5' B4'' B5'' ch1 ch2
 go_wp2
 refine bodyPost_ret (v := .tuple #[.agg #[.int .i64 rg, .int .i64 cg, .slice qg Ng kg], .agg #[.int .i64 1, .int .i64 cg, .slice q1 cg k1]]) (by simp [results, Tryz.results87, go_sem, n0, n1, n2, n3, n4, n5]) rfl ?_
 exact PartsOut.of rfl RA.out RB.out (rfl) (by simp only [partB, tn, Int.toNat_natCast]; rw [HSE.out]) (fun b hb => .inl hb) (fun b hb => .inr (by have := own_fs own1 b hb; omega)) EF
end Go.Proofs.YtlimabbeaimdgaaGreat
