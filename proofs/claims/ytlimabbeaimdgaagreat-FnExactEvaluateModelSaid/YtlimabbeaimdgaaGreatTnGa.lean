/- The reference's gradients of a tape. -/
import Derived.Test.YtlimabbeaimdgaaGreatTnP
import Derived.Test.YtlimabbeaimdgaaGreatZ22Evalua
import Derived.Test.YtlimabbeaimdgaaGreatZ29Evalua
import Derived.Test.YtlimabbeaimdgaaGreatZ07Evalua
import Derived.Test.YtlimabbeaimdgaaGreatTnXe
import Derived.Test.YtlimabbeaimdgaaGreatTnXf
set_option linter.unusedSimpArgs false
set_option linter.unusedVariables false
namespace Go.Proofs.YtlimabbeaimdgaaGreat
open Go.RowKit
def IsTn (B : Nat) (r c : Int) (xs : List Nat) (w : World) (u : Value) : Prop := ∃ q cp vs, u = .agg #[.int .i64 r, .int .i64 c, .slice q xs.length cp] ∧ w.ownsRow B 48 1 (.slice q xs.length cp) xs.length vs ∧ F32s vs xs
theorem calls_tn {P : Program} {f : Nat} {ar : Array Value} {wB w1 : World} {r c : Int} {xs : List Nat} (hB : Ext wB w1) (h : Calls P f ar w1 (RetTen w1 r c xs)) : Calls P f ar w1 fun e w3 => ∃ u, e = .returned u ∧ Ext w1 w3 ∧ IsTn wB.heap.size r c xs w3 u :=
 h.mono fun e w3 ⟨q, cp, vs, he, ho, hf, e3⟩ => ⟨_, he, e3, q, cp, vs, rfl, own_base ho hB.size, hf⟩
theorem GrowOwn.tb {w : World} {B : Nat} {te : TypeId} {E : Sh} {p : Option Addr} {n c : Nat} {l : List E.T} {css : List (List Value)} {bss : List (List Nat)} (h : GrowOwn w B te E (.slice p n c) l css bss) (hl : l.length = n) : Tb B E w p n c l css bss := by
 have hrow := h.row
 rw [hl] at hrow
 refine ⟨ownRow_of hrow, h.els, ?_, fun b hb => ?_, hl, own_cap hrow⟩
 · cases p with
   | none => simpa [blocksOf] using h.nodup
   | some a => simp only [blocksOf, List.cons_append, List.nil_append, List.nodup_cons]; exact ⟨fun hb => (h.lo _ hb).2 rfl, h.nodup⟩
 · rcases List.mem_append.1 hb with hb | hb
   · cases p with
     | none => simp [blocksOf] at hb
     | some a => simp [blocksOf] at hb; subst hb; exact own_le hrow _ rfl
   · exact (h.lo b hb).1
structure GR (w : World) (B : Nat) (p : Option Addr) (n c gh : Nat) (hs : List Bool) (l : List shTensor.T) (css : List (List Value)) (bss : List (List Nat)) : Prop where
 tb : Tb B shTensor w p n c l css bss
 hr : HB w gh (hs.map Value.bool).toArray 4
 hl : hs.length = n
 gb : B ≤ gh
 ne : gh ∉ blocksOf p ++ bss.flatten
theorem GR.ext {w w' : World} {B : Nat} {p : Option Addr} {n c gh : Nat} {hs : List Bool} {l : List shTensor.T} {css : List (List Value)} {bss : List (List Nat)} (h : GR w B p n c gh hs l css bss) (e : Ext w w') : GR w' B p n c gh hs l css bss := ⟨h.tb.ext e, h.hr.ext e, h.hl, h.gb, h.ne⟩
theorem GR.put {w0 w w' : World} {B : Nat} {p : Option Addr} {n c gh : Nat} {hs : List Bool} {l : List shTensor.T} {css : List (List Value)} {bss : List (List Nat)} (h : GR w0 B p n c gh hs l css bss) (e : Ext w0 w) {i : Nat} (hi : i < n) {cs : List Value} {d : shTensor.T} {bs : List Nat}
 (ho : Own w shTensor cs d bs) (hn : bs.Nodup) (hf : ∀ b ∈ bs, w0.heap.size ≤ b) (hB : B ≤ w0.heap.size) (hr : OwnRow w' p n c (css.set i cs).flatten) (k : Chg (fun b => b ∈ blocksOf p) w w') : GR w' B p n c gh hs (l.set i d) (css.set i cs) (bss.set i bs) := by
 refine ⟨h.tb.put e hi ho hn hf hB hr k, (h.hr.ext e).chg k (fun hb => h.ne (List.mem_append_left _ hb)), h.hl, h.gb, fun hb => ?_⟩
 rcases List.mem_append.1 hb with hb | hb
 · exact h.ne (List.mem_append_left _ hb)
 · rcases set_flat_sub gh hb with h' | h'
   · exact h.ne (List.mem_append_right _ h')
   · have := hf gh h'; have := h.hr.lt; omega
theorem GR.has {w w' : World} {B : Nat} {p : Option Addr} {n c gh : Nat} {hs : List Bool} {l : List shTensor.T} {css : List (List Value)} {bss : List (List Nat)} (h : GR w B p n c gh hs l css bss) {i : Nat} (hr : HB w' gh ((hs.map Value.bool).toArray.setIfInBounds i (.bool true)) 4) (k : Chg (fun b => b = gh) w w') : GR w' B p n c gh (hs.set i true) l css bss := by
 refine ⟨⟨h.tb.row.chg k (fun b hb hs => h.ne (hs ▸ List.mem_append_left _ hb)), h.tb.els.chg k (fun b hb hs => h.ne (hs ▸ List.mem_append_right _ hb)), h.tb.nodup, h.tb.lo, h.tb.len, h.tb.cap⟩, ?_, by rw [List.length_set]; exact h.hl, h.gb, h.ne⟩
 have e : ((hs.map Value.bool).toArray.setIfInBounds i (.bool true)) = ((hs.set i true).map Value.bool).toArray := by simp [List.map_set]
 rw [← e]; exact hr
theorem GR.chg {S : Nat → Prop} {w w' : World} {B : Nat} {p : Option Addr} {n c gh : Nat} {hs : List Bool} {l : List shTensor.T} {css : List (List Value)} {bss : List (List Nat)} (h : GR w B p n c gh hs l css bss) (k : Chg S w w') (hS : ¬ S gh) (hS2 : ∀ b ∈ blocksOf p ++ bss.flatten, ¬ S b) : GR w' B p n c gh hs l css bss :=
 ⟨⟨h.tb.row.chg k (fun b hb => hS2 b (List.mem_append_left _ hb)), h.tb.els.chg k (fun b hb => hS2 b (List.mem_append_right _ hb)), h.tb.nodup, h.tb.lo, h.tb.len, h.tb.cap⟩, h.hr.chg k hS, h.hl, h.gb, h.ne⟩
theorem GR.get {w : World} {B : Nat} {p : Option Addr} {n c gh : Nat} {hs : List Bool} {l : List shTensor.T} {css : List (List Value)} {bss : List (List Nat)} (h : GR w B p n c gh hs l css bss) {i : Nat} (hi : i < n) : (hs.map Value.bool)[i]? = some (.bool (hs.getD i false)) := by
 have := h.hl; simp [show i < hs.length by omega]
theorem GR.getA {w : World} {B : Nat} {p : Option Addr} {n c gh : Nat} {hs : List Bool} {l : List shTensor.T} {css : List (List Value)} {bss : List (List Nat)} (h : GR w B p n c gh hs l css bss) {i : Nat} (hi : i < n) : (hs.map Value.bool).toArray[i]? = some (.bool (hs.getD i false)) := by
 have := h.hl; simp [show i < hs.length by omega]
theorem op_vals3 {w : World} {cs : List Value} {d : shOp.T} (h : Rep w shOp cs d) : ∃ (zb : Nat) (q : Option Addr) (m cc : Nat) (r c : Int), cs = [.int .i64 d.1, .int .i64 d.2.1, .int .i64 d.2.2.1, .float .f32 zb, .int .i64 r, .int .i64 c, .slice q m cc] ∧ cn .f32 zb = d.2.2.2.1 := by
 obtain ⟨_, _, rfl, rfl, _, _, rfl, rfl, _, _, rfl, rfl, _, _, rfl, ⟨zb, rfl, hz⟩, ct, _, rfl, ht, rfl⟩ := h
 obtain ⟨q, c, us, rfl, _⟩ := ten_vals ht
 exact ⟨zb, q, _, c, _, _, rfl, hz⟩
theorem TenAtB.chg {fg : List Nat} {w w' : World} {cs : List Value} {s : Nat × Nat} {d : shTensor.T} {S0 : Nat → Prop} (h : TenAtB fg w cs s d) (ch : Chg S0 w w') (h0 : ∀ b ∈ fg, ¬ S0 b) : TenAtB fg w' cs s d := by
 obtain ⟨q, c, us, xs, h1, h2, h3, h4, h5, h6, h7⟩ := h
 exact ⟨q, c, us, xs, h1, h2, h3, fun W S hS ch2 => h4 W (fun z => S0 z ∨ S z) (fun b hb hs => Or.elim hs (h0 b hb) (hS b hb)) ((ch.mono fun z hz => Or.inl hz).trans (ch2.mono fun z hz => Or.inr hz)), h5, h6, h7⟩
section
variable {P : Program} {w : World} {ops : Array Oper} {rest : List Oper} {o : Oper} {a : Act} {Q : Exit → Act → World → Prop}
theorem wl_stOwn {e : TypeId} [Cell1 P e] {x y : Operand} (hg : o.guard = none) (ho : o.op = .store e x y) {p : Option Addr} {n c B j : Nat} {u : Value} (hx : a.eval x = .pointer (some (adr p j))) (hy : a.eval y = u) (hu1 : u.oneCell' = true) {vs : List Value} (hc : w.ownsRow B e 1 (.slice p n c) n vs) (hn : j < n)
 (h : ∀ w', w'.ownsRow B e 1 (.slice p n c) n (vs.set j u) → w.grownBy w' (Value.slice p n c).ownBlock → wpList P ops Q rest (a.put o.dst undef) w') : wpList P ops Q (o :: rest) a w := by
 obtain ⟨g, rfl⟩ := own_some hc (by omega)
 have hlen : vs.length = n := by have := hc.1; omega
 have hcell : w.cell? (adr (some ⟨g, 0, none⟩) j) = some (vs[j]'(by omega)) := by
  rw [adr_row, hc.cellAt _ (by omega)]; simp [hlen, hn]
 have hfr : w.frozen? (adr (some ⟨g, 0, none⟩) j) = false := by rw [adr_row]; exact hc.frozenAt _
 have hst := hc.stored j u
 rw [← adr_row] at hst
 refine wl_skip hg (w' := w.setCell (adr (some ⟨g, 0, none⟩) j) u) ?_ (h _ hst.1 hst.2)
 simp [execOp, ho, hx, hy, run_store1 hcell hfr hu1]
end
theorem Chg.late {S S2 : Nat → Prop} {w0 w w' : World} (h : Chg S w0 w) (k : Chg S2 w w') (h2 : ∀ b, S2 b → w0.heap.size ≤ b) : Chg S w0 w' :=
 ⟨k.os.trans h.os, k.tape.trans h.tape, k.output.trans h.output, Nat.le_trans h.size k.size, fun i hi hs => (k.block i (Nat.lt_of_lt_of_le hi h.size) (fun hb => by have := h2 i hb; omega)).trans (h.block i hi hs)⟩
theorem gt_cn0 (b : Nat) : (FloatKind.f32.format.order b 0 == some .gt) = fgt .f32 (cn .f32 b) 0 := by
 have h := fgt_cn .f32 b 0
 rw [show cn .f32 0 = 0 from cn0] at h
 exact h.symm
theorem F32s.set {us : List Value} {xs : List Nat} (h : F32s us xs) (i : Nat) {r z : Nat} (hr : cn .f32 r = z) : F32s (us.set i (.float .f32 r)) (xs.set i z) := by
 refine ⟨by rw [List.length_set, List.length_set]; exact h.1, fun j hj => ?_⟩
 rw [List.length_set] at hj
 by_cases e : i = j
 · subst e
   exact ⟨r, by rw [List.getElem?_set_self (by rw [h.1]; exact hj)], by rw [hr]; simp [hj]⟩
 · obtain ⟨q, h1, h2⟩ := h.2 j hj
   exact ⟨q, by rw [List.getElem?_set_ne e]; exact h1, by rw [h2]; simp [List.getD_eq_getElem?_getD, List.getElem?_set_ne e]⟩
def rlT (n : Nat) (xs gs : List Nat) (t : Nat) : List Nat := ntab n fun i => if i < t then (if fgt .f32 (xs.getD i 0) 0 then gs.getD i 0 else 0) else 0
theorem rlT_zero (n : Nat) (xs gs : List Nat) : rlT n xs gs 0 = List.replicate n 0 := by
 unfold rlT ntab
 simp only [Nat.not_lt_zero, if_false, List.map_const', List.length_range]
theorem rlT_done (n : Nat) (xs gs : List Nat) : rlT n xs gs n = rpX n xs gs := ntab_congr fun i hi => by rw [if_pos hi]
theorem rlT_keep {n : Nat} {xs gs : List Nat} {t : Nat} (h : fgt .f32 (xs.getD t 0) 0 = false) : rlT n xs gs (t + 1) = rlT n xs gs t := ntab_congr fun i _ => by
 by_cases e : i = t
 · subst e; rw [if_pos (show i < i + 1 by omega), if_neg (show ¬ i < i by omega), h]; rfl
 · by_cases h2 : i < t
   · rw [if_pos h2, if_pos (by omega)]
   · rw [if_neg h2, if_neg (by omega)]
theorem rlT_set {n : Nat} {xs gs : List Nat} {t : Nat} (ht : t < n) (h : fgt .f32 (xs.getD t 0) 0 = true) : rlT n xs gs (t + 1) = (rlT n xs gs t).set t (gs.getD t 0) := by
 unfold rlT ntab
 refine List.ext_getElem (by simp) fun i h1 h2 => ?_
 have hi : i < n := by simpa using h1
 by_cases e : t = i
 · subst e; simp only [List.getElem_map, List.getElem_range, List.getElem_set_self]; rw [if_pos (by omega), if_pos h]
 · rw [List.getElem_set_ne e]
   simp only [List.getElem_map, List.getElem_range]
   by_cases h3 : i < t
   · rw [if_pos h3, if_pos (by omega)]
   · rw [if_neg h3, if_neg (by omega)]
def CutA (R : Prop) (W : World) (b10 b14 b15 gh : Nat) (pg : Option Addr) (sa sb : Nat × Nat) (A A2 : shTensor.T) (two : Bool) (op : Array Value) : Prop :=
 R ∧ HB W b10 op 79 ∧ (∃ y0 y1 y2 fa, HB W b14 #[y0, y1, y2] 37 ∧ TenAtB fa W [y0, y1, y2] sa A ∧ ∀ x ∈ fa, x ≠ gh ∧ x ∉ blocksOf pg ∧ x ≠ b14 ∧ x ≠ b15) ∧
 ∃ y0 y1 y2 fb, HB W b15 #[y0, y1, y2] 37 ∧ (two = true → TenAtB fb W [y0, y1, y2] sb A2 ∧ ∀ x ∈ fb, x ≠ gh ∧ x ∉ blocksOf pg ∧ x ≠ b14 ∧ x ≠ b15)
theorem GR.cell {w : World} {B go n c gh : Nat} {hs : List Bool} {l : List shTensor.T} {css : List (List Value)} {bss : List (List Nat)} (h : GR w B (some ⟨go, 0, none⟩) n c gh hs l css bss) {j off : Nat} {cs : List Value} {u : Value} (hcs : css[j]? = some cs) (hu : cs[off]? = some u) : w.cell? ⟨go, j * shTensor.sz + off, none⟩ = some u := by
 obtain ⟨hj, rfl⟩ := List.getElem?_eq_some_iff.1 hcs
 have h1 := (h.tb.row.cs.elem h.tb.all hj).cell off u hu
 rw [adr_some] at h1
 have hadd : (adr (some ⟨go, 0, none⟩) (j * shTensor.sz)).add off = adr (some ⟨go, 0, none⟩) (j * shTensor.sz + off) := by unfold adr; rw [add_add]
 rw [hadd, adr_row] at h1
 exact h1
theorem zeros_len (ops : List shOp.T) (i : Nat) : ((List.range i).map (zeroT ops)).length = i := by simp
theorem memG_zero (ops : List shOp.T) (h : 1 ≤ ops.length) : memG ops (gradT ops 0) 0 = ((List.range ops.length).map (zeroT ops)).set (ops.length - 1) (seedT ops) := by
 refine getD_ext t0 (by rw [memG_len, List.length_set, List.length_map, List.length_range]) fun j hj => ?_
 rw [memG_len] at hj
 rw [memG_get _ _ hj, getD_set _ _ _ (by simpa using show ops.length - 1 < ops.length by omega)]
 have e : gradT ops 0 = giveG (List.replicate ops.length none) (ops.length - 1) (seedT ops) := by
  unfold gradT giveG seedT
  simp [show ops.length - 1 < ops.length by omega]
 rw [e, giveG_get _ _ _ (by rw [List.length_replicate]; omega)]
 by_cases hjl : j = ops.length - 1
 · rw [if_pos hjl, if_pos hjl]
   have : (List.replicate ops.length (none : Option shTensor.T)).getD (ops.length - 1) none = none := by simp [show ops.length - 1 < ops.length by omega]
   rw [this]
 · rw [if_neg hjl, if_neg hjl]
   have : (List.replicate ops.length (none : Option shTensor.T)).getD j none = none := by simp [hj]
   rw [this]
   simp [hj]
set_option maxRecDepth 100000 in
set_option maxHeartbeats 16000000 in
theorem l04Gradients_any {sh : Nat → Nat × Nat} (p q : Option Addr) (n c k : Nat) (css vcs : List (List Value)) (ops : List shOp.T) (w : World) (O : Ops w p n css ops) (V : Tens w q n vcs (valsT ops n)) (hT : TapeOk sh ops) (h1 : 1 ≤ n) :
 Calls Tryz.prog 81 #[.slice p n c, .slice q n k] w fun e w' => ∃ g cc gcs, e = .returned (.slice g n cc) ∧ Tens w' g n gcs (gradsT ops) ∧ Ext w w' := by
 have hlen := O.len
 have hn : n ≤ 48 := by have := hT.len; omega
 have hps : p.isSome = true := O.cs.some_of (s := 7) (i := 0) O.size (by decide) (by have := O.cnt; omega)
 have hqs : q.isSome = true := V.cs.some_of (s := 3) (i := 0) V.size (by decide) (by have := V.cnt; omega)
 have HLen := hid hlen
 have HT := hid hT
 have hva : Hid (∀ j, j < n → ∃ cs, vcs[j]? = some cs ∧ TenAt w cs (sh j) (vAt ops j)) := hid (fun j hj => by
  obtain ⟨cs, h1, h2⟩ := V.at' (sh := sh) (fun j hj => vals_shaped hT n (by omega) j hj) hj
  rw [valsT_at ops hj] at h2
  exact ⟨cs, h1, h2⟩)
 have HO := hid O
 have HV := hid V
 clear hlen hT O V
 go_enter Tryz.func81, Tryz.ntmps81
 go_wp2_with (first | ((with_reducible show wpList _ _ _ (Oper.mk _ (Op.makeSlice 121 _ _) _ _ _ _ :: _) _ _); refine wl_make w.heap.size n rfl rfl rfl rfl (by unfold maxLen; omega) (by omega) (by simp) ?_; intro gh w1 own1 e1) | fail)
 obtain ⟨L, hL⟩ : ∃ L : Nat, (n : Int) - 1 = (L : Int) := ⟨n - 1, by omega⟩
 have hLn : L < n := by omega
 rw [hL]
 have HL := hid hL
 have HLe := hid (show L = n - 1 by omega)
 clear hL
 rw [made_bools] at own1
 have G0 : GrowOwn (w.alloc (.cells #[] 37)) w.heap.size 37 shTensor (.slice (some ⟨w.heap.size, 0, none⟩) 0 0) [] [] [] := GrowOwn.empty (World.ownsRow_made w #[] 0 (Nat.le_refl _) (by decide) rfl)
 have G1 := G0.ext e1
 have hr1 : HB w1 gh ((List.replicate n false).map Value.bool).toArray 4 := hb_of_ownS own1
 have hgb : w.heap.size ≤ gh := own_le own1 gh rfl
 have E1 : Ext w w1 := (Ext.alloc w (.cells #[] 37)).trans e1
 clear G0 own1 e1
 go_loopw [6, 8] (fun v iv wr => ∃ (i : Nat) (cs2 : List (List Value)) (bss : List (List Nat)), i ≤ n ∧ iv = .int .i64 (i : Int) ∧ GrowOwn wr w.heap.size 37 shTensor v ((List.range i).map (zeroT ops)) cs2 bss ∧ Hid (gh ∉ bss.flatten) ∧ HB wr gh ((List.replicate n false).map Value.bool).toArray 4 ∧ Ext w wr) (fun _ iv _ => n - (intOf iv).toNat)
 case atStart => exact ⟨0, [], [], by omega, rfl, G1, hid (by simp), hr1, E1⟩
 case round =>
  clear G1 hr1 E1
  obtain ⟨i, cs2, bss, hi, rfl, hG, hnb, hr, he⟩ := hrel
  by_cases hlt : i < n
  · obtain ⟨cv, hcv, hvv⟩ := hva.out i hlt
    have hsd := HT.out.side i (by rw [HLen.out]; exact hlt)
    have hze : Hid (zeroT ops i = tFill (sh i).1 (sh i).2 0) := hid (zero_eq HT.out (by rw [HLen.out]; exact hlt))
    have hzs : Hid ((List.range (i + 1)).map (zeroT ops) = (List.range i).map (zeroT ops) ++ [zeroT ops i]) := hid (by rw [List.range_succ, List.map_append]; rfl)
    obtain ⟨qv, kv, uv, xv, rfl, _, _, _, _, _, _⟩ := hvv
    generalize sh i = s at *
    obtain ⟨r, cc⟩ := s
    obtain ⟨s1, s2, s3, s4⟩ := hsd
    dsimp only at *
    have hV := HV.out.ext he
    have hvc := hV.cs; have hvs := hV.size; have hvn := hid hV.cnt
    have hcv0 := hid hcv
    have hle := he.size
    have eD := Ext.drew wr
    have hN : r * cc ≤ 256 := Nat.mul_le_mul s2 s4
    have K := hid (fun V (_ : Ext wr V) => l02Filled_any r cc 0 0 V cn0 (by omega))
    have HXl : Hid ((List.replicate (r * cc) 0).length = r * cc) := hid (by simp)
    obtain ⟨X, hX⟩ : ∃ X, X = List.replicate (r * cc) 0 := ⟨_, rfl⟩
    rw [← hX] at K HXl
    have HX := hid hX
    obtain ⟨N, hN'⟩ : ∃ N, N = r * cc := ⟨_, rfl⟩
    rw [← hN'] at HXl hN
    rw [← hN'] at hcv0
    obtain ⟨F, hF⟩ : ∃ F : Option Tmp → World → Value → Prop, F = fun _ w' u => IsTn wr.heap.size r cc X w' u := ⟨_, rfl⟩
    have HF := hid hF
    have hvD := hvc.ext eD
    have HN' := hid hN'
    clear hF hcv hX hvc hN'
    go_wp2
    refine wp_region_xt 13 (F := F) (by kernel_rfl) (by kernel_rfl) (by kernel_rfl) (by kernel_rfl) (by kernel_rfl) ?_
    intro wf hwf
    simp only [List.take_succ_cons, List.take_zero, List.drop_succ_cons, List.drop_zero]
    repeat (first
     | (refine x_skip rfl ?_; simp only [Act.put, ev_tmp, pu1, pu2, pu3, pu4, pu5])
     | (refine x_mv rfl rfl rfl ?_; simp only [Act.put, ev_tmp, pu1, pu2, pu3, pu4, pu5])
     | (refine x_as rfl rfl rfl ?_; simp only [Act.put, ev_tmp, pu1, pu2, pu3, pu4, pu5])
     | ((with_reducible show wpX _ _ _ _ _ _ (Oper.mk _ (Op.indexAddr _ _ _) _ _ _ _ :: Oper.mk _ (Op.fieldAddr _ _ _) _ _ _ _ :: Oper.mk _ (Op.load _ _) _ _ _ _ :: _) _); refine x_ldField (f := 0) (off := 0) (j := i) rfl rfl (fun _ => rfl) rfl (fun _ _ => rfl) rfl (fun _ => rfl) (fun _ _ => rfl) fo_implTensor_0 rfl rfl rfl hvD hvs hvn.out hlt hqs hcv0.out rfl ?_; simp only [Act.put, ev_tmp, pu1, pu2, pu3, pu4, pu5])
     | ((with_reducible show wpX _ _ _ _ _ _ (Oper.mk _ (Op.indexAddr _ _ _) _ _ _ _ :: Oper.mk _ (Op.fieldAddr _ _ _) _ _ _ _ :: Oper.mk _ (Op.load _ _) _ _ _ _ :: _) _); refine x_ldField (f := 1) (off := 1) (j := i) rfl rfl (fun _ => rfl) rfl (fun _ _ => rfl) rfl (fun _ => rfl) (fun _ _ => rfl) fo_implTensor_1 rfl rfl rfl hvD hvs hvn.out hlt hqs hcv0.out rfl ?_; simp only [Act.put, ev_tmp, pu1, pu2, pu3, pu4, pu5])
     | ((with_reducible show wpX _ _ _ _ _ _ (Oper.mk _ (Op.call _) _ _ _ _ :: _) _); refine x_callf (f := 99) (args := #[.int .i64 r, .int .i64 cc, .float .f32 0]) rfl rfl Tryz.func99 rfl (by kernel_rfl) ?_ ?_ ?_; (focus (simp [Act.eval]; done)); (focus (intro w1 hw1; exact (by rw [HF.out]; exact calls_tn (eD.trans hw1) (K.out w1 (eD.trans hw1))))); rintro u w3 e3 e4 hu; simp only [HF.out] at hu; obtain ⟨q5, c5, vs5, rfl, ho5, hf5⟩ := hu; rw [HXl.out] at ho5 ⊢; have HO5 := hid (own_ext ho5 e4); have HV5 := hid hf5; clear ho5 hf5; simp only [Act.put, ev_tmp, pu1, pu2, pu3, pu4, pu5])
     | (refine x_build1 (u := .agg #[.int .i64 r, .int .i64 cc, .slice q5 N c5]) rfl rfl rfl rfl ?_; intro gb hgb1 hgb2 hcb; simp only [Act.put, ev_tmp, pu1, pu2, pu3, pu4, pu5])
     | (refine x_run rfl fun K hK w1 hw1 => ?_; go_simp; refine hK _ ?_; clear hK K  hw1 w1))
    refine x_nil ?_
    have X1 := eD.trans hwf
    have G1 := hid (hG.ext X1)
    have hrow := G1.out.row
    rw [zeros_len] at hrow
    have hs1 := X1.size
    have hr1 := hr.ext X1
    go_wp2_with (first | ((with_reducible show wpList _ _ _ (Oper.mk _ (Op.call _) _ _ _ _ :: _) _ _); refine wl_app1s (n := i) rfl rfl rfl rfl hrow hcb rfl (by simp [Value.cells, Value.oneCell']) (by unfold maxLen; omega) (by omega) (by omega) ?_; intro g9 c9 w9 own9 gr9 hg9) | fail)
    obtain ⟨o1, o2, o3⟩ := own_mk (r := (r : Int)) (c := (cc : Int)) HXl.out HO5.out HV5.out
    go_roundw
    case rel =>
     have hsn := hG.snoc2 X1 o1 o2 o3 hle (zeros_len ops i) own9 gr9 hg9
     have hd : ((r : Int), (cc : Int), X, ()) = zeroT ops i := by rw [hze.out, HX.out]; rfl
     rw [hd, ← hzs.out] at hsn
     refine ⟨i + 1, _, _, by omega, by go_num, hsn, hid ?_, hr1.chg (Chg.of_grown gr9) (fun h => own_neHB hrow hr1 (by decide) _ h.symm rfl), (he.trans X1).grown gr9 (fun k hk => by have := own_le hrow k hk; omega)⟩
     intro hb
     rw [List.flatten_append, List.flatten_cons, List.flatten_nil, List.append_nil, List.mem_append] at hb
     rcases hb with h | h
     · exact hnb.out h
     · have := o3 gh h; have := hr.lt; omega
    case measure => simp [intOf]; omega
  · obtain rfl : i = n := by omega
    have hrow := hG.row
    rw [zeros_len] at hrow
    obtain ⟨pg, kg, rfl⟩ := own_slice hrow
    have hT1 := hG.tb (zeros_len ops i)
    have hpg : pg.isSome = true := hT1.row.cs.some_of (s := 3) (i := 0) hT1.all (by decide) (by rw [hT1.cnt]; omega)
    have G1 : GR wr w.heap.size pg i kg gh (List.replicate i false) ((List.range i).map (zeroT ops)) cs2 bss := ⟨hT1, hr, by simp, hgb, fun hb => by
     rcases List.mem_append.1 hb with hb | hb
     · cases pg with
       | none => simp [blocksOf] at hb
       | some a => simp [blocksOf] at hb; exact own_neHB hrow hr (by decide) _ rfl hb.symm
     · exact hnb.out hb⟩
    obtain ⟨cv, hcv, hvv⟩ := hva.out L hLn
    have hsd := HT.out.side L (by rw [HLen.out]; exact hLn)
    have hze : Hid (seedT ops = tFill (sh L).1 (sh L).2 oneB32) := hid (by rw [HLe.out, ← HLen.out]; exact seed_eq HT.out (by rw [HLen.out]; exact h1))
    obtain ⟨qv, kv, uv, xv, rfl, _, _, _, _, _, _⟩ := hvv
    obtain ⟨r, hrr⟩ : ∃ r, r = (sh L).1 := ⟨_, rfl⟩
    obtain ⟨cc, hcc⟩ : ∃ r, r = (sh L).2 := ⟨_, rfl⟩
    rw [← hrr, ← hcc] at hcv hze
    have hside : 1 ≤ r ∧ r ≤ 16 ∧ 1 ≤ cc ∧ cc ≤ 16 := by rw [hrr, hcc]; exact hsd
    obtain ⟨s1, s2, s3, s4⟩ := hside
    have hV := HV.out.ext he
    have hvc := hV.cs; have hvs := hV.size; have hvn := hid hV.cnt
    have hcv0 := hid hcv
    have hle := he.size
    have eD := Ext.drew wr
    have hN : r * cc ≤ 256 := Nat.mul_le_mul s2 s4
    have K := hid (fun V (_ : Ext wr V) => l02Filled_any r cc 1065353216 oneB32 V cn_one1 (by omega))
    have HXl : Hid ((List.replicate (r * cc) oneB32).length = r * cc) := hid (by simp)
    obtain ⟨X, hX⟩ : ∃ X, X = List.replicate (r * cc) oneB32 := ⟨_, rfl⟩
    rw [← hX] at K HXl
    have HX := hid hX
    obtain ⟨N, hN'⟩ : ∃ N, N = r * cc := ⟨_, rfl⟩
    rw [← hN'] at HXl hN hcv0
    obtain ⟨F, hF⟩ : ∃ F : Option Tmp → World → Value → Prop, F = fun _ w' u => IsTn wr.heap.size r cc X w' u := ⟨_, rfl⟩
    have HF := hid hF
    have hvD := hvc.ext eD
    clear hF hcv hX hvc hN' hrr hcc hsd hG hr hrow hT1
    go_wp2
    refine wp_region_xt 14 (F := F) (by kernel_rfl) (by kernel_rfl) (by kernel_rfl) (by kernel_rfl) (by kernel_rfl) ?_
    intro wf hwf
    simp only [List.take_succ_cons, List.take_zero, List.drop_succ_cons, List.drop_zero]
    repeat (first
     | (refine x_skip rfl ?_; simp only [Act.put, ev_tmp, pu1, pu2, pu3, pu4, pu5])
     | (refine x_mv rfl rfl rfl ?_; simp only [Act.put, ev_tmp, pu1, pu2, pu3, pu4, pu5])
     | (refine x_as rfl rfl rfl ?_; simp only [Act.put, ev_tmp, pu1, pu2, pu3, pu4, pu5])
     | ((with_reducible show wpX _ _ _ _ _ _ (Oper.mk _ (Op.indexAddr _ _ _) _ _ _ _ :: Oper.mk _ (Op.fieldAddr _ _ _) _ _ _ _ :: Oper.mk _ (Op.load _ _) _ _ _ _ :: _) _); refine x_ldField (f := 0) (off := 0) (j := L) rfl rfl (fun _ => rfl) rfl (fun _ _ => rfl) rfl (fun _ => rfl) (fun _ _ => rfl) fo_implTensor_0 rfl rfl rfl hvD hvs hvn.out hLn hqs hcv0.out rfl ?_; simp only [Act.put, ev_tmp, pu1, pu2, pu3, pu4, pu5])
     | ((with_reducible show wpX _ _ _ _ _ _ (Oper.mk _ (Op.indexAddr _ _ _) _ _ _ _ :: Oper.mk _ (Op.fieldAddr _ _ _) _ _ _ _ :: Oper.mk _ (Op.load _ _) _ _ _ _ :: _) _); refine x_ldField (f := 1) (off := 1) (j := L) rfl rfl (fun _ => rfl) rfl (fun _ _ => rfl) rfl (fun _ => rfl) (fun _ _ => rfl) fo_implTensor_1 rfl rfl rfl hvD hvs hvn.out hLn hqs hcv0.out rfl ?_; simp only [Act.put, ev_tmp, pu1, pu2, pu3, pu4, pu5])
     | ((with_reducible show wpX _ _ _ _ _ _ (Oper.mk _ (Op.call _) _ _ _ _ :: _) _); refine x_callf (f := 99) (args := #[.int .i64 r, .int .i64 cc, .float .f32 1065353216]) rfl rfl Tryz.func99 rfl (by kernel_rfl) ?_ ?_ ?_; (focus (simp [Act.eval]; done)); (focus (intro w1 hw1; exact (by rw [HF.out]; exact calls_tn (eD.trans hw1) (K.out w1 (eD.trans hw1))))); rintro u w3 e3 e4 hu; simp only [HF.out] at hu; obtain ⟨q5, c5, vs5, rfl, ho5, hf5⟩ := hu; rw [HXl.out] at ho5 ⊢; have HO5 := hid (own_ext ho5 e4); have HV5 := hid hf5; clear ho5 hf5; simp only [Act.put, ev_tmp, pu1, pu2, pu3, pu4, pu5])
     | ((with_reducible show wpX _ _ _ _ _ _ (Oper.mk _ (Op.indexAddr _ _ _) _ _ _ _ :: _) _); refine x_idx (i := (L : Int)) rfl rfl rfl rfl hpg (by omega) (by omega) ?_; simp only [Int.toNat_natCast]; simp only [Act.put, ev_tmp, pu1, pu2, pu3, pu4, pu5])
     | (refine x_run rfl fun K hK w1 hw1 => ?_; go_simp; refine hK _ ?_; clear hK K  hw1 w1))
    refine x_nil ?_
    have X1 := eD.trans hwf
    have G2 := G1.ext X1
    have hs1 := X1.size
    obtain ⟨o1, o2, o3⟩ := own_mk (r := (r : Int)) (c := (cc : Int)) HXl.out HO5.out HV5.out
    have HO1 := hid o1; have HO2 := hid o2; have HO3 := hid o3
    have hG2a := G2.tb.all; have hG2c := G2.tb.cnt
    have hget := hid (G1.getA (i := L) hLn)
    clear o1 o2 o3
    go_wp2_with (first | ((with_reducible show wpList _ _ _ (Oper.mk _ (Op.store _ _ _) _ _ _ _ :: _) _ _); refine wl_storeE (s := shTensor) (j := L) (css := cs2) (cs := [.int .i64 r, .int .i64 cc, .slice q5 N c5]) rfl rfl rfl rfl G2.tb.row hG2a (by rw [hG2c]; exact hLn) rfl (by decide) (by simp [Value.oneCell']) ?_; intro w5 hr5 ch5; have G5 := G1.put X1 hLn HO1.out HO2.out HO3.out (by omega) hr5 ch5) | ((with_reducible show wpList _ _ _ (Oper.mk _ (Op.store _ _ _) _ _ _ _ :: _) _ _); refine wl_stHB (u := .bool true) (j := L) rfl rfl G5.hr hget.out rfl rfl rfl ?_; intro w6 hr6 ch6; have G6 := G5.has hr6 ch6) | ((with_reducible show wpList _ _ _ (Oper.mk _ (Op.indexAddr _ _ _) _ _ _ _ :: Oper.mk _ (Op.store _ _ _) _ _ _ _ :: _) _ _); refine wl_idxE (s := 1) (j := L) (p := some ⟨gh, 0, none⟩) rfl rfl rfl rfl rfl rfl hLn ?_; rw [Nat.mul_one, adr_row]) | fail)
    have E6 : Ext w w6 := ((he.trans X1).chg ch5 (fun b hb => G1.tb.lo b (List.mem_append_left _ hb))).chg ch6 (fun b hb => by have hb : b = gh := hb; omega)
    have hgz := gradT_zero ops (by rw [HLen.out]; exact h1)
    have hmz := memG_zero ops (by rw [HLen.out]; exact h1)
    rw [HLen.out, ← HLe.out] at hgz hmz
    have hd : ((r : Int), (cc : Int), X, ()) = seedT ops := by rw [hze.out, HX.out]; rfl
    have GG := G6
    rw [hd, ← hgz.1, ← hmz] at GG
    clear G1 G2 G5 G6 hgz hmz hd hr5 hr6 ch5 ch6 HO1 HO2 HO3 X1 eD hV hvs hvD hget hwf HO5 HV5 hnb he hs1 hG2a hG2c
    go_loopw [9] (fun iv wr => ∃ (m : Nat) (cs3 : List (List Value)) (bs3 : List (List Nat)), m ≤ i ∧ iv = .int .i64 ((i : Int) - 1 - (m : Int)) ∧ GR wr w.heap.size pg i kg gh (hasG (gradT ops m)) (memG ops (gradT ops m) 0) cs3 bs3 ∧ Ext w wr) (fun iv _ => (intOf iv + 1).toNat)
    case atStart => exact ⟨0, _, _, by omega, by have := HL.out; congr 1; omega, GG, E6⟩
    case round =>
     clear GG E6
     obtain ⟨m, cs3, bs3, hm, rfl, G, he⟩ := hrel
     by_cases hlt : m < i
     · obtain ⟨j, hj⟩ : ∃ j : Nat, (i : Int) - 1 - (m : Int) = (j : Int) := ⟨i - 1 - m, by omega⟩
       have hji : j < i := by omega
       have hje : j = ops.length - 1 - m := by rw [HLen.out]; omega
       have hm1 : Hid ((j : Int) - 1 = (i : Int) - 1 - ((m + 1 : Nat) : Int)) := hid (by omega)
       rw [hj]
       have Hj := hid hj
       have Hje := hid hje
       obtain ⟨oc, hoc, hro⟩ := HO.out.at' hji
       have hcs := (HO.out.ext he).cs
       have hcnt := hid HO.out.cnt
       have hsz := HO.out.size
       have hop := HT.out.ok j (by rw [HLen.out]; exact hji)
       have hgl : (gradT ops m).length = i := by rw [gradT_len, HLen.out]
       have hhas := hasG_get (gradT ops m) (j := j) (by rw [hgl]; exact hji)
       have hcg := cs_heap (show wr.heap[gh]? = some (.cells ((hasG (gradT ops m)).map Value.bool).toArray 4) from G.hr)
       have hgj := G.get (i := j) hji
       have hgn : ((hasG (gradT ops m)).map Value.bool).length = i := by rw [List.length_map, hasG_len, hgl]
       rw [hhas] at hgj
       have Hgj := hid hgj; have Hgn := hid hgn
       have HGO := hid (gradT_ok HT.out (by rw [HLen.out]; exact h1) m (by rw [HLen.out]; omega))
       have Hoc := hid hoc; have Hro := hid hro; have Hgl := hid hgl
       clear hj hje hoc hro hgj hgn hgl hhas
       cases hgg : (gradT ops m).getD j none with
       | none =>
         have Hgg := hid hgg
         rw [hgg] at Hgj
         simp only [Option.isSome_none] at Hgj
         have hst := hid (step_none (ops := ops) (m := m) (by rw [← Hje.out]; exact hgg))
         clear hgg
         obtain ⟨ok, oa, ob, orr, oc', zb, oq, om, occ, rfl⟩ := op_vals Hro.out
         go_wp2_with (first | ((with_reducible show wpList _ _ _ (Oper.mk _ (Op.indexAddr _ _ _) _ _ _ _ :: Oper.mk _ (Op.load _ _) _ _ _ _ :: _) _ _); refine wl_idxloadE (s := shOp) (j := j) rfl rfl rfl rfl (fun _ => rfl) rfl rfl rfl hcs hsz hcnt.out hji hps Hoc.out ?_; simp only [ofCs, Sh.agg, if_true]) | ((with_reducible show wpList _ _ _ (Oper.mk _ (Op.indexAddr _ _ _) _ _ _ _ :: Oper.mk _ (Op.load _ _) _ _ _ _ :: _) _ _); refine wl_idxload rfl rfl rfl rfl (fun _ => rfl) rfl rfl (hcg.ext (by (repeat (first | with_reducible exact Ext.refl _ | with_reducible assumption | ((with_reducible refine Ext.setCell ?_ ?_ _); rotate_left; focus (first | (simp; done) | (simp; omega))) | (with_reducible refine Ext.trans ?_ (Ext.alloc _ _)) | (with_reducible refine Ext.trans ?_ (Ext.drew _)) | (with_reducible refine Ext.trans ?_ (by with_reducible assumption)))))) Hgn.out (by omega) (by omega) ?_; intro u hu; rw [Int.toNat_natCast] at hu; replace hu := Hgj.out.symm.trans hu; cases hu) | fail)
         go_roundw
         case rel =>
          exact ⟨m + 1, cs3, bs3, hlt, congrArg _ hm1.out, by rw [hst.out]; exact G.ext (by (repeat (first | with_reducible exact Ext.refl _ | with_reducible assumption | ((with_reducible refine Ext.setCell ?_ ?_ _); rotate_left; focus (first | (simp; done) | (simp; omega))) | (with_reducible refine Ext.trans ?_ (Ext.alloc _ _)) | (with_reducible refine Ext.trans ?_ (Ext.drew _)) | (with_reducible refine Ext.trans ?_ (by with_reducible assumption))))), he.trans (by (repeat (first | with_reducible exact Ext.refl _ | with_reducible assumption | ((with_reducible refine Ext.setCell ?_ ?_ _); rotate_left; focus (first | (simp; done) | (simp; omega))) | (with_reducible refine Ext.trans ?_ (Ext.alloc _ _)) | (with_reducible refine Ext.trans ?_ (Ext.drew _)) | (with_reducible refine Ext.trans ?_ (by with_reducible assumption)))))⟩
         case measure => (simp [intOf] <;> omega)
       | some g =>
         rw [hgg] at Hgj
         simp only [Option.isSome_some] at Hgj
         have Hgg := hid hgg
         clear hgg
         obtain ⟨zb, oq, om, occ, orr, orc, rfl, hzb⟩ := op_vals3 Hro.out
         have HZb := hid hzb
         clear hzb
         by_cases hk0 : (ops.getD j o0).1 = 0
         · have hst := hid (step_inp (ops := ops) (m := m) (by rw [← Hje.out]; exact hk0))
           rw [hk0] at Hoc
           clear hk0
           go_wp2_with (first | ((with_reducible show wpList _ _ _ (Oper.mk _ (Op.indexAddr _ _ _) _ _ _ _ :: Oper.mk _ (Op.load _ _) _ _ _ _ :: _) _ _); refine wl_idxloadE (s := shOp) (j := j) rfl rfl rfl rfl (fun _ => rfl) rfl rfl rfl hcs hsz hcnt.out hji hps Hoc.out ?_; simp only [ofCs, Sh.agg, if_true]) | ((with_reducible show wpList _ _ _ (Oper.mk _ (Op.indexAddr _ _ _) _ _ _ _ :: Oper.mk _ (Op.load _ _) _ _ _ _ :: _) _ _); refine wl_idxload rfl rfl rfl rfl (fun _ => rfl) rfl rfl (hcg.ext (by (repeat (first | with_reducible exact Ext.refl _ | with_reducible assumption | ((with_reducible refine Ext.setCell ?_ ?_ _); rotate_left; focus (first | (simp; done) | (simp; omega))) | (with_reducible refine Ext.trans ?_ (Ext.alloc _ _)) | (with_reducible refine Ext.trans ?_ (Ext.drew _)) | (with_reducible refine Ext.trans ?_ (by with_reducible assumption)))))) Hgn.out (by omega) (by omega) ?_; intro u hu; rw [Int.toNat_natCast] at hu; replace hu := Hgj.out.symm.trans hu; cases hu) | fail)
           go_roundw
           case rel =>
            exact ⟨m + 1, cs3, bs3, hlt, congrArg _ hm1.out, by rw [hst.out]; exact G.ext (by (repeat (first | with_reducible exact Ext.refl _ | with_reducible assumption | ((with_reducible refine Ext.setCell ?_ ?_ _); rotate_left; focus (first | (simp; done) | (simp; omega))) | (with_reducible refine Ext.trans ?_ (Ext.alloc _ _)) | (with_reducible refine Ext.trans ?_ (Ext.drew _)) | (with_reducible refine Ext.trans ?_ (by with_reducible assumption))))), he.trans (by (repeat (first | with_reducible exact Ext.refl _ | with_reducible assumption | ((with_reducible refine Ext.setCell ?_ ?_ _); rotate_left; focus (first | (simp; done) | (simp; omega))) | (with_reducible refine Ext.trans ?_ (Ext.alloc _ _)) | (with_reducible refine Ext.trans ?_ (Ext.drew _)) | (with_reducible refine Ext.trans ?_ (by with_reducible assumption)))))⟩
           case measure => (simp [intOf] <;> omega)
         · as_aux_lemma =>
           have Hk0 := hid hk0
           obtain ⟨kN, a, b, ek, ea, eb, hai, hbi⟩ := op_nat hop hk0
           rw [ek, ea, eb] at Hoc
           have Hek := hid ek; have Hea := hid ea; have Heb := hid eb
           have q0 : ((kN : Int) == 0) = false := by rw [← ek]; simpa using hk0
           have hgs := HGO.out j g Hgg.out
           have hjl : j < ops.length := by rw [HLen.out]; exact hji
           have hmem : (memG ops (gradT ops m) 0).getD j t0 = g := by rw [memG_get _ _ hjl, Hgg.out]
           obtain ⟨cg, fg, dg, hcg1, hfg1, hdg1, hown⟩ := G.tb.at hji
           have hdg : dg = g := by rw [List.getD_eq_getElem?_getD, hdg1] at hmem; exact hmem
           rw [hdg] at hown
           have tgB := tenAtB_of hown hgs
           have hfg : Hid (∀ x ∈ fg, x ≠ gh ∧ x ∉ blocksOf pg ∧ w.heap.size ≤ x ∧ x < wr.heap.size) := hid (fun x hx => by
            have hm2 : x ∈ bs3.flatten := List.mem_flatten.2 ⟨fg, List.mem_of_getElem? hfg1, hx⟩
            refine ⟨fun h => G.ne (h ▸ List.mem_append_right _ hm2), fun h => ?_, G.tb.lo x (List.mem_append_right _ hm2), G.tb.lt x (List.mem_append_right _ hm2)⟩
            have hnd := G.tb.nodup
            rw [List.nodup_append] at hnd
            exact hnd.2.2 x h x hm2 rfl)
           obtain ⟨cv, hcv, hvv⟩ := hva.out a (by omega)
           obtain ⟨cw, hcw, hvw⟩ := hva.out b (by omega)
           obtain ⟨qg, kg', ug, gs, rfl, dg2, lg, g1, g2, g3, g4⟩ := tgB
           obtain ⟨qv, kv, uv, xs, rfl, dv, lv, v1, v2, v3, v4⟩ := hvv
           obtain ⟨qw, kw, uw, ys, rfl, dw, lw, w1', w2', w3', w4'⟩ := hvw
           obtain ⟨W0, hW0⟩ : ∃ W0, W0 = (((((wr.alloc (.cells #[.int .i64 kN, .int .i64 a, .int .i64 b, .float .f32 zb, .int .i64 orr, .int .i64 orc, .slice oq om occ] 79)).alloc (.cells #[.int .i64 (sh j).1, .int .i64 (sh j).2, .slice qg ((sh j).1 * (sh j).2) kg'] 37)).alloc (.cells #[.int .i64 (sh a).1, .int .i64 (sh a).2, .slice qv ((sh a).1 * (sh a).2) kv] 37)).alloc (.cells #[.int .i64 (sh b).1, .int .i64 (sh b).2, .slice qw ((sh b).1 * (sh b).2) kw] 37)).alloc (.cells #[.int .i64 0, .int .i64 0, .slice none 0 0] 37)).alloc (.cells #[.int .i64 0, .int .i64 0, .slice none 0 0] 37) := ⟨_, rfl⟩
           obtain ⟨E0, s0, b10, b11, b12, b13, b14, b15⟩ := box6 hW0
           have hV := HV.out.ext he
           have hvc := hV.cs; have hvs := hV.size; have hvn := hid hV.cnt
           have hgc := G.tb.row.cs; have hgs3 := G.tb.all; have hgn3 := hid G.tb.cnt
           have HCG := hid hcg1; have HCV := hid hcv; have HCW := hid hcw
           have han : a < i := by omega
           have hbn : b < i := by omega
           have hPA : Hid (Shaped (sh a) (partA kN (ops.getD j o0).2.2.2.1 g (vAt ops a) (vAt ops b))) := hid (by
            have h := partA_shaped hop hk0 hgs (v := vAt ops a) (w := vAt ops b) (by rw [ea, Int.toNat_natCast]; exact vAt_shaped HT.out (by omega)) (fun _ => by rw [eb, Int.toNat_natCast]; exact vAt_shaped HT.out (by omega))
            rw [ek, ea, Int.toNat_natCast, Int.toNat_natCast] at h
            exact h)
           have hPB : Hid (twoK kN = true → Shaped (sh b) (partB kN g (vAt ops a) (vAt ops b))) := hid (fun htw => by
            have h := partB_shaped hop (by rw [ek, Int.toNat_natCast]; exact htw) hgs (v := vAt ops a) (w := vAt ops b) (by rw [ea, Int.toNat_natCast]; exact vAt_shaped HT.out (by omega))
            rw [ek, eb, Int.toNat_natCast, Int.toNat_natCast] at h
            exact h)
           have hside := hid (fun x (hx : x ≤ j) => HT.out.side x (by rw [HLen.out]; omega))
           have Hop := hid hop
           clear hcg1 hcv hcw hmem hdg hdg1 hfg1 hk0 ek ea eb hop
           repeat ((fail_if_success (with_reducible show Code.wp _ (Code.block 4 _) _ _ _)); (first | ((with_reducible show wpList _ _ _ (Oper.mk _ (Op.indexAddr _ _ _) _ _ _ _ :: Oper.mk _ (Op.load _ _) _ _ _ _ :: _) _ _); refine wl_idxloadE (s := shOp) (j := j) rfl rfl rfl rfl (fun _ => rfl) rfl rfl rfl hcs hsz hcnt.out hji hps Hoc.out ?_; simp only [ofCs, Sh.agg, if_true]) | ((with_reducible show wpList _ _ _ (Oper.mk _ (Op.indexAddr _ _ _) _ _ _ _ :: Oper.mk _ (Op.load _ _) _ _ _ _ :: _) _ _); refine wl_idxload rfl rfl rfl rfl (fun _ => rfl) rfl rfl (hcg.ext (by (repeat (first | with_reducible exact Ext.refl _ | with_reducible assumption | ((with_reducible refine Ext.setCell ?_ ?_ _); rotate_left; focus (first | (simp; done) | (simp; omega))) | (with_reducible refine Ext.trans ?_ (Ext.alloc _ _)) | (with_reducible refine Ext.trans ?_ (Ext.drew _)) | (with_reducible refine Ext.trans ?_ (by with_reducible assumption)))))) Hgn.out (by omega) (by omega) ?_; intro u hu; rw [Int.toNat_natCast] at hu; replace hu := Hgj.out.symm.trans hu; cases hu) | ((with_reducible show wpList _ _ _ (Oper.mk _ (Op.indexAddr _ _ _) _ _ _ _ :: Oper.mk _ (Op.load _ _) _ _ _ _ :: _) _ _); refine wl_idxloadE (s := shTensor) (j := j) rfl rfl rfl rfl (fun _ => rfl) rfl rfl rfl (hgc.ext (by (repeat (first | with_reducible exact Ext.refl _ | with_reducible assumption | ((with_reducible refine Ext.setCell ?_ ?_ _); rotate_left; focus (first | (simp; done) | (simp; omega))) | (with_reducible refine Ext.trans ?_ (Ext.alloc _ _)) | (with_reducible refine Ext.trans ?_ (Ext.drew _)) | (with_reducible refine Ext.trans ?_ (by with_reducible assumption)))))) hgs3 hgn3.out hji hpg HCG.out ?_; simp only [ofCs, Sh.agg, if_true]) | ((with_reducible show wpList _ _ _ (Oper.mk _ (Op.indexAddr _ _ _) _ _ _ _ :: Oper.mk _ (Op.load _ _) _ _ _ _ :: _) _ _); refine wl_idxloadE (s := shTensor) (j := a) rfl rfl rfl rfl (fun _ => rfl) rfl rfl rfl (hvc.ext (by (repeat (first | with_reducible exact Ext.refl _ | with_reducible assumption | ((with_reducible refine Ext.setCell ?_ ?_ _); rotate_left; focus (first | (simp; done) | (simp; omega))) | (with_reducible refine Ext.trans ?_ (Ext.alloc _ _)) | (with_reducible refine Ext.trans ?_ (Ext.drew _)) | (with_reducible refine Ext.trans ?_ (by with_reducible assumption)))))) hvs hvn.out han hqs HCV.out ?_; simp only [ofCs, Sh.agg, if_true]) | ((with_reducible show wpList _ _ _ (Oper.mk _ (Op.indexAddr _ _ _) _ _ _ _ :: Oper.mk _ (Op.load _ _) _ _ _ _ :: _) _ _); refine wl_idxloadE (s := shTensor) (j := b) rfl rfl rfl rfl (fun _ => rfl) rfl rfl rfl (hvc.ext (by (repeat (first | with_reducible exact Ext.refl _ | with_reducible assumption | ((with_reducible refine Ext.setCell ?_ ?_ _); rotate_left; focus (first | (simp; done) | (simp; omega))) | (with_reducible refine Ext.trans ?_ (Ext.alloc _ _)) | (with_reducible refine Ext.trans ?_ (Ext.drew _)) | (with_reducible refine Ext.trans ?_ (by with_reducible assumption)))))) hvs hvn.out hbn hqs HCW.out ?_; simp only [ofCs, Sh.agg, if_true]) | go_values | go_skip | go_guarded | go_step | go_upon | go_back | (simp only [Int.not_lt, Int.not_le] at *; go_simp) | (go_values <;> (try go_simp)) | (go_ite <;> go_prune <;> (try go_simp)) | (split <;> (first | (rename_i hx; exact (hx _ rfl).elim) | go_prune))))
           rw [← hW0]
           clear hW0
           refine wp_cutS (fun x => (decide (16 ≤ x) && decide (x ≤ 20)) || (decide (102 ≤ x) && decide (x ≤ 184))) (fun W => CutA (Ext wr W) W wr.heap.size (wr.heap.size + 1 + 1 + 1 + 1) (wr.heap.size + 1 + 1 + 1 + 1 + 1) gh pg (sh a) (sh b) (partA kN (ops.getD j o0).2.2.2.1 g (vAt ops a) (vAt ops b)) (partB kN g (vAt ops a) (vAt ops b)) (twoK kN) #[.int .i64 kN, .int .i64 a, .int .i64 b, .float .f32 zb, .int .i64 orr, .int .i64 orc, .slice oq om occ]) ?_ ?_
           · have hop := Hop.out
             have ek := Hek.out; have ea := Hea.out; have eb := Heb.out
             have tgB : TenAtB fg wr [.int .i64 (sh j).1, .int .i64 (sh j).2, .slice qg ((sh j).1 * (sh j).2) kg'] (sh j) (tn (sh j).1 (sh j).2 gs) := ⟨qg, kg', ug, gs, rfl, rfl, lg, g1, g2, g3, g4⟩
             rw [dv] at hPA hPB ⊢
             rw [dw] at hPA hPB ⊢
             rw [dg2] at hPA hPB ⊢
             have hs1 := hside.out a (by omega); have hs2 := hside.out b (by omega); have hs0 := hside.out j (Nat.le_refl _)
             have hfr : Hid (∀ x, W0.heap.size ≤ x → x ≠ gh ∧ x ∉ blocksOf pg ∧ x ≠ wr.heap.size + 1 + 1 + 1 + 1 ∧ x ≠ wr.heap.size + 1 + 1 + 1 + 1 + 1) := hid (fun x hx => ⟨by have := G.hr.lt; omega, fun h => by have := G.tb.lt x (List.mem_append_left _ h); omega, by omega, by omega⟩)
             have b10_0 := b10; have b11_0 := b11; have b12_0 := b12; have b13_0 := b13; have b14_0 := b14; have b15_0 := b15
             have XE0 := E0
             have CH0 : Chg (fun z => z = wr.heap.size + 1 + 1 + 1 + 1 ∨ z = wr.heap.size + 1 + 1 + 1 + 1 + 1) wr W0 := Chg.of_ext E0
             have hkz := Hk0.out
             clear hcs hcnt hsz hcg Hgj Hgn Hoc Hro hgc hgs3 hgn3 hvc hvs hvn hV HCG HCV HCW HGO Hgg hgs dv dw dg2 Hek Hea Heb Hk0 b10 b11 b12 b13 b14 b15 E0 q0 hm1 hside HV HO hva Hop HLen HT HL HLe
             generalize ops.getD j o0 = d at *
             cases hop with
             | add a' b' _ _ h1 h2 =>
               as_aux_lemma =>
               obtain rfl : kN = 1 := by have h : ((1 : Nat) : Int) = kN := ek; omega
               have ea' : a' = a := by have h : ((a' : Nat) : Int) = a := ea; omega
               have eb' : b' = b := by have h : ((b' : Nat) : Int) = b := eb; omega
               rw [ea', eb'] at h1
               rw [ea'] at h2
               clear ek ea eb
               have hdz : (mkOp 1 a' b' 0 t0).2.2.2.1 = 0 := rfl
               rw [hdz] at hPA HZb ⊢
               clear hdz
               generalize hsj : sh j = sj at *
               generalize hsa : sh a = sa at *
               generalize hsb : sh b = sb at *
               obtain ⟨rg, cg'⟩ := sj
               obtain ⟨ra, ca'⟩ := sa
               obtain ⟨rb, cb'⟩ := sb
               obtain ⟨i1, i2, i3, i4⟩ := hs1
               obtain ⟨j1, j2, j3, j4⟩ := hs2
               obtain ⟨k1, k2, k3, k4⟩ := hs0
               dsimp only at *
               generalize hNg : rg * cg' = Ng at *
               generalize hNa : ra * ca' = Na at *
               generalize hNb : rb * cb' = Nb at *
               have hNg2 : Ng ≤ 256 := by rw [← hNg]; exact Nat.mul_le_mul k2 k4
               have hNa2 : Na ≤ 256 := by rw [← hNa]; exact Nat.mul_le_mul i2 i4
               have hNb2 : Nb ≤ 256 := by rw [← hNb]; exact Nat.mul_le_mul j2 j4
               have hsg : (rg, cg') = (ra, ca') := h2
               have hsg2 : (rg, cg') = (rb, cb') := h2.trans h1.symm
               have m110 := b11_0.cell 0 rfl; have m111 := b11_0.cell 1 rfl; have m112 := b11_0.cell 2 rfl
               go_wp2_with (first | ((with_reducible show wpList _ _ _ (Oper.mk _ (Op.store _ _ _) _ _ _ _ :: _) _ _); refine wl_st3 (y0 := .int .i64 rg) (y1 := .int .i64 cg') (y2 := .slice qg Ng kg') rfl rfl rfl rfl b14_0 rfl rfl rfl ?_; intro W1 b14_1 ch1; have XE1 := XE0.chg ch1 (fun z hz => by have hz : z = _ := hz; omega); have hz1 := ch1.size; have CH1 := CH0.trans (ch1.mono (fun z hz => Or.inl hz)); have b10_1 := b10_0.chg ch1 (fun h => by have h : _ = _ := h; omega); have b11_1 := b11_0.chg ch1 (fun h => by have h : _ = _ := h; omega); have b12_1 := b12_0.chg ch1 (fun h => by have h : _ = _ := h; omega); have b13_1 := b13_0.chg ch1 (fun h => by have h : _ = _ := h; omega); have b15_1 := b15_0.chg ch1 (fun h => by have h : _ = _ := h; omega); have m110 := b11_1.cell 0 rfl; have m111 := b11_1.cell 1 rfl; have m112 := b11_1.cell 2 rfl) | ((with_reducible show wpList _ _ _ (Oper.mk _ (Op.store _ _ _) _ _ _ _ :: _) _ _); refine wl_st3 (y0 := .int .i64 rg) (y1 := .int .i64 cg') (y2 := .slice qg Ng kg') rfl rfl rfl rfl b15_1 rfl rfl rfl ?_; intro W2 b15_2 ch2; have XE2 := XE1.chg ch2 (fun z hz => by have hz : z = _ := hz; omega); have hz2 := ch2.size; have CH2 := CH1.trans (ch2.mono (fun z hz => Or.inr hz)); have b10_2 := b10_1.chg ch2 (fun h => by have h : _ = _ := h; omega); have b11_2 := b11_1.chg ch2 (fun h => by have h : _ = _ := h; omega); have b12_2 := b12_1.chg ch2 (fun h => by have h : _ = _ := h; omega); have b13_2 := b13_1.chg ch2 (fun h => by have h : _ = _ := h; omega); have b14_2 := b14_1.chg ch2 (fun h => by have h : _ = _ := h; omega)) | fail)
               have T := tgB.chg CH2 (fun z hz h => by have h1 := hfg.out z hz; rcases h with h | h <;> omega)
               rw [hsg] at T
               have T2 := T
               rw [← hsg, hsg2] at T2
               refine cut_end ?_ ?_
               · kernel_rfl
               · exact ⟨XE2, b10_2, ⟨_, _, _, _, b14_2, T, (fun z hz => by have h1 := hfg.out z hz; refine ⟨h1.1, h1.2.1, by omega, by omega⟩)⟩, ⟨_, _, _, _, b15_2, fun _ => ⟨T2, (fun z hz => by have h1 := hfg.out z hz; refine ⟨h1.1, h1.2.1, by omega, by omega⟩)⟩⟩⟩
             | mul a' b' _ _ h1 h2 =>
               as_aux_lemma =>
               obtain rfl : kN = 3 := by have h : ((3 : Nat) : Int) = kN := ek; omega
               have ea' : a' = a := by have h : ((a' : Nat) : Int) = a := ea; omega
               have eb' : b' = b := by have h : ((b' : Nat) : Int) = b := eb; omega
               rw [ea', eb'] at h1
               rw [ea'] at h2
               clear ek ea eb
               have hdz : (mkOp 3 a' b' 0 t0).2.2.2.1 = 0 := rfl
               rw [hdz] at hPA HZb ⊢
               clear hdz
               generalize hsj : sh j = sj at *
               generalize hsa : sh a = sa at *
               generalize hsb : sh b = sb at *
               obtain ⟨rg, cg'⟩ := sj
               obtain ⟨ra, ca'⟩ := sa
               obtain ⟨rb, cb'⟩ := sb
               obtain ⟨i1, i2, i3, i4⟩ := hs1
               obtain ⟨j1, j2, j3, j4⟩ := hs2
               obtain ⟨k1, k2, k3, k4⟩ := hs0
               dsimp only at *
               generalize hNg : rg * cg' = Ng at *
               generalize hNa : ra * ca' = Na at *
               generalize hNb : rb * cb' = Nb at *
               have hNg2 : Ng ≤ 256 := by rw [← hNg]; exact Nat.mul_le_mul k2 k4
               have hNa2 : Na ≤ 256 := by rw [← hNa]; exact Nat.mul_le_mul i2 i4
               have hNb2 : Nb ≤ 256 := by rw [← hNb]; exact Nat.mul_le_mul j2 j4
               have hgw : Ng ≤ Nb := by rw [← hNg, ← hNb, show rb = ra from congrArg Prod.fst h1, show cb' = ca' from congrArg Prod.snd h1, show rg = ra from congrArg Prod.fst h2, show cg' = ca' from congrArg Prod.snd h2]; exact Nat.le_refl _
               have hgv : Ng ≤ Na := by rw [← hNg, ← hNa, show rg = ra from congrArg Prod.fst h2, show cg' = ca' from congrArg Prod.snd h2]; exact Nat.le_refl _
               have HA1 : Hid ((mulX Ng gs ys).length = Ng) := hid (ntab_len _ _)
               have HB1 : Hid ((mulX Ng gs xs).length = Ng) := hid (ntab_len _ _)
               have HVA : Hid (partA 3 0 (tn rg cg' gs) (tn ra ca' xs) (tn rb cb' ys) = ((rg : Int), (cg' : Int), mulX Ng gs ys, ())) := hid (by simp only [partA, tMul, tAdd, tMM, tTurn]; simp only [tn, lg]; (try rfl))
               have HVB : Hid (partB 3 (tn rg cg' gs) (tn ra ca' xs) (tn rb cb' ys) = ((rg : Int), (cg' : Int), mulX Ng gs xs, ())) := hid (by simp only [partB, tMul, tAdd, tMM, tTurn]; simp only [tn, lg]; (try rfl))
               go_wp2_with (first | fail)
               refine (l02Mul_any (sp := none) (sq := none) (wr.heap.size + 1) 0 rg cg' qg Ng kg' ug gs (wr.heap.size + 1 + 1 + 1) 0 qw Nb kw uw ys W0 (b11_0.cell 0 rfl) (b11_0.cell 1 rfl) (b11_0.cell 2 rfl) lg (by omega) (g1 W0 _ (fun z hz h => by have h1 := hfg.out z hz; rcases h with h | h <;> omega) CH0) g2 (b13_0.cell 2 rfl) lw hgw (by omega) (w1'.ext (he.trans XE0)) w2').mono ?_
               rintro e W1 ⟨tq1, tk1, ws1, rfl, own1, hf1, e1⟩
               rw [HA1.out] at own1 ⊢
               have eS1 := e1
               have XE1 := XE0.trans e1
               have hz1 := e1.size
               have CH1 := CH0.trans (Chg.of_ext e1)
               have b10_1 := b10_0.ext e1
               have b11_1 := b11_0.ext e1
               have b12_1 := b12_0.ext e1
               have b13_1 := b13_0.ext e1
               have b14_1 := b14_0.ext e1
               have b15_1 := b15_0.ext e1
               go_wp2_with (first | ((with_reducible show wpList _ _ _ (Oper.mk _ (Op.store _ _ _) _ _ _ _ :: _) _ _); refine wl_st3 (y0 := .int .i64 rg) (y1 := .int .i64 cg') (y2 := .slice tq1 Ng tk1) rfl rfl rfl rfl b14_1 rfl rfl rfl ?_; intro W2 b14_2 ch2; have XE2 := XE1.chg ch2 (fun z hz => by have hz : z = _ := hz; omega); have hz2 := ch2.size; have CH2 := CH1.trans (ch2.mono (fun z hz => Or.inl hz)); have b10_2 := b10_1.chg ch2 (fun h => by have h : _ = _ := h; omega); have b11_2 := b11_1.chg ch2 (fun h => by have h : _ = _ := h; omega); have b12_2 := b12_1.chg ch2 (fun h => by have h : _ = _ := h; omega); have b13_2 := b13_1.chg ch2 (fun h => by have h : _ = _ := h; omega); have b15_2 := b15_1.chg ch2 (fun h => by have h : _ = _ := h; omega)) | fail)
               refine (l02Mul_any (sp := none) (sq := none) (wr.heap.size + 1) 0 rg cg' qg Ng kg' ug gs (wr.heap.size + 1 + 1) 0 qv Na kv uv xs W2 (b11_2.cell 0 rfl) (b11_2.cell 1 rfl) (b11_2.cell 2 rfl) lg (by omega) (g1 W2 _ (fun z hz h => by have h1 := hfg.out z hz; rcases h with h | h <;> omega) CH2) g2 (b12_2.cell 2 rfl) lv hgv (by omega) (v1.ext (he.trans XE2)) v2).mono ?_
               rintro e W3 ⟨tq3, tk3, ws3, rfl, own3, hf3, e3⟩
               rw [HB1.out] at own3 ⊢
               have eS3 := e3
               have XE3 := XE2.trans e3
               have hz3 := e3.size
               have CH3 := CH2.trans (Chg.of_ext e3)
               have b10_3 := b10_2.ext e3
               have b11_3 := b11_2.ext e3
               have b12_3 := b12_2.ext e3
               have b13_3 := b13_2.ext e3
               have b14_3 := b14_2.ext e3
               have b15_3 := b15_2.ext e3
               go_wp2_with (first | ((with_reducible show wpList _ _ _ (Oper.mk _ (Op.store _ _ _) _ _ _ _ :: _) _ _); refine wl_st3 (y0 := .int .i64 rg) (y1 := .int .i64 cg') (y2 := .slice tq3 Ng tk3) rfl rfl rfl rfl b15_3 rfl rfl rfl ?_; intro W4 b15_4 ch4; have XE4 := XE3.chg ch4 (fun z hz => by have hz : z = _ := hz; omega); have hz4 := ch4.size; have CH4 := CH3.trans (ch4.mono (fun z hz => Or.inr hz)); have b10_4 := b10_3.chg ch4 (fun h => by have h : _ = _ := h; omega); have b11_4 := b11_3.chg ch4 (fun h => by have h : _ = _ := h; omega); have b12_4 := b12_3.chg ch4 (fun h => by have h : _ = _ := h; omega); have b13_4 := b13_3.chg ch4 (fun h => by have h : _ = _ := h; omega); have b14_4 := b14_3.chg ch4 (fun h => by have h : _ = _ := h; omega)) | fail)
               have CQ1 := ((ch2.mono (fun z hz => Or.inl hz)).trans (Chg.of_ext e3)).trans (ch4.mono (fun z hz => Or.inr hz) : Chg (fun z => z = (wr.heap.size + 1 + 1 + 1 + 1) ∨ z = (wr.heap.size + 1 + 1 + 1 + 1 + 1)) _ _)
               have CQ3 := (ch4.mono (fun z hz => Or.inr hz) : Chg (fun z => z = (wr.heap.size + 1 + 1 + 1 + 1) ∨ z = (wr.heap.size + 1 + 1 + 1 + 1 + 1)) _ _)
               obtain ⟨o1a, o1b, o1c⟩ := own_mk (r := (rg : Int)) (c := (cg' : Int)) HA1.out own1 hf1
               have on1 := o1a.chg CQ1 (fun z hz h => by have h1 := o1c z hz; rcases h with h | h <;> omega)
               have T1 := tenAtB_of on1 (by rw [← HVA.out]; exact hPA.out)
               rw [← HVA.out] at T1
               obtain ⟨o3a, o3b, o3c⟩ := own_mk (r := (rg : Int)) (c := (cg' : Int)) HB1.out own3 hf3
               have on3 := o3a.chg CQ3 (fun z hz h => by have h1 := o3c z hz; rcases h with h | h <;> omega)
               have T3 := tenAtB_of on3 (by rw [← HVB.out]; exact hPB.out rfl)
               rw [← HVB.out] at T3
               refine cut_end ?_ ?_
               · kernel_rfl
               · exact ⟨XE4, b10_4, ⟨_, _, _, _, b14_4, T1, (fun z hz => hfr.out z (by have := o1c z hz; omega))⟩, ⟨_, _, _, _, b15_4, fun _ => ⟨T3, (fun z hz => hfr.out z (by have := o3c z hz; omega))⟩⟩⟩
             | addR a' b' _ _ h1 h2 =>
               as_aux_lemma =>
               obtain rfl : kN = 2 := by have h : ((2 : Nat) : Int) = kN := ek; omega
               have ea' : a' = a := by have h : ((a' : Nat) : Int) = a := ea; omega
               have eb' : b' = b := by have h : ((b' : Nat) : Int) = b := eb; omega
               rw [ea', eb'] at h1
               rw [ea'] at h2
               clear ek ea eb
               have hdz : (mkOp 2 a' b' 0 t0).2.2.2.1 = 0 := rfl
               rw [hdz] at hPA HZb ⊢
               clear hdz
               generalize hsj : sh j = sj at *
               generalize hsa : sh a = sa at *
               generalize hsb : sh b = sb at *
               obtain ⟨rg, cg'⟩ := sj
               obtain ⟨ra, ca'⟩ := sa
               obtain ⟨rb, cb'⟩ := sb
               obtain ⟨i1, i2, i3, i4⟩ := hs1
               obtain ⟨j1, j2, j3, j4⟩ := hs2
               obtain ⟨k1, k2, k3, k4⟩ := hs0
               dsimp only at *
               generalize hNg : rg * cg' = Ng at *
               generalize hNa : ra * ca' = Na at *
               generalize hNb : rb * cb' = Nb at *
               have hNg2 : Ng ≤ 256 := by rw [← hNg]; exact Nat.mul_le_mul k2 k4
               have hNa2 : Na ≤ 256 := by rw [← hNa]; exact Nat.mul_le_mul i2 i4
               have hNb2 : Nb ≤ 256 := by rw [← hNb]; exact Nat.mul_le_mul j2 j4
               have hsg : (rg, cg') = (ra, ca') := h2
               have HB1 : Hid ((sumRX cg' gs).length = cg') := hid (ntab_len _ _)
               have HVB : Hid (partB 2 (tn rg cg' gs) (tn ra ca' xs) (tn rb cb' ys) = ((1 : Int), (cg' : Int), sumRX cg' gs, ())) := hid (by simp only [partB, tMul, tAdd, tMM, tTurn]; simp only [tn, Int.toNat_natCast]; (try rfl))
               have m110 := b11_0.cell 0 rfl; have m111 := b11_0.cell 1 rfl; have m112 := b11_0.cell 2 rfl
               go_wp2_with (first | ((with_reducible show wpList _ _ _ (Oper.mk _ (Op.store _ _ _) _ _ _ _ :: _) _ _); refine wl_st3 (y0 := .int .i64 rg) (y1 := .int .i64 cg') (y2 := .slice qg Ng kg') rfl rfl rfl rfl b14_0 rfl rfl rfl ?_; intro W1 b14_1 ch1; have XE1 := XE0.chg ch1 (fun z hz => by have hz : z = _ := hz; omega); have hz1 := ch1.size; have CH1 := CH0.trans (ch1.mono (fun z hz => Or.inl hz)); have b10_1 := b10_0.chg ch1 (fun h => by have h : _ = _ := h; omega); have b11_1 := b11_0.chg ch1 (fun h => by have h : _ = _ := h; omega); have b12_1 := b12_0.chg ch1 (fun h => by have h : _ = _ := h; omega); have b13_1 := b13_0.chg ch1 (fun h => by have h : _ = _ := h; omega); have b15_1 := b15_0.chg ch1 (fun h => by have h : _ = _ := h; omega)) | fail)
               have eD2 := Ext.drew W1
               have r1 := (b11_1.ext eD2).cell 1 rfl
               have KS := hid (fun V (h : Ext W1 V) => l02SumRows_any (sp := none) (wr.heap.size + 1) 0 cg' qg Ng kg' ug gs V ((b11_1.ext h).cell 1 rfl) ((b11_1.ext h).cell 2 rfl) lg (by omega) k3 (by omega) ((g1 W1 _ (fun z hz h => by have h1 := hfg.out z hz; rcases h with h | h <;> omega) CH1).ext h) g2)
               obtain ⟨F, hF⟩ : ∃ F : Option Tmp → World → Value → Prop, F = fun _ w' u => IsFl W1.heap.size (sumRX cg' gs) w' u := ⟨_, rfl⟩
               have HF := hid hF
               clear hF
               refine wp_region_xt 4 (F := F) (by kernel_rfl) (by kernel_rfl) (by kernel_rfl) (by kernel_rfl) (by kernel_rfl) ?_
               intro wf hwf
               simp only [List.take_succ_cons, List.take_zero, List.drop_succ_cons, List.drop_zero]
               repeat (first
                | (refine x_skip rfl ?_; simp only [Act.put, ev_tmp, pu1, pu2, pu3, pu4, pu5])
                | (refine x_mv rfl rfl rfl ?_; simp only [Act.put, ev_tmp, pu1, pu2, pu3, pu4, pu5])
                | (refine x_as rfl rfl rfl ?_; simp only [Act.put, ev_tmp, pu1, pu2, pu3, pu4, pu5])
                | ((with_reducible show wpX _ _ _ _ _ _ (Oper.mk _ (Op.call _) _ _ _ _ :: _) _); refine x_callf (f := 101) (args := #[.pointer (some ⟨(wr.heap.size + 1), 0, none⟩)]) rfl rfl Tryz.func101 rfl (by kernel_rfl) ?_ ?_ ?_; (focus (simp [Act.eval]; done)); (focus (intro w1 hw1; exact (by rw [HF.out]; exact calls_fl (eD2.trans hw1) (KS.out w1 (eD2.trans hw1))))); rintro u w3 e3 e4 hu; simp only [HF.out] at hu; obtain ⟨tq2, tk2, ws2, rfl, ho5, hf5⟩ := hu; rw [HB1.out] at ho5 ⊢; have own2 := own_ext ho5 e4; have hf2 := hf5; clear ho5 hf5; simp only [Act.put, ev_tmp, pu1, pu2, pu3, pu4, pu5])
                | (refine x_run rfl fun K hK w1 hw1 => ?_; have k0 := hw1.cell (r1); go_simp; refine hK _ ?_; clear hK K k0 hw1 w1))
               refine x_nil ?_
               have e2 := eD2.trans hwf
               obtain ⟨W2, hWf⟩ : ∃ W, W = wf := ⟨_, rfl⟩
               rw [← hWf] at e2 own2 ⊢
               clear hWf hwf r1
               have eS2 := e2
               have XE2 := XE1.trans e2
               have hz2 := e2.size
               have CH2 := CH1.trans (Chg.of_ext e2)
               have b10_2 := b10_1.ext e2
               have b11_2 := b11_1.ext e2
               have b12_2 := b12_1.ext e2
               have b13_2 := b13_1.ext e2
               have b14_2 := b14_1.ext e2
               have b15_2 := b15_1.ext e2
               go_wp2_with (first | ((with_reducible show wpList _ _ _ (Oper.mk _ (Op.store _ _ _) _ _ _ _ :: _) _ _); refine wl_st3 (y0 := .int .i64 1) (y1 := .int .i64 cg') (y2 := .slice tq2 cg' tk2) rfl rfl rfl rfl b15_2 rfl rfl rfl ?_; intro W3 b15_3 ch3; have XE3 := XE2.chg ch3 (fun z hz => by have hz : z = _ := hz; omega); have hz3 := ch3.size; have CH3 := CH2.trans (ch3.mono (fun z hz => Or.inr hz)); have b10_3 := b10_2.chg ch3 (fun h => by have h : _ = _ := h; omega); have b11_3 := b11_2.chg ch3 (fun h => by have h : _ = _ := h; omega); have b12_3 := b12_2.chg ch3 (fun h => by have h : _ = _ := h; omega); have b13_3 := b13_2.chg ch3 (fun h => by have h : _ = _ := h; omega); have b14_3 := b14_2.chg ch3 (fun h => by have h : _ = _ := h; omega)) | fail)
               have CQ2 := (ch3.mono (fun z hz => Or.inr hz) : Chg (fun z => z = (wr.heap.size + 1 + 1 + 1 + 1) ∨ z = (wr.heap.size + 1 + 1 + 1 + 1 + 1)) _ _)
               obtain ⟨o2a, o2b, o2c⟩ := own_mk (r := (1 : Int)) (c := (cg' : Int)) HB1.out own2 hf2
               have on2 := o2a.chg CQ2 (fun z hz h => by have h1 := o2c z hz; rcases h with h | h <;> omega)
               have T2 := tenAtB_of on2 (by rw [← HVB.out]; exact hPB.out rfl)
               rw [← HVB.out] at T2
               have T := tgB.chg CH3 (fun z hz h => by have h1 := hfg.out z hz; rcases h with h | h <;> omega)
               rw [hsg] at T
               refine cut_end ?_ ?_
               · kernel_rfl
               · exact ⟨XE3, b10_3, ⟨_, _, _, _, b14_3, T, (fun z hz => by have h1 := hfg.out z hz; refine ⟨h1.1, h1.2.1, by omega, by omega⟩)⟩, ⟨_, _, _, _, b15_3, fun _ => ⟨T2, (fun z hz => hfr.out z (by have := o2c z hz; omega))⟩⟩⟩
             | mulR a' b' _ _ h1 h2 =>
               as_aux_lemma =>
               obtain rfl : kN = 4 := by have h : ((4 : Nat) : Int) = kN := ek; omega
               have ea' : a' = a := by have h : ((a' : Nat) : Int) = a := ea; omega
               have eb' : b' = b := by have h : ((b' : Nat) : Int) = b := eb; omega
               rw [ea', eb'] at h1
               rw [ea'] at h2
               clear ek ea eb
               have hdz : (mkOp 4 a' b' 0 t0).2.2.2.1 = 0 := rfl
               rw [hdz] at hPA HZb ⊢
               clear hdz
               generalize hsj : sh j = sj at *
               generalize hsa : sh a = sa at *
               generalize hsb : sh b = sb at *
               obtain ⟨rg, cg'⟩ := sj
               obtain ⟨ra, ca'⟩ := sa
               obtain ⟨rb, cb'⟩ := sb
               obtain ⟨i1, i2, i3, i4⟩ := hs1
               obtain ⟨j1, j2, j3, j4⟩ := hs2
               obtain ⟨k1, k2, k3, k4⟩ := hs0
               dsimp only at *
               generalize hNg : rg * cg' = Ng at *
               generalize hNa : ra * ca' = Na at *
               generalize hNb : rb * cb' = Nb at *
               have hNg2 : Ng ≤ 256 := by rw [← hNg]; exact Nat.mul_le_mul k2 k4
               have hNa2 : Na ≤ 256 := by rw [← hNa]; exact Nat.mul_le_mul i2 i4
               have hNb2 : Nb ≤ 256 := by rw [← hNb]; exact Nat.mul_le_mul j2 j4
               have hgv : Ng ≤ Na := by rw [← hNg, ← hNa, show rg = ra from congrArg Prod.fst h2, show cg' = ca' from congrArg Prod.snd h2]; exact Nat.le_refl _
               have hNc : Nb = cg' := by rw [← hNb, show rb = 1 from congrArg Prod.fst h1, show cb' = ca' from congrArg Prod.snd h1, show cg' = ca' from congrArg Prod.snd h2]; omega
               have KM : Hid (Calls Tryz.prog 94 #[.pointer (some ⟨wr.heap.size + 1, 0, none⟩), .slice qw Nb kw] W0 (RetTen W0 rg cg' (mulRX Ng Nb gs ys))) := hid (by
                have h := l02MulRow_any (sp := none) (wr.heap.size + 1) 0 rg qg Ng kg' ug gs qw Nb kw uw ys W0 (b11_0.cell 0 rfl) (by rw [hNc]; exact b11_0.cell 1 rfl) (b11_0.cell 2 rfl) lg (by omega) (g1 W0 _ (fun z hz h => by have h1 := hfg.out z hz; rcases h with h | h <;> omega) CH0) g2 lw (by omega) (by omega) (w1'.ext (he.trans XE0)) w2'
                rw [show ((Nb : Nat) : Int) = ((cg' : Nat) : Int) by rw [hNc]] at h
                exact h)
               have HNc := hid hNc
               clear hNc
               have HA1 : Hid ((mulRX Ng Nb gs ys).length = Ng) := hid (ntab_len _ _)
               have HB0 : Hid ((mulX Ng gs xs).length = Ng) := hid (ntab_len _ _)
               have HB1 : Hid ((sumRX cg' (mulX Ng gs xs)).length = cg') := hid (ntab_len _ _)
               have HVA : Hid (partA 4 0 (tn rg cg' gs) (tn ra ca' xs) (tn rb cb' ys) = ((rg : Int), (cg' : Int), mulRX Ng Nb gs ys, ())) := hid (by simp only [partA, tMul, tAdd, tMM, tTurn]; simp only [tn, lg, HNc.out, Int.toNat_natCast]; (try rfl))
               have HVB : Hid (partB 4 (tn rg cg' gs) (tn ra ca' xs) (tn rb cb' ys) = ((1 : Int), (cg' : Int), sumRX cg' (mulX Ng gs xs), ())) := hid (by simp only [partB, tMul, tAdd, tMM, tTurn]; simp only [tn, lg, Int.toNat_natCast]; (try rfl))
               have m132 := b13_0.cell 2 rfl
               go_wp2_with (first | fail)
               refine (KM.out).mono ?_
               rintro e W1 ⟨tq1, tk1, ws1, rfl, own1, hf1, e1⟩
               rw [HA1.out] at own1 ⊢
               have eS1 := e1
               have XE1 := XE0.trans e1
               have hz1 := e1.size
               have CH1 := CH0.trans (Chg.of_ext e1)
               have b10_1 := b10_0.ext e1
               have b11_1 := b11_0.ext e1
               have b12_1 := b12_0.ext e1
               have b13_1 := b13_0.ext e1
               have b14_1 := b14_0.ext e1
               have b15_1 := b15_0.ext e1
               go_wp2_with (first | ((with_reducible show wpList _ _ _ (Oper.mk _ (Op.store _ _ _) _ _ _ _ :: _) _ _); refine wl_st3 (y0 := .int .i64 rg) (y1 := .int .i64 cg') (y2 := .slice tq1 Ng tk1) rfl rfl rfl rfl b14_1 rfl rfl rfl ?_; intro W2 b14_2 ch2; have XE2 := XE1.chg ch2 (fun z hz => by have hz : z = _ := hz; omega); have hz2 := ch2.size; have CH2 := CH1.trans (ch2.mono (fun z hz => Or.inl hz)); have b10_2 := b10_1.chg ch2 (fun h => by have h : _ = _ := h; omega); have b11_2 := b11_1.chg ch2 (fun h => by have h : _ = _ := h; omega); have b12_2 := b12_1.chg ch2 (fun h => by have h : _ = _ := h; omega); have b13_2 := b13_1.chg ch2 (fun h => by have h : _ = _ := h; omega); have b15_2 := b15_1.chg ch2 (fun h => by have h : _ = _ := h; omega)) | fail)
               refine (l02Mul_any (sp := none) (sq := none) (wr.heap.size + 1) 0 rg cg' qg Ng kg' ug gs (wr.heap.size + 1 + 1) 0 qv Na kv uv xs W2 (b11_2.cell 0 rfl) (b11_2.cell 1 rfl) (b11_2.cell 2 rfl) lg (by omega) (g1 W2 _ (fun z hz h => by have h1 := hfg.out z hz; rcases h with h | h <;> omega) CH2) g2 (b12_2.cell 2 rfl) lv hgv (by omega) (v1.ext (he.trans XE2)) v2).mono ?_
               rintro e W3 ⟨tq3, tk3, ws3, rfl, own3, hf3, e3⟩
               rw [HB0.out] at own3 ⊢
               have eS3 := e3
               have XE3 := XE2.trans e3
               have hz3 := e3.size
               have CH3 := CH2.trans (Chg.of_ext e3)
               have b10_3 := b10_2.ext e3
               have b11_3 := b11_2.ext e3
               have b12_3 := b12_2.ext e3
               have b13_3 := b13_2.ext e3
               have b14_3 := b14_2.ext e3
               have b15_3 := b15_2.ext e3
               obtain ⟨W4, hW4⟩ : ∃ W, W = W3.alloc (.cells #[.int .i64 rg, .int .i64 cg', .slice tq3 Ng tk3] 37) := ⟨_, rfl⟩
               have e4 : Ext W3 W4 := by rw [hW4]; exact Ext.alloc _ _
               have b16_4 : HB W4 W3.heap.size #[.int .i64 rg, .int .i64 cg', .slice tq3 Ng tk3] 37 := by rw [hW4]; exact HB.new _ _ _
               go_wp2_with (first | fail)
               rw [← hW4]
               clear hW4
               have eS4 := e4
               have XE4 := XE3.trans e4
               have hz4 := e4.size
               have CH4 := CH3.trans (Chg.of_ext e4)
               have b10_4 := b10_3.ext e4
               have b11_4 := b11_3.ext e4
               have b12_4 := b12_3.ext e4
               have b13_4 := b13_3.ext e4
               have b14_4 := b14_3.ext e4
               have b15_4 := b15_3.ext e4
               have own3n := own_ext own3 e4
               have eD5 := Ext.drew W4
               have r1 := (b11_4.ext eD5).cell 1 rfl
               have KS := hid (fun V (h : Ext W4 V) => l02SumRows_any (sp := none) W3.heap.size 0 cg' tq3 Ng tk3 ws3 (mulX Ng gs xs) V ((b16_4.ext h).cell 1 rfl) ((b16_4.ext h).cell 2 rfl) HB0.out (by omega) k3 (by omega) ((own_Cs own3n).ext h) hf3)
               obtain ⟨F, hF⟩ : ∃ F : Option Tmp → World → Value → Prop, F = fun _ w' u => IsFl W4.heap.size (sumRX cg' (mulX Ng gs xs)) w' u := ⟨_, rfl⟩
               have HF := hid hF
               clear hF
               refine wp_region_xt 4 (F := F) (by kernel_rfl) (by kernel_rfl) (by kernel_rfl) (by kernel_rfl) (by kernel_rfl) ?_
               intro wf hwf
               simp only [List.take_succ_cons, List.take_zero, List.drop_succ_cons, List.drop_zero]
               repeat (first
                | (refine x_skip rfl ?_; simp only [Act.put, ev_tmp, pu1, pu2, pu3, pu4, pu5])
                | (refine x_mv rfl rfl rfl ?_; simp only [Act.put, ev_tmp, pu1, pu2, pu3, pu4, pu5])
                | (refine x_as rfl rfl rfl ?_; simp only [Act.put, ev_tmp, pu1, pu2, pu3, pu4, pu5])
                | ((with_reducible show wpX _ _ _ _ _ _ (Oper.mk _ (Op.call _) _ _ _ _ :: _) _); refine x_callf (f := 101) (args := #[.pointer (some ⟨W3.heap.size, 0, none⟩)]) rfl rfl Tryz.func101 rfl (by kernel_rfl) ?_ ?_ ?_; (focus (simp [Act.eval]; done)); (focus (intro w1 hw1; exact (by rw [HF.out]; exact calls_fl (eD5.trans hw1) (KS.out w1 (eD5.trans hw1))))); rintro u w3 e3 e4 hu; simp only [HF.out] at hu; obtain ⟨tq5, tk5, ws5, rfl, ho5, hf5⟩ := hu; rw [HB1.out] at ho5 ⊢; have own5 := own_ext ho5 e4; have hf5 := hf5; clear ho5 hf5; simp only [Act.put, ev_tmp, pu1, pu2, pu3, pu4, pu5])
                | (refine x_run rfl fun K hK w1 hw1 => ?_; have k0 := hw1.cell (r1); go_simp; refine hK _ ?_; clear hK K k0 hw1 w1))
               refine x_nil ?_
               have e5 := eD5.trans hwf
               obtain ⟨W5, hWf⟩ : ∃ W, W = wf := ⟨_, rfl⟩
               rw [← hWf] at e5 own5 ⊢
               clear hWf hwf r1
               have eS5 := e5
               have XE5 := XE4.trans e5
               have hz5 := e5.size
               have CH5 := CH4.trans (Chg.of_ext e5)
               have b10_5 := b10_4.ext e5
               have b11_5 := b11_4.ext e5
               have b12_5 := b12_4.ext e5
               have b13_5 := b13_4.ext e5
               have b14_5 := b14_4.ext e5
               have b15_5 := b15_4.ext e5
               go_wp2_with (first | ((with_reducible show wpList _ _ _ (Oper.mk _ (Op.store _ _ _) _ _ _ _ :: _) _ _); refine wl_st3 (y0 := .int .i64 1) (y1 := .int .i64 cg') (y2 := .slice tq5 cg' tk5) rfl rfl rfl rfl b15_5 rfl rfl rfl ?_; intro W6 b15_6 ch6; have XE6 := XE5.chg ch6 (fun z hz => by have hz : z = _ := hz; omega); have hz6 := ch6.size; have CH6 := CH5.trans (ch6.mono (fun z hz => Or.inr hz)); have b10_6 := b10_5.chg ch6 (fun h => by have h : _ = _ := h; omega); have b11_6 := b11_5.chg ch6 (fun h => by have h : _ = _ := h; omega); have b12_6 := b12_5.chg ch6 (fun h => by have h : _ = _ := h; omega); have b13_6 := b13_5.chg ch6 (fun h => by have h : _ = _ := h; omega); have b14_6 := b14_5.chg ch6 (fun h => by have h : _ = _ := h; omega)) | fail)
               have CQ1 := (((((ch2.mono (fun z hz => Or.inl hz) : Chg (fun z => z = (wr.heap.size + 1 + 1 + 1 + 1) ∨ z = (wr.heap.size + 1 + 1 + 1 + 1 + 1)) _ _).trans (Chg.of_ext (eS3) : Chg (fun z => z = (wr.heap.size + 1 + 1 + 1 + 1) ∨ z = (wr.heap.size + 1 + 1 + 1 + 1 + 1)) _ _)).trans (Chg.of_ext (eS4) : Chg (fun z => z = (wr.heap.size + 1 + 1 + 1 + 1) ∨ z = (wr.heap.size + 1 + 1 + 1 + 1 + 1)) _ _)).trans (Chg.of_ext (eS5) : Chg (fun z => z = (wr.heap.size + 1 + 1 + 1 + 1) ∨ z = (wr.heap.size + 1 + 1 + 1 + 1 + 1)) _ _)).trans (ch6.mono (fun z hz => Or.inr hz) : Chg (fun z => z = (wr.heap.size + 1 + 1 + 1 + 1) ∨ z = (wr.heap.size + 1 + 1 + 1 + 1 + 1)) _ _))
               have CQ5 := (ch6.mono (fun z hz => Or.inr hz) : Chg (fun z => z = (wr.heap.size + 1 + 1 + 1 + 1) ∨ z = (wr.heap.size + 1 + 1 + 1 + 1 + 1)) _ _)
               obtain ⟨o1a, o1b, o1c⟩ := own_mk (r := (rg : Int)) (c := (cg' : Int)) HA1.out own1 hf1
               have on1 := o1a.chg CQ1 (fun z hz h => by have h1 := o1c z hz; rcases h with h | h <;> omega)
               have T1 := tenAtB_of on1 (by rw [← HVA.out]; exact hPA.out)
               rw [← HVA.out] at T1
               obtain ⟨o5a, o5b, o5c⟩ := own_mk (r := (1 : Int)) (c := (cg' : Int)) HB1.out own5 hf5
               have on5 := o5a.chg CQ5 (fun z hz h => by have h1 := o5c z hz; rcases h with h | h <;> omega)
               have T5 := tenAtB_of on5 (by rw [← HVB.out]; exact hPB.out rfl)
               rw [← HVB.out] at T5
               refine cut_end ?_ ?_
               · kernel_rfl
               · exact ⟨XE6, b10_6, ⟨_, _, _, _, b14_6, T1, (fun z hz => hfr.out z (by have := o1c z hz; omega))⟩, ⟨_, _, _, _, b15_6, fun _ => ⟨T5, (fun z hz => hfr.out z (by have := o5c z hz; omega))⟩⟩⟩
             | scl a' z _ h2 =>
               as_aux_lemma =>
               obtain rfl : kN = 5 := by have h : ((5 : Nat) : Int) = kN := ek; omega
               have ea' : a' = a := by have h : ((a' : Nat) : Int) = a := ea; omega
               rw [ea'] at h2
               clear ek ea eb
               have hdz : (mkOp 5 a' 0 z t0).2.2.2.1 = z := rfl
               rw [hdz] at hPA HZb ⊢
               clear hdz
               generalize hsj : sh j = sj at *
               generalize hsa : sh a = sa at *
               generalize hsb : sh b = sb at *
               obtain ⟨rg, cg'⟩ := sj
               obtain ⟨ra, ca'⟩ := sa
               obtain ⟨rb, cb'⟩ := sb
               obtain ⟨i1, i2, i3, i4⟩ := hs1
               obtain ⟨j1, j2, j3, j4⟩ := hs2
               obtain ⟨k1, k2, k3, k4⟩ := hs0
               dsimp only at *
               generalize hNg : rg * cg' = Ng at *
               generalize hNa : ra * ca' = Na at *
               generalize hNb : rb * cb' = Nb at *
               have hNg2 : Ng ≤ 256 := by rw [← hNg]; exact Nat.mul_le_mul k2 k4
               have hNa2 : Na ≤ 256 := by rw [← hNa]; exact Nat.mul_le_mul i2 i4
               have hNb2 : Nb ≤ 256 := by rw [← hNb]; exact Nat.mul_le_mul j2 j4
               have HA1 : Hid ((sclX Ng gs z).length = Ng) := hid (ntab_len _ _)
               have HVA : Hid (partA 5 z (tn rg cg' gs) (tn ra ca' xs) (tn rb cb' ys) = ((rg : Int), (cg' : Int), sclX Ng gs z, ())) := hid (by simp only [partA, tMul, tAdd, tMM, tTurn]; simp only [tn, lg]; (try rfl))
               have m103 := b10_0.cell 3 rfl
               go_wp2_with (first | fail)
               refine (l02Scale_any (sp := none) (wr.heap.size + 1) 0 rg cg' qg Ng kg' ug gs zb z W0 (b11_0.cell 0 rfl) (b11_0.cell 1 rfl) (b11_0.cell 2 rfl) lg (by omega) (g1 W0 _ (fun z hz h => by have h1 := hfg.out z hz; rcases h with h | h <;> omega) CH0) g2 HZb.out).mono ?_
               rintro e W1 ⟨tq1, tk1, ws1, rfl, own1, hf1, e1⟩
               rw [HA1.out] at own1 ⊢
               have eS1 := e1
               have XE1 := XE0.trans e1
               have hz1 := e1.size
               have CH1 := CH0.trans (Chg.of_ext e1)
               have b10_1 := b10_0.ext e1
               have b11_1 := b11_0.ext e1
               have b12_1 := b12_0.ext e1
               have b13_1 := b13_0.ext e1
               have b14_1 := b14_0.ext e1
               have b15_1 := b15_0.ext e1
               go_wp2_with (first | ((with_reducible show wpList _ _ _ (Oper.mk _ (Op.store _ _ _) _ _ _ _ :: _) _ _); refine wl_st3 (y0 := .int .i64 rg) (y1 := .int .i64 cg') (y2 := .slice tq1 Ng tk1) rfl rfl rfl rfl b14_1 rfl rfl rfl ?_; intro W2 b14_2 ch2; have XE2 := XE1.chg ch2 (fun z hz => by have hz : z = _ := hz; omega); have hz2 := ch2.size; have CH2 := CH1.trans (ch2.mono (fun z hz => Or.inl hz)); have b10_2 := b10_1.chg ch2 (fun h => by have h : _ = _ := h; omega); have b11_2 := b11_1.chg ch2 (fun h => by have h : _ = _ := h; omega); have b12_2 := b12_1.chg ch2 (fun h => by have h : _ = _ := h; omega); have b13_2 := b13_1.chg ch2 (fun h => by have h : _ = _ := h; omega); have b15_2 := b15_1.chg ch2 (fun h => by have h : _ = _ := h; omega)) | fail)
               have CQ1 := (ch2.mono (fun z hz => Or.inl hz) : Chg (fun z => z = (wr.heap.size + 1 + 1 + 1 + 1) ∨ z = (wr.heap.size + 1 + 1 + 1 + 1 + 1)) _ _)
               obtain ⟨o1a, o1b, o1c⟩ := own_mk (r := (rg : Int)) (c := (cg' : Int)) HA1.out own1 hf1
               have on1 := o1a.chg CQ1 (fun z hz h => by have h1 := o1c z hz; rcases h with h | h <;> omega)
               have T1 := tenAtB_of on1 (by rw [← HVA.out]; exact hPA.out)
               rw [← HVA.out] at T1
               refine cut_end ?_ ?_
               · kernel_rfl
               · exact ⟨XE2, b10_2, ⟨_, _, _, _, b14_2, T1, (fun z hz => hfr.out z (by have := o1c z hz; omega))⟩, ⟨_, _, _, [], b15_2, fun h => absurd h (by decide)⟩⟩
             | turn a' _ h2 =>
               as_aux_lemma =>
               obtain rfl : kN = 7 := by have h : ((7 : Nat) : Int) = kN := ek; omega
               have ea' : a' = a := by have h : ((a' : Nat) : Int) = a := ea; omega
               rw [ea'] at h2
               clear ek ea eb
               have hdz : (mkOp 7 a' 0 0 t0).2.2.2.1 = 0 := rfl
               rw [hdz] at hPA HZb ⊢
               clear hdz
               generalize hsj : sh j = sj at *
               generalize hsa : sh a = sa at *
               generalize hsb : sh b = sb at *
               obtain ⟨rg, cg'⟩ := sj
               obtain ⟨ra, ca'⟩ := sa
               obtain ⟨rb, cb'⟩ := sb
               obtain ⟨i1, i2, i3, i4⟩ := hs1
               obtain ⟨j1, j2, j3, j4⟩ := hs2
               obtain ⟨k1, k2, k3, k4⟩ := hs0
               dsimp only at *
               generalize hNg : rg * cg' = Ng at *
               generalize hNa : ra * ca' = Na at *
               generalize hNb : rb * cb' = Nb at *
               have hNg2 : Ng ≤ 256 := by rw [← hNg]; exact Nat.mul_le_mul k2 k4
               have hNa2 : Na ≤ 256 := by rw [← hNa]; exact Nat.mul_le_mul i2 i4
               have hNb2 : Nb ≤ 256 := by rw [← hNb]; exact Nat.mul_le_mul j2 j4
               obtain ⟨M, hM⟩ : ∃ M, M = cg' * rg := ⟨_, rfl⟩
               have HA1 : Hid ((turnX rg cg' gs).length = M) := hid (by rw [hM]; exact ntab_len _ _)
               clear hM
               have HVA : Hid (partA 7 0 (tn rg cg' gs) (tn ra ca' xs) (tn rb cb' ys) = ((cg' : Int), (rg : Int), turnX rg cg' gs, ())) := hid (by simp only [partA, tMul, tAdd, tMM, tTurn]; simp only [tn, Int.toNat_natCast]; (try rfl))
               go_wp2_with (first | fail)
               refine (l02Turn_any (sp := none) (wr.heap.size + 1) 0 rg cg' qg Ng kg' ug gs W0 (b11_0.cell 0 rfl) (b11_0.cell 1 rfl) (b11_0.cell 2 rfl) lg hNg.symm (by omega) (by omega) (g1 W0 _ (fun z hz h => by have h1 := hfg.out z hz; rcases h with h | h <;> omega) CH0) g2).mono ?_
               rintro e W1 ⟨tq1, tk1, ws1, rfl, own1, hf1, e1⟩
               rw [HA1.out] at own1 ⊢
               have eS1 := e1
               have XE1 := XE0.trans e1
               have hz1 := e1.size
               have CH1 := CH0.trans (Chg.of_ext e1)
               have b10_1 := b10_0.ext e1
               have b11_1 := b11_0.ext e1
               have b12_1 := b12_0.ext e1
               have b13_1 := b13_0.ext e1
               have b14_1 := b14_0.ext e1
               have b15_1 := b15_0.ext e1
               go_wp2_with (first | ((with_reducible show wpList _ _ _ (Oper.mk _ (Op.store _ _ _) _ _ _ _ :: _) _ _); refine wl_st3 (y0 := .int .i64 cg') (y1 := .int .i64 rg) (y2 := .slice tq1 M tk1) rfl rfl rfl rfl b14_1 rfl rfl rfl ?_; intro W2 b14_2 ch2; have XE2 := XE1.chg ch2 (fun z hz => by have hz : z = _ := hz; omega); have hz2 := ch2.size; have CH2 := CH1.trans (ch2.mono (fun z hz => Or.inl hz)); have b10_2 := b10_1.chg ch2 (fun h => by have h : _ = _ := h; omega); have b11_2 := b11_1.chg ch2 (fun h => by have h : _ = _ := h; omega); have b12_2 := b12_1.chg ch2 (fun h => by have h : _ = _ := h; omega); have b13_2 := b13_1.chg ch2 (fun h => by have h : _ = _ := h; omega); have b15_2 := b15_1.chg ch2 (fun h => by have h : _ = _ := h; omega)) | fail)
               have CQ1 := (ch2.mono (fun z hz => Or.inl hz) : Chg (fun z => z = (wr.heap.size + 1 + 1 + 1 + 1) ∨ z = (wr.heap.size + 1 + 1 + 1 + 1 + 1)) _ _)
               obtain ⟨o1a, o1b, o1c⟩ := own_mk (r := (cg' : Int)) (c := (rg : Int)) HA1.out own1 hf1
               have on1 := o1a.chg CQ1 (fun z hz h => by have h1 := o1c z hz; rcases h with h | h <;> omega)
               have T1 := tenAtB_of on1 (by rw [← HVA.out]; exact hPA.out)
               rw [← HVA.out] at T1
               refine cut_end ?_ ?_
               · kernel_rfl
               · exact ⟨XE2, b10_2, ⟨_, _, _, _, b14_2, T1, (fun z hz => hfr.out z (by have := o1c z hz; omega))⟩, ⟨_, _, _, [], b15_2, fun h => absurd h (by decide)⟩⟩
             | sqr a' _ h2 =>
               as_aux_lemma =>
               obtain rfl : kN = 9 := by have h : ((9 : Nat) : Int) = kN := ek; omega
               have ea' : a' = a := by have h : ((a' : Nat) : Int) = a := ea; omega
               rw [ea'] at h2
               clear ek ea eb
               have hdz : (mkOp 9 a' 0 0 t0).2.2.2.1 = 0 := rfl
               rw [hdz] at hPA HZb ⊢
               clear hdz
               generalize hsj : sh j = sj at *
               generalize hsa : sh a = sa at *
               generalize hsb : sh b = sb at *
               obtain ⟨rg, cg'⟩ := sj
               obtain ⟨ra, ca'⟩ := sa
               obtain ⟨rb, cb'⟩ := sb
               obtain ⟨i1, i2, i3, i4⟩ := hs1
               obtain ⟨j1, j2, j3, j4⟩ := hs2
               obtain ⟨k1, k2, k3, k4⟩ := hs0
               dsimp only at *
               generalize hNg : rg * cg' = Ng at *
               generalize hNa : ra * ca' = Na at *
               generalize hNb : rb * cb' = Nb at *
               have hNg2 : Ng ≤ 256 := by rw [← hNg]; exact Nat.mul_le_mul k2 k4
               have hNa2 : Na ≤ 256 := by rw [← hNa]; exact Nat.mul_le_mul i2 i4
               have hNb2 : Nb ≤ 256 := by rw [← hNb]; exact Nat.mul_le_mul j2 j4
               have hgv : Ng ≤ Na := by rw [← hNg, ← hNa, show rg = ra from congrArg Prod.fst h2, show cg' = ca' from congrArg Prod.snd h2]; exact Nat.le_refl _
               have HB0 : Hid ((addX Na xs xs).length = Na) := hid (ntab_len _ _)
               have HA1 : Hid ((mulX Ng gs (addX Na xs xs)).length = Ng) := hid (ntab_len _ _)
               have HVA : Hid (partA 9 0 (tn rg cg' gs) (tn ra ca' xs) (tn rb cb' ys) = ((rg : Int), (cg' : Int), mulX Ng gs (addX Na xs xs), ())) := hid (by simp only [partA, tMul, tAdd, tMM, tTurn]; simp only [tn, lg, lv]; (try rfl))
               go_wp2_with (first | fail)
               refine (l02Add_any (sp := none) (sq := none) (wr.heap.size + 1 + 1) 0 ra ca' qv Na kv uv xs (wr.heap.size + 1 + 1) 0 qv Na kv uv xs W0 (b12_0.cell 0 rfl) (b12_0.cell 1 rfl) (b12_0.cell 2 rfl) lv (by omega) (v1.ext (he.trans XE0)) v2 (b12_0.cell 2 rfl) lv (Nat.le_refl _) (by omega) (v1.ext (he.trans XE0)) v2).mono ?_
               rintro e W1 ⟨tq1, tk1, ws1, rfl, own1, hf1, e1⟩
               rw [HB0.out] at own1 ⊢
               have eS1 := e1
               have XE1 := XE0.trans e1
               have hz1 := e1.size
               have CH1 := CH0.trans (Chg.of_ext e1)
               have b10_1 := b10_0.ext e1
               have b11_1 := b11_0.ext e1
               have b12_1 := b12_0.ext e1
               have b13_1 := b13_0.ext e1
               have b14_1 := b14_0.ext e1
               have b15_1 := b15_0.ext e1
               obtain ⟨W2, hW2⟩ : ∃ W, W = W1.alloc (.cells #[.int .i64 ra, .int .i64 ca', .slice tq1 Na tk1] 37) := ⟨_, rfl⟩
               have e2 : Ext W1 W2 := by rw [hW2]; exact Ext.alloc _ _
               have b16_2 : HB W2 W1.heap.size #[.int .i64 ra, .int .i64 ca', .slice tq1 Na tk1] 37 := by rw [hW2]; exact HB.new _ _ _
               go_wp2_with (first | fail)
               rw [← hW2]
               clear hW2
               have eS2 := e2
               have XE2 := XE1.trans e2
               have hz2 := e2.size
               have CH2 := CH1.trans (Chg.of_ext e2)
               have b10_2 := b10_1.ext e2
               have b11_2 := b11_1.ext e2
               have b12_2 := b12_1.ext e2
               have b13_2 := b13_1.ext e2
               have b14_2 := b14_1.ext e2
               have b15_2 := b15_1.ext e2
               have own1n := own_ext own1 eS2
               refine (l02Mul_any (sp := none) (sq := none) (wr.heap.size + 1) 0 rg cg' qg Ng kg' ug gs W1.heap.size 0 tq1 Na tk1 ws1 (addX Na xs xs) W2 (b11_2.cell 0 rfl) (b11_2.cell 1 rfl) (b11_2.cell 2 rfl) lg (by omega) (g1 W2 _ (fun z hz h => by have h1 := hfg.out z hz; rcases h with h | h <;> omega) CH2) g2 (b16_2.cell 2 rfl) HB0.out hgv (by omega) (own_Cs own1n) hf1).mono ?_
               rintro e W3 ⟨tq3, tk3, ws3, rfl, own3, hf3, e3⟩
               rw [HA1.out] at own3 ⊢
               have eS3 := e3
               have XE3 := XE2.trans e3
               have hz3 := e3.size
               have CH3 := CH2.trans (Chg.of_ext e3)
               have b10_3 := b10_2.ext e3
               have b11_3 := b11_2.ext e3
               have b12_3 := b12_2.ext e3
               have b13_3 := b13_2.ext e3
               have b14_3 := b14_2.ext e3
               have b15_3 := b15_2.ext e3
               go_wp2_with (first | ((with_reducible show wpList _ _ _ (Oper.mk _ (Op.store _ _ _) _ _ _ _ :: _) _ _); refine wl_st3 (y0 := .int .i64 rg) (y1 := .int .i64 cg') (y2 := .slice tq3 Ng tk3) rfl rfl rfl rfl b14_3 rfl rfl rfl ?_; intro W4 b14_4 ch4; have XE4 := XE3.chg ch4 (fun z hz => by have hz : z = _ := hz; omega); have hz4 := ch4.size; have CH4 := CH3.trans (ch4.mono (fun z hz => Or.inl hz)); have b10_4 := b10_3.chg ch4 (fun h => by have h : _ = _ := h; omega); have b11_4 := b11_3.chg ch4 (fun h => by have h : _ = _ := h; omega); have b12_4 := b12_3.chg ch4 (fun h => by have h : _ = _ := h; omega); have b13_4 := b13_3.chg ch4 (fun h => by have h : _ = _ := h; omega); have b15_4 := b15_3.chg ch4 (fun h => by have h : _ = _ := h; omega)) | fail)
               have CQ3 := (ch4.mono (fun z hz => Or.inl hz) : Chg (fun z => z = (wr.heap.size + 1 + 1 + 1 + 1) ∨ z = (wr.heap.size + 1 + 1 + 1 + 1 + 1)) _ _)
               obtain ⟨o3a, o3b, o3c⟩ := own_mk (r := (rg : Int)) (c := (cg' : Int)) HA1.out own3 hf3
               have on3 := o3a.chg CQ3 (fun z hz h => by have h1 := o3c z hz; rcases h with h | h <;> omega)
               have T3 := tenAtB_of on3 (by rw [← HVA.out]; exact hPA.out)
               rw [← HVA.out] at T3
               refine cut_end ?_ ?_
               · kernel_rfl
               · exact ⟨XE4, b10_4, ⟨_, _, _, _, b14_4, T3, (fun z hz => hfr.out z (by have := o3c z hz; omega))⟩, ⟨_, _, _, [], b15_4, fun h => absurd h (by decide)⟩⟩
             | mm a' b' _ _ h1 h2 =>
               as_aux_lemma =>
               obtain rfl : kN = 6 := by have h : ((6 : Nat) : Int) = kN := ek; omega
               have ea' : a' = a := by have h : ((a' : Nat) : Int) = a := ea; omega
               have eb' : b' = b := by have h : ((b' : Nat) : Int) = b := eb; omega
               rw [ea', eb'] at h1
               rw [ea', eb'] at h2
               clear ek ea eb
               have hdz : (mkOp 6 a' b' 0 t0).2.2.2.1 = 0 := rfl
               rw [hdz] at hPA HZb ⊢
               clear hdz
               generalize hsj : sh j = sj at *
               generalize hsa : sh a = sa at *
               generalize hsb : sh b = sb at *
               obtain ⟨rg, cg'⟩ := sj
               obtain ⟨ra, ca'⟩ := sa
               obtain ⟨rb, cb'⟩ := sb
               obtain ⟨i1, i2, i3, i4⟩ := hs1
               obtain ⟨j1, j2, j3, j4⟩ := hs2
               obtain ⟨k1, k2, k3, k4⟩ := hs0
               dsimp only at *
               generalize hNg : rg * cg' = Ng at *
               generalize hNa : ra * ca' = Na at *
               generalize hNb : rb * cb' = Nb at *
               have hNg2 : Ng ≤ 256 := by rw [← hNg]; exact Nat.mul_le_mul k2 k4
               have hNa2 : Na ≤ 256 := by rw [← hNa]; exact Nat.mul_le_mul i2 i4
               have hNb2 : Nb ≤ 256 := by rw [← hNb]; exact Nat.mul_le_mul j2 j4
               have hrg : rg = ra := congrArg Prod.fst h2
               have hcg : cg' = cb' := congrArg Prod.snd h2
               have hrb : rb = ca' := h1
               obtain ⟨Mb, hMb⟩ : ∃ M, M = cb' * rb := ⟨_, rfl⟩
               obtain ⟨Ma, hMa⟩ : ∃ M, M = ca' * ra := ⟨_, rfl⟩
               obtain ⟨P1, hP1⟩ : ∃ M, M = rg * rb := ⟨_, rfl⟩
               obtain ⟨P2, hP2⟩ : ∃ M, M = ca' * cg' := ⟨_, rfl⟩
               have hMb2 : Mb = cg' * rb := by rw [hMb, hcg]
               have hMa2 : Ma = ca' * ra := hMa
               have hNg2' : Ng = ra * cg' := by rw [← hNg, hrg]
               have HR0 : Hid ((turnX rb cb' ys).length = Mb) := hid (by rw [hMb]; exact ntab_len _ _)
               have HL0 : Hid ((turnX ra ca' xs).length = Ma) := hid (by rw [hMa]; exact ntab_len _ _)
               have HA1 : Hid ((mmX rg cg' rb gs (turnX rb cb' ys)).length = P1) := hid (by rw [hP1]; exact ntab_len _ _)
               have HB1 : Hid ((mmX ca' ra cg' (turnX ra ca' xs) gs).length = P2) := hid (by rw [hP2]; exact ntab_len _ _)
               have HVA : Hid (partA 6 0 (tn rg cg' gs) (tn ra ca' xs) (tn rb cb' ys) = ((rg : Int), (rb : Int), mmX rg cg' rb gs (turnX rb cb' ys), ())) := hid (by simp only [partA, tMul, tAdd, tMM, tTurn]; simp only [tn, Int.toNat_natCast]; (try rfl))
               have HVB : Hid (partB 6 (tn rg cg' gs) (tn ra ca' xs) (tn rb cb' ys) = ((ca' : Int), (cg' : Int), mmX ca' ra cg' (turnX ra ca' xs) gs, ())) := hid (by simp only [partB, tMul, tAdd, tMM, tTurn]; simp only [tn, Int.toNat_natCast]; (try rfl))
               have HMb2 := hid hMb2; have HMa2 := hid hMa2; have HNg2' := hid hNg2'; have HNg := hid hNg.symm; have HNa := hid hNa.symm; have HNb := hid hNb.symm
               clear hMb hMa hP1 hP2 hrg hcg hrb hMb2 hMa2 hNg2' hNg hNa hNb h1 h2
               go_wp2_with (first | fail)
               refine (l02Turn_any (sp := none) (wr.heap.size + 1 + 1 + 1) 0 rb cb' qw Nb kw uw ys W0 (b13_0.cell 0 rfl) (b13_0.cell 1 rfl) (b13_0.cell 2 rfl) lw HNb.out (by omega) (by omega) (w1'.ext (he.trans XE0)) w2').mono ?_
               rintro e W1 ⟨tq1, tk1, ws1, rfl, own1, hf1, e1⟩
               rw [HR0.out] at own1 ⊢
               have eS1 := e1
               have XE1 := XE0.trans e1
               have hz1 := e1.size
               have CH1 := CH0.trans (Chg.of_ext e1)
               have b10_1 := b10_0.ext e1
               have b11_1 := b11_0.ext e1
               have b12_1 := b12_0.ext e1
               have b13_1 := b13_0.ext e1
               have b14_1 := b14_0.ext e1
               have b15_1 := b15_0.ext e1
               obtain ⟨W2, hW2⟩ : ∃ W, W = W1.alloc (.cells #[.int .i64 cb', .int .i64 rb, .slice tq1 Mb tk1] 37) := ⟨_, rfl⟩
               have e2 : Ext W1 W2 := by rw [hW2]; exact Ext.alloc _ _
               have b16_2 : HB W2 W1.heap.size #[.int .i64 cb', .int .i64 rb, .slice tq1 Mb tk1] 37 := by rw [hW2]; exact HB.new _ _ _
               go_wp2_with (first | fail)
               rw [← hW2]
               clear hW2
               have eS2 := e2
               have XE2 := XE1.trans e2
               have hz2 := e2.size
               have CH2 := CH1.trans (Chg.of_ext e2)
               have b10_2 := b10_1.ext e2
               have b11_2 := b11_1.ext e2
               have b12_2 := b12_1.ext e2
               have b13_2 := b13_1.ext e2
               have b14_2 := b14_1.ext e2
               have b15_2 := b15_1.ext e2
               refine (l02Turn_any (sp := none) (wr.heap.size + 1 + 1) 0 ra ca' qv Na kv uv xs W2 (b12_2.cell 0 rfl) (b12_2.cell 1 rfl) (b12_2.cell 2 rfl) lv HNa.out (by omega) (by omega) (v1.ext (he.trans XE2)) v2).mono ?_
               rintro e W3 ⟨tq3, tk3, ws3, rfl, own3, hf3, e3⟩
               rw [HL0.out] at own3 ⊢
               have eS3 := e3
               have XE3 := XE2.trans e3
               have hz3 := e3.size
               have CH3 := CH2.trans (Chg.of_ext e3)
               have b10_3 := b10_2.ext e3
               have b11_3 := b11_2.ext e3
               have b12_3 := b12_2.ext e3
               have b13_3 := b13_2.ext e3
               have b14_3 := b14_2.ext e3
               have b15_3 := b15_2.ext e3
               have b16_3 := b16_2.ext e3
               obtain ⟨W4, hW4⟩ : ∃ W, W = W3.alloc (.cells #[.int .i64 ca', .int .i64 ra, .slice tq3 Ma tk3] 37) := ⟨_, rfl⟩
               have e4 : Ext W3 W4 := by rw [hW4]; exact Ext.alloc _ _
               have b17_4 : HB W4 W3.heap.size #[.int .i64 ca', .int .i64 ra, .slice tq3 Ma tk3] 37 := by rw [hW4]; exact HB.new _ _ _
               go_wp2_with (first | fail)
               rw [← hW4]
               clear hW4
               have eS4 := e4
               have XE4 := XE3.trans e4
               have hz4 := e4.size
               have CH4 := CH3.trans (Chg.of_ext e4)
               have b10_4 := b10_3.ext e4
               have b11_4 := b11_3.ext e4
               have b12_4 := b12_3.ext e4
               have b13_4 := b13_3.ext e4
               have b14_4 := b14_3.ext e4
               have b15_4 := b15_3.ext e4
               have b16_4 := b16_3.ext e4
               have own1n := own_ext own1 (eS2.trans (eS3.trans eS4))
               have own3n := own_ext own3 eS4
               refine (l02MatMul_any (sp := none) (sq := none) (wr.heap.size + 1) 0 W1.heap.size 0 rg cg' rb qg tq1 Ng kg' Mb tk1 ug ws1 gs (turnX rb cb' ys) W4 (b11_4.cell 0 rfl) (b11_4.cell 1 rfl) (b11_4.cell 2 rfl) (b16_4.cell 1 rfl) (b16_4.cell 2 rfl) lg HNg.out HR0.out HMb2.out (by omega) (by omega) (by omega) (g1 W4 _ (fun z hz h => by have h1 := hfg.out z hz; rcases h with h | h <;> omega) CH4) g2 (own_Cs own1n) hf1).mono ?_
               rintro e W5 ⟨tq5, tk5, ws5, rfl, own5, hf5, e5⟩
               rw [HA1.out] at own5 ⊢
               have eS5 := e5
               have XE5 := XE4.trans e5
               have hz5 := e5.size
               have CH5 := CH4.trans (Chg.of_ext e5)
               have b10_5 := b10_4.ext e5
               have b11_5 := b11_4.ext e5
               have b12_5 := b12_4.ext e5
               have b13_5 := b13_4.ext e5
               have b14_5 := b14_4.ext e5
               have b15_5 := b15_4.ext e5
               have b16_5 := b16_4.ext e5
               have b17_5 := b17_4.ext e5
               go_wp2_with (first | ((with_reducible show wpList _ _ _ (Oper.mk _ (Op.store _ _ _) _ _ _ _ :: _) _ _); refine wl_st3 (y0 := .int .i64 rg) (y1 := .int .i64 rb) (y2 := .slice tq5 P1 tk5) rfl rfl rfl rfl b14_5 rfl rfl rfl ?_; intro W6 b14_6 ch6; have XE6 := XE5.chg ch6 (fun z hz => by have hz : z = _ := hz; omega); have hz6 := ch6.size; have CH6 := CH5.trans (ch6.mono (fun z hz => Or.inl hz)); have b10_6 := b10_5.chg ch6 (fun h => by have h : _ = _ := h; omega); have b11_6 := b11_5.chg ch6 (fun h => by have h : _ = _ := h; omega); have b12_6 := b12_5.chg ch6 (fun h => by have h : _ = _ := h; omega); have b13_6 := b13_5.chg ch6 (fun h => by have h : _ = _ := h; omega); have b15_6 := b15_5.chg ch6 (fun h => by have h : _ = _ := h; omega); have b16_6 := b16_5.chg ch6 (fun h => by have h : _ = _ := h; omega); have b17_6 := b17_5.chg ch6 (fun h => by have h : _ = _ := h; omega)) | fail)
               have own3m := own_chgB (own_ext own3n eS5) ch6 (fun z hz => by have hz : z = _ := hz; omega)
               refine (l02MatMul_any (sp := none) (sq := none) W3.heap.size 0 (wr.heap.size + 1) 0 ca' ra cg' tq3 qg Ma tk3 Ng kg' ws3 ug (turnX ra ca' xs) gs W6 (b17_6.cell 0 rfl) (b17_6.cell 1 rfl) (b17_6.cell 2 rfl) (b11_6.cell 1 rfl) (b11_6.cell 2 rfl) HL0.out HMa2.out lg HNg2'.out (by omega) (by omega) (by omega) (own_Cs own3m) hf3 (g1 W6 _ (fun z hz h => by have h1 := hfg.out z hz; rcases h with h | h <;> omega) CH6) g2).mono ?_
               rintro e W7 ⟨tq7, tk7, ws7, rfl, own7, hf7, e7⟩
               rw [HB1.out] at own7 ⊢
               have eS7 := e7
               have XE7 := XE6.trans e7
               have hz7 := e7.size
               have CH7 := CH6.trans (Chg.of_ext e7)
               have b10_7 := b10_6.ext e7
               have b11_7 := b11_6.ext e7
               have b12_7 := b12_6.ext e7
               have b13_7 := b13_6.ext e7
               have b14_7 := b14_6.ext e7
               have b15_7 := b15_6.ext e7
               have b16_7 := b16_6.ext e7
               have b17_7 := b17_6.ext e7
               go_wp2_with (first | ((with_reducible show wpList _ _ _ (Oper.mk _ (Op.store _ _ _) _ _ _ _ :: _) _ _); refine wl_st3 (y0 := .int .i64 ca') (y1 := .int .i64 cg') (y2 := .slice tq7 P2 tk7) rfl rfl rfl rfl b15_7 rfl rfl rfl ?_; intro W8 b15_8 ch8; have XE8 := XE7.chg ch8 (fun z hz => by have hz : z = _ := hz; omega); have hz8 := ch8.size; have CH8 := CH7.trans (ch8.mono (fun z hz => Or.inr hz)); have b10_8 := b10_7.chg ch8 (fun h => by have h : _ = _ := h; omega); have b11_8 := b11_7.chg ch8 (fun h => by have h : _ = _ := h; omega); have b12_8 := b12_7.chg ch8 (fun h => by have h : _ = _ := h; omega); have b13_8 := b13_7.chg ch8 (fun h => by have h : _ = _ := h; omega); have b14_8 := b14_7.chg ch8 (fun h => by have h : _ = _ := h; omega); have b16_8 := b16_7.chg ch8 (fun h => by have h : _ = _ := h; omega); have b17_8 := b17_7.chg ch8 (fun h => by have h : _ = _ := h; omega)) | fail)
               have CQ5 := (((ch6.mono (fun z hz => Or.inl hz) : Chg (fun z => z = (wr.heap.size + 1 + 1 + 1 + 1) ∨ z = (wr.heap.size + 1 + 1 + 1 + 1 + 1)) _ _).trans (Chg.of_ext (eS7) : Chg (fun z => z = (wr.heap.size + 1 + 1 + 1 + 1) ∨ z = (wr.heap.size + 1 + 1 + 1 + 1 + 1)) _ _)).trans (ch8.mono (fun z hz => Or.inr hz) : Chg (fun z => z = (wr.heap.size + 1 + 1 + 1 + 1) ∨ z = (wr.heap.size + 1 + 1 + 1 + 1 + 1)) _ _))
               have CQ7 := (ch8.mono (fun z hz => Or.inr hz) : Chg (fun z => z = (wr.heap.size + 1 + 1 + 1 + 1) ∨ z = (wr.heap.size + 1 + 1 + 1 + 1 + 1)) _ _)
               obtain ⟨o5a, o5b, o5c⟩ := own_mk (r := (rg : Int)) (c := (rb : Int)) HA1.out own5 hf5
               have on5 := o5a.chg CQ5 (fun z hz h => by have h1 := o5c z hz; rcases h with h | h <;> omega)
               have T5 := tenAtB_of on5 (by rw [← HVA.out]; exact hPA.out)
               rw [← HVA.out] at T5
               obtain ⟨o7a, o7b, o7c⟩ := own_mk (r := (ca' : Int)) (c := (cg' : Int)) HB1.out own7 hf7
               have on7 := o7a.chg CQ7 (fun z hz h => by have h1 := o7c z hz; rcases h with h | h <;> omega)
               have T7 := tenAtB_of on7 (by rw [← HVB.out]; exact hPB.out rfl)
               rw [← HVB.out] at T7
               refine cut_end ?_ ?_
               · kernel_rfl
               · exact ⟨XE8, b10_8, ⟨_, _, _, _, b14_8, T5, (fun z hz => hfr.out z (by have := o5c z hz; omega))⟩, ⟨_, _, _, _, b15_8, fun _ => ⟨T7, (fun z hz => hfr.out z (by have := o7c z hz; omega))⟩⟩⟩
             | sum a' _ h2 =>
               as_aux_lemma =>
               obtain rfl : kN = 10 := by have h : ((10 : Nat) : Int) = kN := ek; omega
               have ea' : a' = a := by have h : ((a' : Nat) : Int) = a := ea; omega
               clear ek ea eb
               have hdz : (mkOp 10 a' 0 0 t0).2.2.2.1 = 0 := rfl
               rw [hdz] at hPA HZb ⊢
               clear hdz
               generalize hsj : sh j = sj at *
               generalize hsa : sh a = sa at *
               generalize hsb : sh b = sb at *
               obtain ⟨rg, cg'⟩ := sj
               obtain ⟨ra, ca'⟩ := sa
               obtain ⟨rb, cb'⟩ := sb
               obtain ⟨i1, i2, i3, i4⟩ := hs1
               obtain ⟨j1, j2, j3, j4⟩ := hs2
               obtain ⟨k1, k2, k3, k4⟩ := hs0
               dsimp only at *
               generalize hNg : rg * cg' = Ng at *
               generalize hNa : ra * ca' = Na at *
               generalize hNb : rb * cb' = Nb at *
               have hNg2 : Ng ≤ 256 := by rw [← hNg]; exact Nat.mul_le_mul k2 k4
               have hNa2 : Na ≤ 256 := by rw [← hNa]; exact Nat.mul_le_mul i2 i4
               have hNb2 : Nb ≤ 256 := by rw [← hNb]; exact Nat.mul_le_mul j2 j4
               have hg1 : 1 ≤ Ng := by rw [← hNg]; exact Nat.mul_le_mul k1 k3
               have HVA0 : Hid (partA 10 0 (tn rg cg' gs) (tn ra ca' xs) (tn rb cb' ys) = ((ra : Int), (ca' : Int), List.replicate Na (gs.getD 0 0), ())) := hid (by simp only [partA, tFill]; simp only [tn, Int.toNat_natCast, hNa])
               have eD1 := Ext.drew W0
               have r1 := (b12_0.ext eD1).cell 0 rfl; have r2 := (b12_0.ext eD1).cell 1 rfl; have r3 := (b11_0.ext eD1).cell 2 rfl
               have hg0 := Cs.ext (w' := W0.drew) (g1 W0 _ (fun z hz h => by have h1 := hfg.out z hz; rcases h with h | h <;> omega) CH0) eD1
               have HLg := hid lg
               obtain ⟨X, hX⟩ : ∃ X, X = List.replicate Na (gs.getD 0 0) := ⟨_, rfl⟩
               have HA1 : Hid (X.length = Na) := hid (by rw [hX]; simp)
               have HX := hid hX
               have KS := hid (fun V (zb : Nat) (hz : cn .f32 zb = gs.getD 0 0) => (show Calls Tryz.prog 99 #[.int .i64 (ra : Int), .int .i64 (ca' : Int), .float .f32 zb] V (RetTen V ra ca' X) by have h := l02Filled_any ra ca' zb (gs.getD 0 0) V hz (by omega); rw [hNa, ← hX] at h; exact h))
               obtain ⟨F, hF⟩ : ∃ F : Option Tmp → World → Value → Prop, F = fun _ w' u => IsTn W0.heap.size ra ca' X w' u := ⟨_, rfl⟩
               have HF := hid hF
               clear hF hX lg
               go_wp2_with fail
               refine wp_region_xt 9 (F := F) (by kernel_rfl) (by kernel_rfl) (by kernel_rfl) (by kernel_rfl) (by kernel_rfl) ?_
               intro wf hwf
               simp only [List.take_succ_cons, List.take_zero, List.drop_succ_cons, List.drop_zero]
               repeat (first
                | (refine x_skip rfl ?_; simp only [Act.put, ev_tmp, pu1, pu2, pu3, pu4, pu5])
                | (refine x_mv rfl rfl rfl ?_; simp only [Act.put, ev_tmp, pu1, pu2, pu3, pu4, pu5])
                | (refine x_as rfl rfl rfl ?_; simp only [Act.put, ev_tmp, pu1, pu2, pu3, pu4, pu5])
                | ((with_reducible show wpX _ _ _ _ _ _ (Oper.mk _ (Op.indexAddr _ _ _) _ _ _ _ :: Oper.mk _ (Op.load _ _) _ _ _ _ :: _) _); refine x_ldF rfl rfl (fun _ => rfl) rfl (fun _ => rfl) rfl rfl hg0 g2 HLg.out (by omega) (by omega) ?_; intro zq hzq; have HZq := hid hzq; clear hzq; simp only [Act.put, ev_tmp, pu1, pu2, pu3, pu4, pu5])
                | ((with_reducible show wpX _ _ _ _ _ _ (Oper.mk _ (Op.call _) _ _ _ _ :: _) _); refine x_callf (f := 99) (args := #[.int .i64 ra, .int .i64 ca', .float .f32 zq]) rfl rfl Tryz.func99 rfl (by kernel_rfl) ?_ ?_ ?_; (focus (simp [Act.eval]; done)); (focus (intro w1 hw1; exact (by rw [HF.out]; exact calls_tn (eD1.trans hw1) (KS.out w1 zq HZq.out)))); rintro u w3 e3 e4 hu; simp only [HF.out] at hu; obtain ⟨tq1, tk1, ws1, rfl, ho5, hf5⟩ := hu; rw [HA1.out] at ho5 ⊢; have own1 := own_ext ho5 e4; have hf1 := hf5; clear ho5 hf5; simp only [Act.put, ev_tmp, pu1, pu2, pu3, pu4, pu5])
                | (refine x_run rfl fun K hK w1 hw1 => ?_; have k0 := hw1.cell (r1); have k1 := hw1.cell (r2); have k2 := hw1.cell (r3); go_simp; refine hK _ ?_; clear hK K k0 k1 k2 hw1 w1))
               refine x_nil ?_
               have e1 := eD1.trans hwf
               obtain ⟨W1, hWf⟩ : ∃ W, W = wf := ⟨_, rfl⟩
               rw [← hWf] at e1 own1 ⊢
               clear hWf hwf r1 r2 r3
               have eS1 := e1
               have XE1 := XE0.trans e1
               have hz1 := e1.size
               have CH1 := CH0.trans (Chg.of_ext e1)
               have b10_1 := b10_0.ext e1
               have b11_1 := b11_0.ext e1
               have b12_1 := b12_0.ext e1
               have b13_1 := b13_0.ext e1
               have b14_1 := b14_0.ext e1
               have b15_1 := b15_0.ext e1
               go_wp2_with (first | ((with_reducible show wpList _ _ _ (Oper.mk _ (Op.store _ _ _) _ _ _ _ :: _) _ _); refine wl_st3 (y0 := .int .i64 ra) (y1 := .int .i64 ca') (y2 := .slice tq1 Na tk1) rfl rfl rfl rfl b14_1 rfl rfl rfl ?_; intro W2 b14_2 ch2; have XE2 := XE1.chg ch2 (fun z hz => by have hz : z = _ := hz; omega); have hz2 := ch2.size; have CH2 := CH1.trans (ch2.mono (fun z hz => Or.inl hz)); have b10_2 := b10_1.chg ch2 (fun h => by have h : _ = _ := h; omega); have b11_2 := b11_1.chg ch2 (fun h => by have h : _ = _ := h; omega); have b12_2 := b12_1.chg ch2 (fun h => by have h : _ = _ := h; omega); have b13_2 := b13_1.chg ch2 (fun h => by have h : _ = _ := h; omega); have b15_2 := b15_1.chg ch2 (fun h => by have h : _ = _ := h; omega)) | fail)
               have CQ1 := (ch2.mono (fun z hz => Or.inl hz) : Chg (fun z => z = (wr.heap.size + 1 + 1 + 1 + 1) ∨ z = (wr.heap.size + 1 + 1 + 1 + 1 + 1)) _ _)
               have HVA : Hid (partA 10 0 (tn rg cg' gs) (tn ra ca' xs) (tn rb cb' ys) = ((ra : Int), (ca' : Int), X, ())) := hid (by rw [HX.out]; exact HVA0.out)
               obtain ⟨o1a, o1b, o1c⟩ := own_mk (r := (ra : Int)) (c := (ca' : Int)) HA1.out own1 hf1
               have on1 := o1a.chg CQ1 (fun z hz h => by have h1 := o1c z hz; rcases h with h | h <;> omega)
               have T1 := tenAtB_of on1 (by rw [← HVA.out]; exact hPA.out)
               rw [← HVA.out] at T1
               refine cut_end ?_ ?_
               · kernel_rfl
               · exact ⟨XE2, b10_2, ⟨_, _, _, _, b14_2, T1, (fun z hz => hfr.out z (by have := o1c z hz; omega))⟩, ⟨_, _, _, [], b15_2, fun h => absurd h (by decide)⟩⟩
             | relu a' _ h2 =>
               as_aux_lemma =>
               obtain rfl : kN = 8 := by have h : ((8 : Nat) : Int) = kN := ek; omega
               have ea' : a' = a := by have h : ((a' : Nat) : Int) = a := ea; omega
               rw [ea'] at h2
               clear ek ea eb
               have hdz : (mkOp 8 a' 0 0 t0).2.2.2.1 = 0 := rfl
               rw [hdz] at hPA HZb ⊢
               clear hdz
               generalize hsj : sh j = sj at *
               generalize hsa : sh a = sa at *
               generalize hsb : sh b = sb at *
               obtain ⟨rg, cg'⟩ := sj
               obtain ⟨ra, ca'⟩ := sa
               obtain ⟨rb, cb'⟩ := sb
               obtain ⟨i1, i2, i3, i4⟩ := hs1
               obtain ⟨j1, j2, j3, j4⟩ := hs2
               obtain ⟨k1, k2, k3, k4⟩ := hs0
               dsimp only at *
               generalize hNg : rg * cg' = Ng at *
               generalize hNa : ra * ca' = Na at *
               generalize hNb : rb * cb' = Nb at *
               have hNg2 : Ng ≤ 256 := by rw [← hNg]; exact Nat.mul_le_mul k2 k4
               have hNa2 : Na ≤ 256 := by rw [← hNa]; exact Nat.mul_le_mul i2 i4
               have hNb2 : Nb ≤ 256 := by rw [← hNb]; exact Nat.mul_le_mul j2 j4
               have hgv : Ng ≤ Na := by rw [← hNg, ← hNa, show rg = ra from congrArg Prod.fst h2, show cg' = ca' from congrArg Prod.snd h2]; exact Nat.le_refl _
               have hgv2 : Hid (Na = Ng) := hid (by rw [← hNg, ← hNa, show rg = ra from congrArg Prod.fst h2, show cg' = ca' from congrArg Prod.snd h2])
               obtain ⟨X, hX⟩ : ∃ X, X = List.replicate Na 0 := ⟨_, rfl⟩
               have HA1 : Hid (X.length = Na) := hid (by rw [hX]; simp)
               have HZ0 := hid hX
               have KF : Hid (Calls Tryz.prog 99 #[.int .i64 (ra : Int), .int .i64 (ca' : Int), .float .f32 0] W0 (RetTen W0 ra ca' X)) := hid (by have h := l02Filled_any ra ca' 0 0 W0 cn0 (by omega); rw [hNa, ← hX] at h; exact h)
               have HVA : Hid (partA 8 0 (tn rg cg' gs) (tn ra ca' xs) (tn rb cb' ys) = ((ra : Int), (ca' : Int), rlT Na xs gs Na, ())) := hid (by rw [rlT_done]; simp only [partA]; simp only [tn, lv])
               clear hX
               have m120 := b12_0.cell 0 rfl; have m121 := b12_0.cell 1 rfl
               go_wp2_with (first | fail)
               refine (KF.out).mono ?_
               rintro e W1 ⟨tq1, tk1, ws1, rfl, own1, hf1, e1⟩
               rw [HA1.out] at own1 ⊢
               have eS1 := e1
               have XE1 := XE0.trans e1
               have hz1 := e1.size
               have CH1 := CH0.trans (Chg.of_ext e1)
               have b10_1 := b10_0.ext e1
               have b11_1 := b11_0.ext e1
               have b12_1 := b12_0.ext e1
               have b13_1 := b13_0.ext e1
               have b14_1 := b14_0.ext e1
               have b15_1 := b15_0.ext e1
               go_wp2_with (first | ((with_reducible show wpList _ _ _ (Oper.mk _ (Op.store _ _ _) _ _ _ _ :: _) _ _); refine wl_st3 (y0 := .int .i64 ra) (y1 := .int .i64 ca') (y2 := .slice tq1 Na tk1) rfl rfl rfl rfl b14_1 rfl rfl rfl ?_; intro W2 b14_2 ch2; have XE2 := XE1.chg ch2 (fun z hz => by have hz : z = _ := hz; omega); have hz2 := ch2.size; have CH2 := CH1.trans (ch2.mono (fun z hz => Or.inl hz)); have b10_2 := b10_1.chg ch2 (fun h => by have h : _ = _ := h; omega); have b11_2 := b11_1.chg ch2 (fun h => by have h : _ = _ := h; omega); have b12_2 := b12_1.chg ch2 (fun h => by have h : _ = _ := h; omega); have b13_2 := b13_1.chg ch2 (fun h => by have h : _ = _ := h; omega); have b15_2 := b15_1.chg ch2 (fun h => by have h : _ = _ := h; omega)) | fail)
               have own2 := own_chgB own1 ch2 (fun z hz => by have hz : z = _ := hz; omega)
               have hf2 : F32s ws1 (rlT Na xs gs 0) := by rw [rlT_zero, ← HZ0.out]; exact hf1
               have HGL := hid lg; have HVL := hid lv
               clear HA1 own1 hf1 lg lv
               generalize hwA : wr = wA at *
               go_loopw [19] (fun iv Wr => ∃ (t : Nat) (vs : List Value), t ≤ Na ∧ iv = .int .i64 (t : Int) ∧ Wr.ownsRow W0.heap.size 48 1 (.slice tq1 Na tk1) Na vs ∧ Hid (F32s vs (rlT Na xs gs t)) ∧ Ext wA Wr ∧ W0.heap.size ≤ Wr.heap.size ∧ Chg (fun z => z = wA.heap.size + 1 + 1 + 1 + 1 ∨ z = wA.heap.size + 1 + 1 + 1 + 1 + 1) wA Wr ∧ HB Wr wA.heap.size #[.int .i64 8, .int .i64 a, .int .i64 b, .float .f32 zb, .int .i64 orr, .int .i64 orc, .slice oq om occ] 79 ∧ HB Wr (wA.heap.size + 1) #[.int .i64 rg, .int .i64 cg', .slice qg Ng kg'] 37 ∧ HB Wr (wA.heap.size + 1 + 1) #[.int .i64 ra, .int .i64 ca', .slice qv Na kv] 37 ∧ HB Wr (wA.heap.size + 1 + 1 + 1 + 1) #[.int .i64 ra, .int .i64 ca', .slice tq1 Na tk1] 37 ∧ HB Wr (wA.heap.size + 1 + 1 + 1 + 1 + 1) #[.int .i64 0, .int .i64 0, .slice none 0 0] 37) (fun iv _ => Na - (intOf iv).toNat)
               case atStart => exact ⟨0, ws1, by omega, rfl, own2, hid hf2, XE2, by omega, CH2, b10_2, b11_2, b12_2, b14_2, b15_2⟩
               case round =>
                clear own2 hf2 XE2 CH2 b10_2 b11_2 b12_2 b13_2 b14_2 b15_2 XE1 CH1 b10_1 b11_1 b12_1 b13_1 b14_1 b15_1 XE0 CH0 b10_0 b11_0 b12_0 b13_0 b14_0 b15_0 m120 m121 ch2 e1 eS1
                obtain ⟨t, vs, ht, rfl, own, HFv, XE, hle, CH, c10, c11, c12, c14, c15⟩ := hrel
                have hsz := XE.size
                by_cases hlt : t < Na
                · have hvC := v1.ext (he.trans XE)
                  have hgC := g1 wr _ (fun z hz h => by have h1 := hfg.out z hz; rcases h with h | h <;> omega) CH
                  have y12 := c12.cell 2 rfl
                  obtain ⟨gq, hgq⟩ := own_some own (by omega)
                  have hps1 : tq1.isSome = true := by rw [hgq]; rfl
                  have Hgq := hid hgq
                  clear hgq
                  cases hc : fgt .f32 (xs.getD t 0) 0
                  · have Hc := hid hc
                    clear hc
                    go_wp2_with (first | ((with_reducible show wpList _ _ _ (Oper.mk _ (Op.indexAddr _ _ _) _ _ _ _ :: Oper.mk _ (Op.load _ _) _ _ _ _ :: _) _ _); refine wl_ldF rfl rfl rfl rfl (fun _ => rfl) rfl rfl hvC v2 HVL.out (by omega) (by omega) ?_; intro r1 gr1; have hq := gt_cn0 r1; rw [gr1, Int.toNat_natCast, Hc.out] at hq; clear gr1) | fail)
                    go_roundw
                    case rel => exact ⟨t + 1, vs, by omega, by go_num, own, hid (by rw [rlT_keep Hc.out]; exact HFv.out), XE, hle, CH, c10, c11, c12, c14, c15⟩
                    case measure => simp [intOf]; omega
                  · have Hc := hid hc
                    clear hc
                    go_wp2_with (first | ((with_reducible show wpList _ _ _ (Oper.mk _ (Op.indexAddr _ _ _) _ _ _ _ :: Oper.mk _ (Op.load _ _) _ _ _ _ :: _) _ _); refine wl_ldF rfl rfl rfl rfl (fun _ => rfl) rfl rfl hvC v2 HVL.out (by omega) (by omega) ?_; intro r1 gr1; have hq := gt_cn0 r1; rw [gr1, Int.toNat_natCast, Hc.out] at hq; clear gr1) | fail)
                    have eD := Ext.drew wr
                    have y14 := (c14.ext eD).cell 2 rfl
                    have y11 := (c11.ext eD).cell 2 rfl
                    have hgD := Cs.ext hgC eD
                    have htg : t < Ng := hgv2.out ▸ hlt
                    refine wp_region_xt 9 (F := fun _ _ _ => False) (by kernel_rfl) (by kernel_rfl) (by kernel_rfl) (by kernel_rfl) (by kernel_rfl) ?_
                    intro wf hwf
                    simp only [List.take_succ_cons, List.take_zero, List.drop_succ_cons, List.drop_zero]
                    repeat (first
                     | (refine x_skip rfl ?_; simp only [Act.put, ev_tmp, pu1, pu2, pu3, pu4, pu5])
                     | (refine x_mv rfl rfl rfl ?_; simp only [Act.put, ev_tmp, pu1, pu2, pu3, pu4, pu5])
                     | (refine x_as rfl rfl rfl ?_; simp only [Act.put, ev_tmp, pu1, pu2, pu3, pu4, pu5])
                     | ((with_reducible show wpX _ _ _ _ _ _ (Oper.mk _ (Op.indexAddr _ _ _) _ _ _ _ :: Oper.mk _ (Op.load _ _) _ _ _ _ :: _) _); refine x_ldF rfl rfl (fun _ => rfl) rfl (fun _ => rfl) rfl rfl hgD g2 HGL.out (by omega) (by omega) ?_; intro r2 gr2; have G2 := hid gr2; clear gr2; simp only [Act.put, ev_tmp, pu1, pu2, pu3, pu4, pu5])
                     | ((with_reducible show wpX _ _ _ _ _ _ (Oper.mk _ (Op.indexAddr _ _ _) _ _ _ _ :: _) _); refine x_idx (i := (t : Int)) rfl rfl rfl rfl hps1 (by omega) (by omega) ?_; simp only [Int.toNat_natCast, Nat.mul_one]; simp only [Act.put, ev_tmp, pu1, pu2, pu3, pu4, pu5])
                     | (refine x_run rfl fun K hK w1 hw1 => ?_; have k0 := hw1.cell (y14); have k1 := hw1.cell (y11); go_simp; refine hK _ ?_; clear hK K k0 k1 hw1 w1))
                    refine x_nil ?_
                    have e2 := eD.trans hwf
                    have own2 := own_ext own e2
                    have hs2 := e2.size
                    clear hq
                    go_wp2_with (first | ((with_reducible show wpList _ _ _ (Oper.mk _ (Op.store _ _ _) _ _ _ _ :: _) _ _); refine wl_stOwn (u := .float .f32 r2) (j := t) rfl rfl rfl rfl rfl own2 hlt ?_; intro w3 own3 gr3) | fail)
                    go_roundw
                    case rel =>
                     have c10 := c10.ext e2; have c11 := c11.ext e2; have c12 := c12.ext e2; have c14 := c14.ext e2; have c15 := c15.ext e2
                     have hs3 := (Chg.of_grown gr3).size
                     refine ⟨t + 1, _, by omega, by go_num, own3, hid (by rw [rlT_set hlt Hc.out]; exact F32s.set HFv.out t (by have h := G2.out; rw [Int.toNat_natCast] at h; exact h)), (XE.trans e2).grown gr3 (fun k hk => by have := own_le own2 k hk; omega), by omega, (CH.trans (Chg.of_ext e2)).late (Chg.of_grown gr3) (fun k hk => by have := own_le own2 k hk.symm; omega), c10.chg (Chg.of_grown gr3) (fun h => own_neHB own2 c10 (by decide) _ h.symm rfl), c11.chg (Chg.of_grown gr3) (fun h => own_neHB own2 c11 (by decide) _ h.symm rfl), c12.chg (Chg.of_grown gr3) (fun h => own_neHB own2 c12 (by decide) _ h.symm rfl), c14.chg (Chg.of_grown gr3) (fun h => own_neHB own2 c14 (by decide) _ h.symm rfl), c15.chg (Chg.of_grown gr3) (fun h => own_neHB own2 c15 (by decide) _ h.symm rfl)⟩
                    case measure => simp [intOf]; omega
                · obtain rfl : t = Na := by omega
                  have y12 := c12.cell 2 rfl
                  go_wp2
                  obtain ⟨o1a, o1b, o1c⟩ := own_mk (r := (ra : Int)) (c := (ca' : Int)) (show (rlT t xs gs t).length = t from ntab_len _ _) own HFv.out
                  have T1 := tenAtB_of o1a (by rw [← HVA.out]; exact hPA.out)
                  rw [← HVA.out] at T1
                  refine cut_end ?_ ?_
                  · kernel_rfl
                  · subst hwA
                    exact ⟨XE, c10, ⟨_, _, _, _, c14, T1, fun z hz => hfr.out z (o1c z hz)⟩, ⟨_, _, _, [], c15, fun h => absurd h (by decide)⟩⟩
             | inp r0 c0 xs0 _ _ => exact absurd (show (mkOp 0 0 0 0 (tn r0 c0 xs0)).1 = 0 from rfl) hkz
           · intro f W hF
             obtain ⟨XE, c10, ⟨y0, y1, y2, fa, c14, tA, frA⟩, ⟨z0, z1, z2, fb, c15, hB⟩⟩ := hF
             obtain ⟨go, rfl⟩ : ∃ g, pg = some ⟨g, 0, none⟩ := by
              rcases G.tb.row with ⟨_, h, _⟩ | ⟨g, _, _, h, _⟩
              · omega
              · exact ⟨g, h⟩
             have GW := G.ext XE
             have hsX := XE.size
             have hbig := c15.lt
             have hgh0 : gh < wr.heap.size := G.hr.lt
             have hfr0 : Hid (∀ x, W.heap.size ≤ x → x ≠ gh ∧ x ∉ blocksOf (some ⟨go, 0, none⟩) ∧ x ≠ wr.heap.size + 1 + 1 + 1 + 1 ∧ x ≠ wr.heap.size + 1 + 1 + 1 + 1 + 1) := hid (fun x hx => ⟨by have := G.hr.lt; omega, fun h => by have := G.tb.lt x (List.mem_append_left _ h); omega, by omega, by omega⟩)
             have m100 := c10.cell 0 rfl; have m101 := c10.cell 1 rfl; have m102 := c10.cell 2 rfl
             generalize hPAe : partA kN (ops.getD j o0).2.2.2.1 g (vAt ops a) (vAt ops b) = PA at tA hPA
             generalize hPBe : partB kN g (vAt ops a) (vAt ops b) = PB at hB hPB
             have hso := step_op (ops := ops) (m := m) (g := g) (o := ops.getD j o0) (by rw [← Hje.out]) (by rw [← Hje.out]; exact Hgg.out) Hk0.out
             rw [Hek.out, Hea.out, Heb.out] at hso
             simp only [Int.toNat_natCast] at hso
             rw [hPAe, hPBe] at hso
             have HSO := hid hso
             clear hso
             have HPAe := hid hPAe; have HPBe := hid hPBe; have HfrA := hid frA; have HB0 := hid hB
             clear hPAe hPBe frA hB hcs hcnt hsz hcg hgc hgs3 hgn3 hvc hvs hvn hV HCG HCV HCW Hgj Hgn b10 b11 b12 b13 b14 b15 E0 s0 Hoc Hro
             obtain ⟨qa, ka, ua, pa, hca, da, la, sa1, sa2, sa3, sa4⟩ := tA
             simp only [List.cons.injEq, and_true] at hca
             obtain ⟨rfl, rfl, rfl⟩ := hca
             have HDa := hid da; have HLa := hid la
             clear da la
             have hgta := hid (GW.get (i := a) han)
             have hgca := cs_heap (show W.heap[gh]? = some (.cells ((hasG (gradT ops m)).map Value.bool).toArray 4 (0, 0)) from GW.hr)
             have hgla := hid (show ((hasG (gradT ops m)).map Value.bool).length = i by rw [List.length_map, hasG_len, Hgl.out])
             simp only [spl, Nat.reduceAdd, Nat.reduceLeDiff, decide_true, decide_false, Bool.and_true, Bool.and_false, Bool.true_and, Bool.false_and, Bool.or_true, Bool.or_false, Bool.true_or, Bool.false_or, cond_true, cond_false, Bool.and_self, Bool.or_self]
             repeat ((fail_if_success (with_reducible show Code.wp _ (Code.cond (Operand.tmp 189) _ _) _ _ _)); (first | ((with_reducible show wpList _ _ _ (Oper.mk _ (Op.indexAddr _ _ _) _ _ _ _ :: Oper.mk _ (Op.load _ _) _ _ _ _ :: _) _ _); refine wl_idxload rfl rfl rfl rfl (fun _ => rfl) rfl rfl hgca hgla.out (by omega) (by omega) ?_; intro u hu; rw [Int.toNat_natCast] at hu; replace hu := hgta.out.symm.trans hu; cases hu) | go_values | go_skip | go_guarded | go_step | go_upon | go_back | (simp only [Int.not_lt, Int.not_le] at *; go_simp) | (go_values <;> (try go_simp)) | (go_ite <;> go_prune <;> (try go_simp)) | (split <;> (first | (rename_i hx; exact (hx _ rfl).elim) | go_prune))))
             (try simp only [Int.toNat_natCast])
             simp only [Act.put, ev_tmp, pu1, pu2, pu3, pu4, pu5]
             refine wp_cutS (fun x => decide (190 ≤ x) && decide (x ≤ 194)) (fun V => CutA (Chg (fun z => z = (wr.heap.size + 1 + 1 + 1 + 1)) W V) V wr.heap.size (wr.heap.size + 1 + 1 + 1 + 1) (wr.heap.size + 1 + 1 + 1 + 1 + 1) gh (some ⟨go, 0, none⟩) (sh a) (sh b) (bif (hasG (gradT ops m)).getD a false then tAdd ((memG ops (gradT ops m) 0).getD a t0) PA else PA) PB (twoK kN) #[.int .i64 kN, .int .i64 a, .int .i64 b, .float .f32 zb, .int .i64 orr, .int .i64 orc, .slice oq om occ]) ?_ ?_
             · cases hh : (hasG (gradT ops m)).getD a false
               · have Hh := hid hh
                 clear hh
                 go_wp2_with fail
                 refine cut_end ?_ ?_
                 · kernel_rfl
                 · exact ⟨Chg.refl _ _, c10, ⟨_, _, _, fa, c14, ⟨qa, ka, ua, pa, rfl, HDa.out, HLa.out, sa1, sa2, sa3, sa4⟩, HfrA.out⟩, ⟨_, _, _, fb, c15, HB0.out⟩⟩
               · obtain ⟨cq, fq, dq, hcq, hfq, hdq, ownq⟩ := GW.tb.at han
                 have hsq := has_shaped HGO.out (Hgl.out.trans HLen.out.symm) 0 (j := a) (by rw [HLen.out]; exact han) hh
                 have hdq2 : dq = (memG ops (gradT ops m) 0).getD a t0 := by rw [List.getD_eq_getElem?_getD, hdq]; rfl
                 rw [← hdq2] at hsq
                 obtain ⟨qq, kq, uq, qs, rfl, dq3, lq, y1', y2', y3', y4'⟩ := (tenAtB_of ownq hsq).at'
                 obtain ⟨t1, t2, t3, t4⟩ := HT.out.side a (by rw [HLen.out]; exact han)
                 have hN : (sh a).1 * (sh a).2 ≤ 256 := Nat.mul_le_mul t2 t4
                 have HX : Hid ((addX ((sh a).1 * (sh a).2) qs pa).length = (sh a).1 * (sh a).2) := hid (ntab_len _ _)
                 have HV : Hid (tAdd dq PA = (((sh a).1 : Int), ((sh a).2 : Int), addX ((sh a).1 * (sh a).2) qs pa, ())) := hid (by rw [dq3, HDa.out]; simp only [tAdd, tn, lq])
                 have K0 := l02Add_any (sp := none) (sq := none) go (a * shTensor.sz) (sh a).1 (sh a).2 qq ((sh a).1 * (sh a).2) kq uq qs (wr.heap.size + 1 + 1 + 1 + 1) 0 qa ((sh a).1 * (sh a).2) ka ua pa W (GW.cell (off := 0) hcq rfl) (GW.cell (off := 1) hcq rfl) (GW.cell (off := 2) hcq rfl) lq (by omega) y1' y2' (c14.cell 2 rfl) HLa.out (Nat.le_refl _) (by omega) (sa1 W (fun _ => False) (fun _ _ h => h) (Chg.refl _ _)) sa2
                 rw [← adr_row go (a * shTensor.sz)] at K0
                 have K := hid K0
                 clear K0
                 have Hh := hid hh; have Hdq2 := hid hdq2; have Hsq := hid hsq
                 clear hh hdq2 hsq hdq hcq hfq ownq dq3
                 go_wp2_with (first | ((with_reducible show wpList _ _ _ (Oper.mk _ (Op.indexAddr _ _ _) _ _ _ _ :: Oper.mk _ (Op.call _) _ _ _ _ :: _) _ _); refine wl_idxE (s := shTensor.sz) (j := a) (p := some ⟨go, 0, none⟩) rfl rfl rfl rfl rfl rfl han ?_) | fail)
                 refine K.out.mono ?_
                 rintro e w1 ⟨tq1, tk1, ws1, rfl, own1, hf1, e1⟩
                 rw [HX.out] at own1 ⊢
                 have hz1 := e1.size
                 have cx1 := c14.ext e1
                 go_wp2_with (first | ((with_reducible show wpList _ _ _ (Oper.mk _ (Op.store _ _ _) _ _ _ _ :: _) _ _); refine wl_st3 (y0 := .int .i64 (sh a).1) (y1 := .int .i64 (sh a).2) (y2 := .slice tq1 ((sh a).1 * (sh a).2) tk1) rfl rfl rfl rfl cx1 rfl rfl rfl ?_; intro w2 cx2 ch2) | fail)
                 obtain ⟨o1a, o1b, o1c⟩ := own_mk (r := ((sh a).1 : Int)) (c := ((sh a).2 : Int)) HX.out own1 hf1
                 have on1 := o1a.chg ch2 (fun z hz h => by have h : z = _ := h; have := o1c z hz; omega)
                 have T1 := tenAtB_of on1 (by rw [← HV.out]; exact tAdd_shaped _ Hsq.out)
                 rw [← HV.out, Hdq2.out] at T1
                 refine cut_end ?_ ?_
                 · kernel_rfl
                 · exact ⟨(Chg.of_ext e1).trans ch2, (c10.ext e1).chg ch2 (fun h => by have h : _ = _ := h; omega), ⟨_, _, _, _, cx2, T1, fun z hz => hfr0.out z (by have := o1c z hz; omega)⟩, ⟨_, _, _, fb, (c15.ext e1).chg ch2 (fun h => by have h : _ = _ := h; omega), fun htw => ⟨((HB0.out htw).1.ext e1).chg ch2 (fun z hz h => by have h : z = _ := h; exact ((HB0.out htw).2 z hz).2.2.1 h), (HB0.out htw).2⟩⟩⟩
             · intro faa Va hF
               obtain ⟨Xa, n10, ⟨y0, y1, y2, fs, nx, tX, frX⟩, ⟨z0, z1, z2, fb2, n15, hB2⟩⟩ := hF
               obtain ⟨qn, kn, un, pn, hcn, dn, ln, e1', e2', e3', e4'⟩ := tX
               simp only [List.cons.injEq, and_true] at hcn
               obtain ⟨rfl, rfl, rfl⟩ := hcn
               obtain ⟨t1, t2, t3, t4⟩ := HT.out.side a (by rw [HLen.out]; exact han)
               have hN : (sh a).1 * (sh a).2 ≤ 256 := Nat.mul_le_mul t2 t4
               have HDN0 := hid dn
               clear dn
               generalize hPN : (bif (hasG (gradT ops m)).getD a false then tAdd ((memG ops (gradT ops m) 0).getD a t0) PA else PA) = PNa at HDN0
               have HPNa := hid hPN
               clear hPN
               simp only [spl, Nat.reduceAdd, Nat.reduceLeDiff, decide_true, decide_false, Bool.and_true, Bool.and_false, Bool.true_and, Bool.false_and, Bool.or_true, Bool.or_false, Bool.true_or, Bool.false_or, cond_true, cond_false, Bool.and_self, Bool.or_self]
               have GV := GW.chg Xa (fun h => by have h : _ = _ := h; omega) (fun z hz h => by have h : z = _ := h; have := G.tb.lt z hz; omega)
               have K : Hid (∀ V, Ext Va V → Calls Tryz.prog 52 #[.pointer (some ⟨(wr.heap.size + 1 + 1 + 1 + 1), 0, none⟩), .int .i64 0, .int .i64 ((sh a).1 : Int)] V (RetTen V (sh a).1 (sh a).2 pn)) := hid (fun V h => by
                have h := l02Slice_any (sp := none) (wr.heap.size + 1 + 1 + 1 + 1) 0 (sh a).2 0 (sh a).1 ((sh a).1 * (sh a).2) kn qn un pn V ((nx.ext h).cell 1 rfl) ((nx.ext h).cell 2 rfl) t4 (by omega) (by simp) e3' ln ((e1' Va (fun _ => False) (fun _ _ h => h) (Chg.refl _ _)).ext h) e2'
                have e : (pn.take ((0 + (sh a).1) * (sh a).2)).drop (0 * (sh a).2) = pn := by rw [Nat.zero_mul, List.drop_zero, Nat.zero_add, ← ln, List.take_length]
                rw [e] at h
                exact h)
               have eD := Ext.drew Va
               have r0 := (nx.ext eD).cell 0 rfl
               have ra := (n10.ext eD).cell 1 rfl
               obtain ⟨F, hF⟩ : ∃ F : Option Tmp → World → Value → Prop, F = fun _ w' u => IsTn Va.heap.size (sh a).1 (sh a).2 pn w' u := ⟨_, rfl⟩
               have HF := hid hF
               have HLN := hid ln
               clear hF ln
               go_wp2_with fail
               refine wp_region_xt 7 (F := F) (by kernel_rfl) (by kernel_rfl) (by kernel_rfl) (by kernel_rfl) (by kernel_rfl) ?_
               intro wf hwf
               simp only [List.take_succ_cons, List.take_zero, List.drop_succ_cons, List.drop_zero]
               repeat (first
                | (refine x_skip rfl ?_; simp only [Act.put, ev_tmp, pu1, pu2, pu3, pu4, pu5])
                | (refine x_mv rfl rfl rfl ?_; simp only [Act.put, ev_tmp, pu1, pu2, pu3, pu4, pu5])
                | (refine x_as rfl rfl rfl ?_; simp only [Act.put, ev_tmp, pu1, pu2, pu3, pu4, pu5])
                | ((with_reducible show wpX _ _ _ _ _ _ (Oper.mk _ (Op.call _) _ _ _ _ :: _) _); refine x_callf (f := 52) (args := #[.pointer (some ⟨(wr.heap.size + 1 + 1 + 1 + 1), 0, none⟩), .int .i64 0, .int .i64 (sh a).1]) rfl rfl Tryz.func52 rfl (by kernel_rfl) ?_ ?_ ?_; (focus (simp [Act.eval]; done)); (focus (intro w1 hw1; exact (by rw [HF.out]; exact calls_tn (eD.trans hw1) (K.out w1 (eD.trans hw1))))); rintro u w3 e3 e4 hu; simp only [HF.out] at hu; obtain ⟨q5, c5, vs5, rfl, ho5, hf5⟩ := hu; rw [HLN.out] at ho5 ⊢; have HO5 := hid (own_ext ho5 e4); have HV5 := hid hf5; clear ho5 hf5; simp only [Act.put, ev_tmp, pu1, pu2, pu3, pu4, pu5])
                | ((with_reducible show wpX _ _ _ _ _ _ (Oper.mk _ (Op.indexAddr _ _ _) _ _ _ _ :: _) _); refine x_idx (i := (a : Int)) rfl rfl rfl rfl rfl (by omega) (by omega) ?_; simp only [Int.toNat_natCast]; simp only [Act.put, ev_tmp, pu1, pu2, pu3, pu4, pu5])
                | (refine x_run rfl fun K hK w1 hw1 => ?_; have k0 := hw1.cell (r0); have k1 := hw1.cell (ra); go_simp; refine hK _ ?_; clear hK K k0 k1 hw1 w1))
               refine x_nil ?_
               have Y1 := eD.trans hwf
               have G2 := GV.ext Y1
               have hy1 := Y1.size
               have hy2 := Xa.size
               have hlew := he.size
               obtain ⟨o1, o2, o3⟩ := own_mk (r := ((sh a).1 : Int)) (c := ((sh a).2 : Int)) HLN.out HO5.out HV5.out
               have HO1 := hid o1; have HO2 := hid o2; have HO3 := hid o3
               have hG2a := G2.tb.all; have hG2c := hid G2.tb.cnt
               have hget := hid (GV.getA (i := a) han)
               have n10y := n10.ext Y1
               have n101 := n10y.cell 1 rfl; have n100 := n10y.cell 0 rfl; have n102 := n10y.cell 2 rfl
               clear o1 o2 o3 r0 ra
               go_wp2_with (first | ((with_reducible show wpList _ _ _ (Oper.mk _ (Op.store _ _ _) _ _ _ _ :: _) _ _); refine wl_storeE (s := shTensor) (j := a) (css := _) (cs := [.int .i64 (sh a).1, .int .i64 (sh a).2, .slice q5 ((sh a).1 * (sh a).2) c5]) rfl rfl rfl rfl G2.tb.row hG2a (by rw [hG2c.out]; exact han) rfl (by decide) (by simp [Value.oneCell']) ?_; intro w5a hr5 ch5; have G5 := GV.put Y1 han HO1.out HO2.out HO3.out (by omega) hr5 ch5; have n105 := n10y.chg ch5 (fun h => (by have h1 : wr.heap.size ∈ [go] := h; simp at h1; have := G.tb.row.lt go (by simp [blocksOf]); omega)); have n101 := n105.cell 1 rfl) | ((with_reducible show wpList _ _ _ (Oper.mk _ (Op.store _ _ _) _ _ _ _ :: _) _ _); refine wl_stHB (u := .bool true) (j := a) rfl rfl G5.hr hget.out rfl rfl rfl ?_; intro w6a hr6 ch6; have G6 := G5.has hr6 ch6; have n106 := n105.chg ch6 (fun h => by have h : _ = _ := h; have := G.hr.lt; omega); have n100 := n106.cell 0 rfl; have n102 := n106.cell 2 rfl) | ((with_reducible show wpList _ _ _ (Oper.mk _ (Op.indexAddr _ _ _) _ _ _ _ :: Oper.mk _ (Op.store _ _ _) _ _ _ _ :: _) _ _); refine wl_idxE (s := 1) (j := a) (p := some ⟨gh, 0, none⟩) rfl rfl rfl rfl rfl rfl han ?_; rw [Nat.mul_one, adr_row gh a]) | fail)
               refine (l04Two_any kN w6a).mono ?_
               rintro e w7 ⟨rfl, rfl⟩
               obtain ⟨gs1, hgs1⟩ : ∃ x, x = giveG (gradT ops m) a PA := ⟨_, rfl⟩
               have hgl1 : gs1.length = i := by rw [hgs1, giveG_len, Hgl.out]
               have hhs := hasG_give (gradT ops m) a PA (by rw [Hgl.out]; exact han)
               have hms := memG_give (ops := ops) (gradT ops m) 0 a PA (by rw [Hgl.out, HLen.out]) (by rw [HLen.out]; exact han)
               have hpn : (if (hasG (gradT ops m)).getD a false then tAdd ((memG ops (gradT ops m) 0).getD a t0) PA else PA) = PNa := by rw [← HPNa.out]; cases (hasG (gradT ops m)).getD a false <;> rfl
               rw [hpn] at hms
               have hdp : (((sh a).1 : Int), ((sh a).2 : Int), pn, ()) = PNa := by rw [HDN0.out]; rfl
               have G7 := G6
               rw [hdp, ← hhs, ← hms, ← hgs1] at G7
               have hok1 : GsOk sh gs1 := by rw [hgs1]; exact giveG_ok HGO.out hPA.out (by rw [Hgl.out]; exact han)
               have HOK1 := hid hok1; have HGL1 := hid hgl1; have HGS1 := hid hgs1
               have E6 : Ext w w6a := ((((he.trans XE).chg Xa (fun z hz => by have hz : z = _ := hz; omega)).trans Y1).chg ch5 (fun z hz => G.tb.lo z (List.mem_append_left _ hz))).chg ch6 (fun z hz => by have hz : z = gh := hz; rw [hz]; exact hgb)
               have hgo1 : go < wr.heap.size := G.tb.row.lt go (by simp [blocksOf])
               have hgh1 : gh < wr.heap.size := G.hr.lt
               have n14b := ((nx.ext Y1).chg ch5 (fun h => by have h1 : wr.heap.size + 1 + 1 + 1 + 1 ∈ [go] := h; simp at h1; omega)).chg ch6 (fun h => by have h : _ = _ := h; omega)
               have n15b := ((n15.ext Y1).chg ch5 (fun h => by have h1 : wr.heap.size + 1 + 1 + 1 + 1 + 1 ∈ [go] := h; simp at h1; omega)).chg ch6 (fun h => by have h : _ = _ := h; omega)
               have hB3 : Hid (twoK kN = true → TenAtB fb2 w6a [z0, z1, z2] (sh b) PB ∧ ∀ z ∈ fb2, z ≠ gh ∧ z ∉ blocksOf (some ⟨go, 0, none⟩) ∧ z ≠ wr.heap.size + 1 + 1 + 1 + 1 + 1 ∧ z ≠ wr.heap.size + 1 + 1 + 1 + 1) := hid (fun h => ⟨(((hB2 h).1.ext Y1).chg ch5 (fun z hz h2 => ((hB2 h).2 z hz).2.1 h2)).chg ch6 (fun z hz h2 => ((hB2 h).2 z hz).1 h2), fun z hz => ⟨((hB2 h).2 z hz).1, ((hB2 h).2 z hz).2.1, ((hB2 h).2 z hz).2.2.2, ((hB2 h).2 z hz).2.2.1⟩⟩)
               have hz6 : wr.heap.size + 1 + 1 + 1 + 1 + 1 < w6a.heap.size := n15b.lt
               have hz15 := n15.lt
               have hbs7 : Hid (∀ z ∈ blocksOf (some ⟨go, 0, none⟩) ++ (bs3.set a (blocksOf q5)).flatten, ¬ z = wr.heap.size + 1 + 1 + 1 + 1 + 1) := hid (fun z hz h => by
                rcases List.mem_append.1 hz with hz | hz
                · have h1 : z ∈ [go] := hz
                  simp at h1; omega
                · rcases set_flat_sub z hz with h1 | h1
                  · have := G.tb.lt z (List.mem_append_right _ h1); omega
                  · have := HO3.out z h1; omega)
               clear hB2 nx n15 hhs hms hpn hdp hok1 hgl1 hgs1 G6 G5 G2 GV hget hG2a hG2c HO1 HO2 HO3 hr5 hr6
               cases htw : twoK kN
               · have hso := HSO.out
                 rw [htw] at hso
                 simp only [Bool.false_eq_true, if_false] at hso
                 have HSO2 := hid hso
                 clear hso htw
                 go_wp2_with fail
                 go_roundw
                 case rel =>
                  exact ⟨m + 1, _, _, hlt, congrArg _ hm1.out, by rw [HSO2.out, ← HGS1.out]; exact G7, E6⟩
                 case measure => (simp [intOf] <;> omega)
               · have hso := HSO.out
                 rw [htw] at hso
                 simp only [if_true] at hso
                 have HSO2 := hid hso
                 obtain ⟨tB, frB⟩ := hB3.out htw
                 have HfrB := hid frB
                 have Htw := hid htw
                 have hfr0b : Hid (∀ x, w6a.heap.size ≤ x → x ≠ gh ∧ x ∉ blocksOf (some ⟨go, 0, none⟩) ∧ x ≠ wr.heap.size + 1 + 1 + 1 + 1 + 1 ∧ x ≠ wr.heap.size + 1 + 1 + 1 + 1) := hid (fun x hx => ⟨by omega, fun h => by have h1 : x ∈ [go] := h; simp at h1; omega, by omega, by omega⟩)
                 clear hso htw hB3 frB
                 obtain ⟨qb, kb, ub, pb, hcb, db, lb, sb1, sb2, sb3, sb4⟩ := tB
                 simp only [List.cons.injEq, and_true] at hcb
                 obtain ⟨rfl, rfl, rfl⟩ := hcb
                 have HDb := hid db; have HLb := hid lb
                 clear db lb
                 have hgtb := hid (G7.get (i := b) hbn)
                 have hgcb := cs_heap (show w6a.heap[gh]? = some (.cells ((hasG gs1).map Value.bool).toArray 4 (0, 0)) from G7.hr)
                 have hglb := hid (show ((hasG gs1).map Value.bool).length = i by rw [List.length_map, hasG_len, HGL1.out])
                 repeat ((fail_if_success (with_reducible show Code.wp _ (Code.cond (Operand.tmp 213) _ _) _ _ _)); (first | ((with_reducible show wpList _ _ _ (Oper.mk _ (Op.indexAddr _ _ _) _ _ _ _ :: Oper.mk _ (Op.load _ _) _ _ _ _ :: _) _ _); refine wl_idxload rfl rfl rfl rfl (fun _ => rfl) rfl rfl hgcb hglb.out (by omega) (by omega) ?_; intro u hu; rw [Int.toNat_natCast] at hu; replace hu := hgtb.out.symm.trans hu; cases hu) | go_values | go_skip | go_guarded | go_step | go_upon | go_back | (simp only [Int.not_lt, Int.not_le] at *; go_simp) | (go_values <;> (try go_simp)) | (go_ite <;> go_prune <;> (try go_simp)) | (split <;> (first | (rename_i hx; exact (hx _ rfl).elim) | go_prune))))
                 (try simp only [Int.toNat_natCast])
                 simp only [Act.put, ev_tmp, pu1, pu2, pu3, pu4, pu5]
                 refine wp_cutS (fun x => decide (214 ≤ x) && decide (x ≤ 218)) (fun V => CutA (Chg (fun z => z = (wr.heap.size + 1 + 1 + 1 + 1 + 1)) w6a V) V wr.heap.size (wr.heap.size + 1 + 1 + 1 + 1 + 1) (wr.heap.size + 1 + 1 + 1 + 1) gh (some ⟨go, 0, none⟩) (sh b) (sh b) (bif (hasG gs1).getD b false then tAdd ((memG ops gs1 0).getD b t0) PB else PB) t0 false #[.int .i64 kN, .int .i64 a, .int .i64 b, .float .f32 zb, .int .i64 orr, .int .i64 orc, .slice oq om occ]) ?_ ?_
                 · cases hh : (hasG gs1).getD b false
                   · have Hh := hid hh
                     clear hh
                     go_wp2_with fail
                     refine cut_end ?_ ?_
                     · kernel_rfl
                     · exact ⟨Chg.refl _ _, n106, ⟨_, _, _, fb2, n15b, ⟨qb, kb, ub, pb, rfl, HDb.out, HLb.out, sb1, sb2, sb3, sb4⟩, HfrB.out⟩, ⟨_, _, _, [], n14b, fun h => absurd h (by decide)⟩⟩
                   · obtain ⟨cq, fq, dq, hcq, hfq, hdq, ownq⟩ := G7.tb.at hbn
                     have hsq := has_shaped HOK1.out (HGL1.out.trans HLen.out.symm) 0 (j := b) (by rw [HLen.out]; exact hbn) hh
                     have hdq2 : dq = (memG ops gs1 0).getD b t0 := by rw [List.getD_eq_getElem?_getD, hdq]; rfl
                     rw [← hdq2] at hsq
                     obtain ⟨qq, kq, uq, qs, rfl, dq3, lq, y1', y2', y3', y4'⟩ := (tenAtB_of ownq hsq).at'
                     obtain ⟨t1, t2, t3, t4⟩ := HT.out.side b (by rw [HLen.out]; exact hbn)
                     have hN : (sh b).1 * (sh b).2 ≤ 256 := Nat.mul_le_mul t2 t4
                     have HX : Hid ((addX ((sh b).1 * (sh b).2) qs pb).length = (sh b).1 * (sh b).2) := hid (ntab_len _ _)
                     have HV : Hid (tAdd dq PB = (((sh b).1 : Int), ((sh b).2 : Int), addX ((sh b).1 * (sh b).2) qs pb, ())) := hid (by rw [dq3, HDb.out]; simp only [tAdd, tn, lq])
                     have K0 := l02Add_any (sp := none) (sq := none) go (b * shTensor.sz) (sh b).1 (sh b).2 qq ((sh b).1 * (sh b).2) kq uq qs (wr.heap.size + 1 + 1 + 1 + 1 + 1) 0 qb ((sh b).1 * (sh b).2) kb ub pb w6a (G7.cell (off := 0) hcq rfl) (G7.cell (off := 1) hcq rfl) (G7.cell (off := 2) hcq rfl) lq (by omega) y1' y2' (n15b.cell 2 rfl) HLb.out (Nat.le_refl _) (by omega) (sb1 w6a (fun _ => False) (fun _ _ h => h) (Chg.refl _ _)) sb2
                     rw [← adr_row go (b * shTensor.sz)] at K0
                     have K := hid K0
                     clear K0
                     have Hh := hid hh; have Hdq2 := hid hdq2; have Hsq := hid hsq
                     clear hh hdq2 hsq hdq hcq hfq ownq dq3
                     go_wp2_with (first | ((with_reducible show wpList _ _ _ (Oper.mk _ (Op.indexAddr _ _ _) _ _ _ _ :: Oper.mk _ (Op.call _) _ _ _ _ :: _) _ _); refine wl_idxE (s := shTensor.sz) (j := b) (p := some ⟨go, 0, none⟩) rfl rfl rfl rfl rfl rfl hbn ?_) | fail)
                     refine K.out.mono ?_
                     rintro e w1 ⟨tq1, tk1, ws1, rfl, own1, hf1, e1⟩
                     rw [HX.out] at own1 ⊢
                     have hz1 := e1.size
                     have cx1 := n15b.ext e1
                     go_wp2_with (first | ((with_reducible show wpList _ _ _ (Oper.mk _ (Op.store _ _ _) _ _ _ _ :: _) _ _); refine wl_st3 (y0 := .int .i64 (sh b).1) (y1 := .int .i64 (sh b).2) (y2 := .slice tq1 ((sh b).1 * (sh b).2) tk1) rfl rfl rfl rfl cx1 rfl rfl rfl ?_; intro w2 cx2 ch2) | fail)
                     obtain ⟨o1a, o1b, o1c⟩ := own_mk (r := ((sh b).1 : Int)) (c := ((sh b).2 : Int)) HX.out own1 hf1
                     have on1 := o1a.chg ch2 (fun z hz h => by have h : z = _ := h; have := o1c z hz; omega)
                     have T1 := tenAtB_of on1 (by rw [← HV.out]; exact tAdd_shaped _ Hsq.out)
                     rw [← HV.out, Hdq2.out] at T1
                     refine cut_end ?_ ?_
                     · kernel_rfl
                     · exact ⟨(Chg.of_ext e1).trans ch2, (n106.ext e1).chg ch2 (fun h => by have h : _ = _ := h; omega), ⟨_, _, _, _, cx2, T1, fun z hz => hfr0b.out z (by have := o1c z hz; omega)⟩, ⟨_, _, _, [], (n14b.ext e1).chg ch2 (fun h => by have h : _ = _ := h; omega), fun h => absurd h (by decide)⟩⟩
                 · intro fbb Vb hF
                   obtain ⟨Xb, n10, ⟨y0, y1, y2, fs, nx, tX, frX⟩, ⟨z0b, z1b, z2b, fb3, n15c, _⟩⟩ := hF
                   obtain ⟨qn, kn, un, pn, hcn, dn, ln, e1', e2', e3', e4'⟩ := tX
                   simp only [List.cons.injEq, and_true] at hcn
                   obtain ⟨rfl, rfl, rfl⟩ := hcn
                   obtain ⟨t1, t2, t3, t4⟩ := HT.out.side b (by rw [HLen.out]; exact hbn)
                   have hN : (sh b).1 * (sh b).2 ≤ 256 := Nat.mul_le_mul t2 t4
                   have HDN0 := hid dn
                   clear dn
                   generalize hPN : (bif (hasG gs1).getD b false then tAdd ((memG ops gs1 0).getD b t0) PB else PB) = PNb at HDN0
                   have HPNb := hid hPN
                   clear hPN
                   simp only [spl, Nat.reduceAdd, Nat.reduceLeDiff, decide_true, decide_false, Bool.and_true, Bool.and_false, Bool.true_and, Bool.false_and, Bool.or_true, Bool.or_false, Bool.true_or, Bool.false_or, cond_true, cond_false, Bool.and_self, Bool.or_self]
                   have GV := G7.chg Xb (fun h => by have h : _ = _ := h; omega) (fun z hz h => hbs7.out z hz h)
                   have K : Hid (∀ V, Ext Vb V → Calls Tryz.prog 52 #[.pointer (some ⟨(wr.heap.size + 1 + 1 + 1 + 1 + 1), 0, none⟩), .int .i64 0, .int .i64 ((sh b).1 : Int)] V (RetTen V (sh b).1 (sh b).2 pn)) := hid (fun V h => by
                    have h := l02Slice_any (sp := none) (wr.heap.size + 1 + 1 + 1 + 1 + 1) 0 (sh b).2 0 (sh b).1 ((sh b).1 * (sh b).2) kn qn un pn V ((nx.ext h).cell 1 rfl) ((nx.ext h).cell 2 rfl) t4 (by omega) (by simp) e3' ln ((e1' Vb (fun _ => False) (fun _ _ h => h) (Chg.refl _ _)).ext h) e2'
                    have e : (pn.take ((0 + (sh b).1) * (sh b).2)).drop (0 * (sh b).2) = pn := by rw [Nat.zero_mul, List.drop_zero, Nat.zero_add, ← ln, List.take_length]
                    rw [e] at h
                    exact h)
                   have eD := Ext.drew Vb
                   have r0 := (nx.ext eD).cell 0 rfl
                   have ra := (n10.ext eD).cell 2 rfl
                   obtain ⟨F, hF⟩ : ∃ F : Option Tmp → World → Value → Prop, F = fun _ w' u => IsTn Vb.heap.size (sh b).1 (sh b).2 pn w' u := ⟨_, rfl⟩
                   have HF := hid hF
                   have HLN := hid ln
                   clear hF ln
                   go_wp2_with fail
                   refine wp_region_xt 7 (F := F) (by kernel_rfl) (by kernel_rfl) (by kernel_rfl) (by kernel_rfl) (by kernel_rfl) ?_
                   intro wf hwf
                   simp only [List.take_succ_cons, List.take_zero, List.drop_succ_cons, List.drop_zero]
                   repeat (first
                    | (refine x_skip rfl ?_; simp only [Act.put, ev_tmp, pu1, pu2, pu3, pu4, pu5])
                    | (refine x_mv rfl rfl rfl ?_; simp only [Act.put, ev_tmp, pu1, pu2, pu3, pu4, pu5])
                    | (refine x_as rfl rfl rfl ?_; simp only [Act.put, ev_tmp, pu1, pu2, pu3, pu4, pu5])
                    | ((with_reducible show wpX _ _ _ _ _ _ (Oper.mk _ (Op.call _) _ _ _ _ :: _) _); refine x_callf (f := 52) (args := #[.pointer (some ⟨(wr.heap.size + 1 + 1 + 1 + 1 + 1), 0, none⟩), .int .i64 0, .int .i64 (sh b).1]) rfl rfl Tryz.func52 rfl (by kernel_rfl) ?_ ?_ ?_; (focus (simp [Act.eval]; done)); (focus (intro w1 hw1; exact (by rw [HF.out]; exact calls_tn (eD.trans hw1) (K.out w1 (eD.trans hw1))))); rintro u w3 e3 e4 hu; simp only [HF.out] at hu; obtain ⟨q5, c5, vs5, rfl, ho5, hf5⟩ := hu; rw [HLN.out] at ho5 ⊢; have HO5 := hid (own_ext ho5 e4); have HV5 := hid hf5; clear ho5 hf5; simp only [Act.put, ev_tmp, pu1, pu2, pu3, pu4, pu5])
                    | ((with_reducible show wpX _ _ _ _ _ _ (Oper.mk _ (Op.indexAddr _ _ _) _ _ _ _ :: _) _); refine x_idx (i := (b : Int)) rfl rfl rfl rfl rfl (by omega) (by omega) ?_; simp only [Int.toNat_natCast]; simp only [Act.put, ev_tmp, pu1, pu2, pu3, pu4, pu5])
                    | (refine x_run rfl fun K hK w1 hw1 => ?_; have k0 := hw1.cell (r0); have k1 := hw1.cell (ra); go_simp; refine hK _ ?_; clear hK K k0 k1 hw1 w1))
                   refine x_nil ?_
                   have Y1 := eD.trans hwf
                   have G2 := GV.ext Y1
                   have hy1 := Y1.size
                   have hy2 := Xb.size
                   have hlew := E6.size
                   obtain ⟨o1, o2, o3⟩ := own_mk (r := ((sh b).1 : Int)) (c := ((sh b).2 : Int)) HLN.out HO5.out HV5.out
                   have HO1 := hid o1; have HO2 := hid o2; have HO3 := hid o3
                   have hG2a := G2.tb.all; have hG2c := hid G2.tb.cnt
                   have hget := hid (GV.getA (i := b) hbn)
                   have n10y := n10.ext Y1
                   have n101 := n10y.cell 2 rfl; have n100 := n10y.cell 0 rfl; have n102 := n10y.cell 2 rfl
                   clear o1 o2 o3 r0 ra
                   go_wp2_with (first | ((with_reducible show wpList _ _ _ (Oper.mk _ (Op.store _ _ _) _ _ _ _ :: _) _ _); refine wl_storeE (s := shTensor) (j := b) (css := _) (cs := [.int .i64 (sh b).1, .int .i64 (sh b).2, .slice q5 ((sh b).1 * (sh b).2) c5]) rfl rfl rfl rfl G2.tb.row hG2a (by rw [hG2c.out]; exact hbn) rfl (by decide) (by simp [Value.oneCell']) ?_; intro w5b hr5 ch5; have G5 := GV.put Y1 hbn HO1.out HO2.out HO3.out (by omega) hr5 ch5; have n105 := n10y.chg ch5 (fun h => (by have h1 : wr.heap.size ∈ [go] := h; simp at h1; omega)); have n101 := n105.cell 2 rfl) | ((with_reducible show wpList _ _ _ (Oper.mk _ (Op.store _ _ _) _ _ _ _ :: _) _ _); refine wl_stHB (u := .bool true) (j := b) rfl rfl G5.hr hget.out rfl rfl rfl ?_; intro w6b hr6 ch6; have G6 := G5.has hr6 ch6; have n106 := n105.chg ch6 (fun h => by have h : _ = _ := h; have := G7.hr.lt; omega); have n100 := n106.cell 0 rfl; have n102 := n106.cell 2 rfl) | ((with_reducible show wpList _ _ _ (Oper.mk _ (Op.indexAddr _ _ _) _ _ _ _ :: Oper.mk _ (Op.store _ _ _) _ _ _ _ :: _) _ _); refine wl_idxE (s := 1) (j := b) (p := some ⟨gh, 0, none⟩) rfl rfl rfl rfl rfl rfl hbn ?_; rw [Nat.mul_one, adr_row gh b]) | fail)
                   obtain ⟨gs2, hgs2⟩ : ∃ x, x = giveG gs1 b PB := ⟨_, rfl⟩
                   have hhs := hasG_give gs1 b PB (by rw [HGL1.out]; exact hbn)
                   have hms := memG_give (ops := ops) gs1 0 b PB (by rw [HGL1.out, HLen.out]) (by rw [HLen.out]; exact hbn)
                   have hpn : (if (hasG gs1).getD b false then tAdd ((memG ops gs1 0).getD b t0) PB else PB) = PNb := by rw [← HPNb.out]; cases (hasG gs1).getD b false <;> rfl
                   rw [hpn] at hms
                   have hdp : (((sh b).1 : Int), ((sh b).2 : Int), pn, ()) = PNb := by rw [HDN0.out]; rfl
                   have G8 := G6
                   rw [hdp, ← hhs, ← hms, ← hgs2] at G8
                   have HGS2 := hid hgs2
                   have E8 : Ext w w6b := (((E6.chg Xb (fun z hz => by have hz : z = _ := hz; omega)).trans Y1).chg ch5 (fun z hz => G7.tb.lo z (List.mem_append_left _ hz))).chg ch6 (fun z hz => by have hz : z = gh := hz; rw [hz]; exact hgb)
                   clear hhs hms hpn hdp hgs2 G6 G5 G2 GV hget hG2a hG2c HO1 HO2 HO3 hr5 hr6
                   go_roundw
                   case rel =>
                    exact ⟨m + 1, _, _, hlt, congrArg _ hm1.out, by rw [HSO2.out, ← HGS1.out, ← HGS2.out]; exact G8, E8⟩
                   case measure => (simp [intOf] <;> omega)
     · obtain rfl : m = i := by omega
       have hd : decide (0 ≤ (m : Int) - 1 - (m : Int)) = false := by simp; omega
       go_wp2
       go_ret
       have hmd := memG_done ops
       rw [HLen.out] at hmd
       refine ⟨pg, kg, cs3, rfl, ⟨G.tb.row.cs, ?_, G.tb.cnt⟩, he⟩
       rw [← hmd]
       have k1 := G.tb.els.1; have k2 := G.tb.els.2.1
       refine All2.of_get k1 fun i cs d hc hd => ?_
       have hi : i < cs3.length := (List.getElem?_eq_some_iff.1 hc).1
       exact (G.tb.els.2.2 i cs (bs3[i]'(by omega)) d hc (by simp) hd).rep
end Go.Proofs.YtlimabbeaimdgaaGreat
