/- A part of the proofs: Grow, Fwd4, Fwd5, Fwd8, Fwd10, HFloat32SS, Lays, Mod2, Stg, InOut, RowT, Clo, Row. -/
import Derived.Maps.AppendAt
import Derived.Test.YtlimabbeaimdgaaGreatZ04Worker
import Derived.Test.YtlimabbeaimdgaaGreatZ03Worker
import Derived.Test.YtlimabbeaimdgaaGreatZ02Worker
import Derived.Test.YtlimabbeaimdgaaGreatZ07Worker
import Derived.Test.YtlimabbeaimdgaaGreatZ05Worker
import Derived.Shelf.Abstract
set_option linter.unusedSimpArgs false
set_option linter.unusedVariables false
set_option maxRecDepth 100000
set_option maxHeartbeats 16000000
namespace Go.Proofs.YtlimabbeaimdgaaGreat
open Go.RowKit
section
variable {P : Program} {w : World} {ops : Array Oper} {rest : List Oper} {o o1 o2 : Oper} {a : Act} {Q : Exit → Act → World → Prop}
theorem wl_app1b {t e s b : Nat} {z : Value} [T : SlTy P t e s z b] {x1 s2 : Operand} {d1 : Tmp} {u : Value} {v : Value} {B n : Nat} {vs : List Value}
 (hg1 : o1.guard = none) (ho1 : o1.op = .buildSlice t 1 #[(0, x1)]) (hg2 : o2.guard = none) (ho2 : o2.op = .call { callee := .builtin .append, args := #[s2, .tmp d1], argTypes := #[t, t] })
 (hx : a.eval x1 = u) (hu : u.cells.size = s) (hu1 : u.cells.toList.all (fun y => y.oneCell') = true) (hd : ∀ y, (a.put o1.dst y).eval (.tmp d1) = y) (hs : ∀ y, (a.put o1.dst y).eval s2 = v)
 (how : w.ownsRow B e s v n vs) (hn : n + 1 ≤ maxLen) (hb : (n + 1) * b ≤ 140737488355328) (hB : B ≤ w.heap.size)
 (h : ∀ g c w', w'.ownsRow B e s (.slice (some ⟨g, 0, none⟩) (n + 1) c) (n + 1) (vs ++ u.cells.toList) → w.grownBy w' v.ownBlock → (v.ownBlock = some g ∨ g = w.heap.size + 1) →
  wpList P ops Q rest ((a.put o1.dst (.slice (some ⟨w.heap.size, 0, none⟩) 1 1)).put o2.dst (.slice (some ⟨g, 0, none⟩) (n + 1) c)) w') : wpList P ops Q (o1 :: o2 :: rest) a w := by
 obtain ⟨ti, hi, hzz⟩ := Option.map_eq_some_iff.1 T.inf; simp only [Prod.mk.injEq] at hzz; have hund := T.und; have hpos := T.pos; have hs24 := T.few
 have hrun : (execOp a.eval o1).run P w = .ok (.value (.slice (some ⟨w.heap.size, 0, none⟩) 1 1)) (w.alloc (.cells u.cells e)) := by
  have hfill : Instr.fill (fun i => some (i * s, s)) ((Array.range (1 * s)).map (z.cells[· % z.cells.size]!)) [(0, u)] = some u.cells := by
   simp only [Instr.fill, hu, Array.size_map, Array.size_range, Nat.zero_mul, Nat.zero_add, Nat.one_mul, Nat.lt_irrefl, ne_eq, not_true_eq_false, decide_false, Bool.or_self, gt_iff_lt, Bool.false_eq_true, if_false]
   congr 1
   exact wl_app1.fill_all (w := w) (s := s) (b := b) (u := u) (B := B) (n := n) _ _ (by simp [hu])
  simp [execOp, ho1, hx, Instr.buildSlice, run_underlying hund, sizeOf, typeInfo, hi, hzz.2.1, zeroValue, hzz.1, show ¬ 16777216 < s by omega, show ¬ s = 0 by omega, newRow]; rw [show (Array.map (fun x => z.cells[x % z.cells.size]!) (Array.range s)) = (Array.range (1 * s)).map (z.cells[· % z.cells.size]!) by rw [Nat.one_mul], hfill]; simp
 refine wl_value hg1 hrun ?_; have how' := how.alloc (Obj.cells u.cells e); refine wpList_append_own_at _ hg2 s2 (.tmp d1) t ho2 B e ti z s b hund hi hzz.1 hzz.2.1 hzz.2.2 T.zs hpos v n vs (hs _) how' ⟨w.heap.size, 0, none⟩ 1 1 u.cells.toList (hd _) (by simp [hu]) ?_ (List.all_eq_true.1 hu1) hn hb (by simp; omega) ?_
 · intro j y hj
   rw [Addr.add_lit, Nat.zero_add]; have hnew : (w.alloc (.cells u.cells e)).heap[w.heap.size]? = some (.cells u.cells e) := heap_alloc_new w _; unfold World.cell?; rw [hnew]
   simpa using hj
 · intro v' w' h1 h2 h3 h4
   rcases h1.2 with ⟨_, h5⟩ | ⟨g, cap, cur, rfl, _⟩
   · omega
   · refine h g cap w' h1 (@wl_app1.grown_alloc w s b u B n _ _ _ _ h2) ?_
     rcases h4 with h4 | h4
     · left; rw [← h4]; rfl
     · right; simp [Value.ownBlock] at h4; exact h4
end
structure GrowOwn (w : World) (B : Nat) (te : TypeId) (E : Sh) (v : Value) (l : List E.T) (css : List (List Value)) (bss : List (List Nat)) : Prop where
 row : w.ownsRow B te E.sz v l.length css.flatten
 els : OwnEs w E css bss l
 nodup : bss.flatten.Nodup
 lo : ∀ b ∈ bss.flatten, B ≤ b ∧ v.ownBlock ≠ some b
theorem OwnEs.lt {w : World} {E : Sh} {css : List (List Value)} {bss : List (List Nat)} {l : List E.T} (h : OwnEs w E css bss l) : ∀ b ∈ bss.flatten, b < w.heap.size := by
 intro b hb; obtain ⟨bj, hm, hbj⟩ := List.mem_flatten.1 hb; obtain ⟨j, hj, rfl⟩ := List.mem_iff_getElem.1 hm; have k1 := h.1; have k2 := h.2.1; exact (h.2.2 j (css[j]'(by omega)) bss[j] (l[j]'(by omega)) (by simp) (by simp) (by simp)).lt b hbj
theorem GrowOwn.ext {w w' : World} {B : Nat} {te : TypeId} {E : Sh} {v : Value} {l : List E.T} {css : List (List Value)} {bss : List (List Nat)} (h : GrowOwn w B te E v l css bss) (e : Ext w w') : GrowOwn w' B te E v l css bss :=
 ⟨own_ext h.row e, h.els.chg (.of_ext e) (S := fun _ => False) (fun _ _ h => h), h.nodup, h.lo⟩
theorem GrowOwn.empty {w : World} {B : Nat} {te : TypeId} {E : Sh} {v : Value} (h : w.ownsRow B te E.sz v 0 []) : GrowOwn w B te E v [] [] [] :=
 ⟨h, ⟨rfl, rfl, fun i cs bs d h => by simp at h⟩, by simp, by simp⟩
theorem GrowOwn.snoc {w0 w w' : World} {B : Nat} {te : TypeId} {E : Sh} {v : Value} {l : List E.T} {css : List (List Value)} {bss : List (List Nat)} (h : GrowOwn w0 B te E v l css bss) (hx : Ext w0 w) {cs : List Value} {d : E.T} {bs : List Nat}
 (ho : Own w E cs d bs) (hn : bs.Nodup) (hf : ∀ b ∈ bs, w0.heap.size ≤ b) (hB : B ≤ w0.heap.size) {g c n : Nat} (hln : l.length = n) (hr : w'.ownsRow B te E.sz (.slice (some ⟨g, 0, none⟩) (n + 1) c) (n + 1) (css.flatten ++ cs)) (hg : w.grownBy w' v.ownBlock) (hw : v.ownBlock = some g ∨ g = w.heap.size + 1) :
 GrowOwn w' B te E (.slice (some ⟨g, 0, none⟩) (n + 1) c) (l ++ [d]) (css ++ [cs]) (bss ++ [bs]) := by
 subst hln; have lt0 := h.els.lt; have hv : ∀ k, v.ownBlock = some k → k < w0.heap.size := own_lt h.row; have hsz := hx.size; have ch : Chg (fun k => some k = v.ownBlock) w w' := Chg.of_grown hg; refine ⟨by simpa [List.flatten_append] using hr, ?_, ?_, ?_⟩
 · refine OwnEs.snoc ((h.els.chg (.of_ext hx) (S := fun _ => False) (fun _ _ h => h)).chg ch (fun b hb hk => (h.lo b hb).2 hk.symm)) (ho.chg ch fun b hb hk => ?_)
   have := hv b hk.symm; have := hf b hb; omega
 · rw [List.flatten_append, List.flatten_cons, List.flatten_nil, List.append_nil]
   exact nodup_app h.nodup hn lt0 hf
 · intro b hb
   rw [List.flatten_append, List.flatten_cons, List.flatten_nil, List.append_nil, List.mem_append] at hb
   have hlb : b < w.heap.size := by
    rcases hb with hb | hb
    · have := lt0 b hb; omega
    · exact ho.lt b hb
   refine ⟨?_, fun hk => ?_⟩
   · rcases hb with hb | hb
     · exact (h.lo b hb).1
     · have := hf b hb; omega
   · simp [Value.ownBlock] at hk; subst hk
     rcases hw with hw | hw
     · rcases hb with hb | hb
       · exact (h.lo _ hb).2 hw
       · have := hv _ hw; have := hf _ hb; omega
     · omega
theorem GrowOwn.own {w : World} {B : Nat} {te : TypeId} {E : Sh} {v : Value} {l : List E.T} {css : List (List Value)} {bss : List (List Nat)} (h : GrowOwn w B te E v l css bss) : ∃ bs, Own w (.sl E) [v] l bs ∧ bs.Nodup ∧ ∀ b ∈ bs, B ≤ b := by
 obtain ⟨h1, h2, h3, h4⟩ := h; have hrow := h1; obtain ⟨hl, hr⟩ := h1; rcases hr with ⟨rfl, h0⟩ | ⟨g, cap, cur, rfl, hg, hh, hnc, hm, hsz, ht⟩
 · have hl0 : l = [] := List.eq_nil_of_length_eq_zero h0
   subst hl0; have hb0 : bss = [] := List.eq_nil_of_length_eq_zero h2.2.1; have hc0 : css = [] := List.eq_nil_of_length_eq_zero h2.1; subst hb0; subst hc0; exact ⟨[], own_sl.2 ⟨none, 0, [], [], rfl, .inl ⟨rfl, rfl, rfl, rfl⟩, Nat.le_refl _, Nat.zero_le _, h2, rfl⟩, by simp, by simp⟩
 · refine ⟨g :: bss.flatten, own_sl.2 ⟨some ⟨g, 0, none⟩, cap, css, bss, rfl, ownRow_of hrow, hnc, hm, h2, rfl⟩, ?_, ?_⟩
   · rw [List.nodup_cons]; exact ⟨fun hb => (h4 g hb).2 rfl, h3⟩
   · intro b hb
     rcases List.mem_cons.1 hb with rfl | hb
     · exact hg
     · exact (h4 b hb).1
end Go.Proofs.YtlimabbeaimdgaaGreat
namespace Go.Proofs.YtlimabbeaimdgaaGreat
open Go.RowKit Rnd
/-! Greatest numbers. -/
def gi (xs : List Nat) : Nat → Nat
 | 0 => 0
 | j + 1 => if fgt .f32 (xs.getD j 0) (xs.getD (gi xs j) 0) then j else gi xs j
end Go.Proofs.YtlimabbeaimdgaaGreat
namespace Go.Proofs.YtlimabbeaimdgaaGreat
open Go.RowKit
def sM (xs : List Nat) : Nat := xs.getD (gi xs xs.length) 0
def sE (xs : List Nat) (i : Nat) : Nat := expF (fop .sub .f32 (xs.getD i 0) (sM xs))
def sO (xs : List Nat) (i : Nat) : Nat := fop .quo .f32 (sE xs i) (sumG (sE xs) xs.length)
theorem retFl_own {w w' : World} {xs : List Nat} {n : Nat} {q : Option Addr} {c : Nat} {e : Ending} {vs : List Value} (hl : xs.length = n) (h : w'.ownsRow w.heap.size 48 1 (.slice q n c) n vs) (hf : F32s vs xs) (he : e = .returned (.slice q n c)) (hx : Ext w w') : RetFl w xs e w' := by
 subst hl; exact ⟨q, c, vs, he, h, hf, hx⟩
section
variable {P : Program} {w wf : World} {ops : Array Oper} {rest : List Oper} {o : Oper} {a : Act} {Q : Act → Prop} {F : Option Tmp → World → World → Value → Prop}
theorem x_slice {t e s b : Nat} {z : Value} [T : SlTy P t e s z b] {x lo hi : Operand} (hw : Region.wanted o (yielded ops a.tmps) = true) (ho : o.op = .slice t x (some lo) (some hi) none) {p : Option Addr} {n c : Nat} {k1 k2 : IntKind} {li ui : Int} {l u : Nat}
 (hx : a.eval x = .slice p n c) (hlo : a.eval lo = .int k1 li) (hhi : a.eval hi = .int k2 ui) (h1 : li = l) (h2 : ui = u) (h3 : l ≤ u) (h4 : u ≤ c)
 (h : wpX P ops F w wf Q rest (a.put o.dst (.slice (subp p s l c) (u - l) (c - l)))) : wpX P ops F w wf Q (o :: rest) a := by
 subst h1; subst h2; exact x_pure hw (fun w1 _ => by simp [execOp, ho, hx, hlo, hhi, run_slice h3 h4]) h
end
theorem F32s.part {us : List Value} {xs : List Nat} (h : F32s us xs) (l u : Nat) : F32s ((us.take u).drop l) ((xs.take u).drop l) := by
 refine ⟨by simp [h.1], fun i hi => ?_⟩; simp only [List.length_drop, List.length_take] at hi; obtain ⟨b, h1, h2⟩ := h.2 (l + i) (by omega); refine ⟨b, ?_, ?_⟩
 · rw [List.getElem?_drop, List.getElem?_take_of_lt (by omega)]; exact h1
 · rw [h2, List.getD_eq_getElem?_getD, List.getD_eq_getElem?_getD, List.getElem?_drop, List.getElem?_take_of_lt (by omega)]
theorem layD_int {d : shLayer.T} (h : layD d = true) : (d.2.1.toNat : Int) = d.2.1 ∧ (d.2.2.1.toNat : Int) = d.2.2.1 ∧ d.2.1.toNat ≤ 8 ∧ 1 ≤ d.2.1.toNat ∧ d.2.2.1.toNat ≤ 8 ∧ 1 ≤ d.2.2.1.toNat := by
 unfold layD layB inB at h; simp only [Bool.and_eq_true, decide_eq_true_eq] at h; omega
abbrev shFloat32SS : Sh := .sl (.sl .flt)
-- the slice type is an instance of Ty
instance elFloat32SS : ElTy Tryz.prog 25 (.sl .flt) := ⟨by kernel_rfl, by kernel_rfl⟩
theorem eqFloat32SS_ok : EqOk 12 shFloat32SS := by
 intro cs cs' l w hu hv hn; obtain ⟨p, c, css, rfl, h2, h3, h4, h5, h6, h7⟩ := rep_sl hu; obtain ⟨q, d, css', rfl, g2, g3, g4, g5, g6, g7⟩ := rep_sl hv; have hle := Nat.le_trans (tot_len l) hn; generalize hL : l.length = n at *; have HL := hid hL; clear hL; simp only [ofCs, Sh.agg, List.headD_cons, Bool.false_eq_true, if_false]; go_enter Tryz.func12, Tryz.ntmps12; go_wp2; go_loopw [5] (fun iv wr => ∃ i : Nat, i ≤ n ∧ iv = .int .i64 i ∧ Ext w wr) (fun iv _ => n - (intOf iv).toNat)
 case atStart => exact ⟨0, by omega, rfl, Ext.refl w⟩
 case round =>
  obtain ⟨i, hi, rfl, he⟩ := hrel
  by_cases hlt : i < n
  · have hp' := (h2.ext he).ext (Ext.drew wr)
    have hq' := (g2.ext he).ext (Ext.drew wr); have hil : i < l.length := by rw [HL.out]; exact hlt
    obtain ⟨ci, hci, ri⟩ := h5.get i l[i] (by simp); obtain ⟨di, hdi, si⟩ := g5.get i l[i] (by simp); have hs1 := h2.some_of h6 (by decide) (show 0 < css.length by omega); have hs2 := g2.some_of g6 (by decide) (show 0 < css'.length by omega); have hb := Nat.le_trans (Nat.le_trans (Nat.le_add_right _ _) (tot_get l i hil)) hn; go_wp2_with fail; refine wp_region_xall (F := fun _ _ u => u = .bool true) (by kernel_rfl) (by kernel_rfl) (by kernel_rfl) ?_; intro wf hwf; refine x_mv rfl rfl rfl ?_; simp only [Act.put, ev_tmp, pu1, pu2, pu3, pu4, pu5]; refine x_mv rfl rfl rfl ?_; simp only [Act.put, ev_tmp, pu1, pu2, pu3, pu4, pu5]; refine x_idxloadE (s := (.sl .flt)) (j := i) rfl rfl (fun _ => rfl) rfl (fun _ => rfl) rfl rfl rfl hp' h6 h7 hlt hs1 hci ?_; simp only [Act.put, ev_tmp, pu1, pu2, pu3, pu4, pu5]; refine x_mv rfl rfl rfl ?_; simp only [Act.put, ev_tmp, pu1, pu2, pu3, pu4, pu5]; refine x_mv rfl rfl rfl ?_; simp only [Act.put, ev_tmp, pu1, pu2, pu3, pu4, pu5]; refine x_idxloadE (s := (.sl .flt)) (j := i) rfl rfl (fun _ => rfl) rfl (fun _ => rfl) rfl rfl rfl hq' g6 g7 hlt hs2 hdi ?_; simp only [Act.put, ev_tmp, pu1, pu2, pu3, pu4, pu5]; refine x_callf (f := 13) (args := #[ofCs (.sl .flt) ci, ofCs (.sl .flt) di]) rfl rfl Tryz.func13 rfl (by kernel_rfl) (by simp [Act.eval]) (fun w1 hw1 => (eqFloat32S_ok ci di l[i] w1 (((ri.ext he).ext (Ext.drew wr)).ext hw1) (((si.ext he).ext (Ext.drew wr)).ext hw1) hb).mono fun e w3 h => ⟨_, h.1, h.2, rfl⟩) ?_; rintro u w3 _ _ rfl
    simp only [Act.put, ev_tmp, pu1, pu2, pu3, pu4, pu5]; refine x_run rfl fun K hK w1 _ => ?_
    go_simp; refine hK _ ?_; clear hK K; refine x_nil ?_; have he' := (he.trans (Ext.drew wr)).trans hwf; clear hwf hp' hq' he; go_wp2; go_roundw
    case rel => exact ⟨i + 1, by omega, by go_num, he'⟩
    case measure => simp [intOf]; omega
  · obtain rfl : i = n := by omega
    go_wp2; go_ret; exact ⟨rfl, he⟩
theorem markFloat32SS_ok : MarkOk 18 shFloat32SS := by
 intro cs l bs k w hu hnd hk0 hk; obtain ⟨p, c, css, bss, rfl, h2, h3, h4, h5, rfl⟩ := own_sl.1 hu; have hle := Nat.le_trans h3 h4; have hk' : k + 64 * (tot (.sl (.sl .flt)) l : Int) ≤ 68719476736 := hk; have h6 := h5.all; have h7 := h5.1; obtain ⟨nd1, nd2, nd3, nd4⟩ := nodup_split hnd; generalize hL : l.length = n at *; have HL := hid hL; clear hL hu; unfold maxLen at hle; simp only [ofCs, Sh.agg, List.headD_cons, Bool.false_eq_true, if_false]; go_enter Tryz.func18, Tryz.ntmps18; go_wp2; go_loopw [1, 5] (fun kv iv wr => ∃ i : Nat, i ≤ n ∧ iv = .int .i64 i ∧ kv = .int .i64 (mkK (.sl .flt) l k i) ∧ OwnRow wr p n c css.flatten ∧ Hid (OwnEs wr (.sl .flt) css bss (mkTo (.sl .flt) l k i)) ∧ Chg (fun b => b ∈ blocksOf p ++ bss.flatten) w wr) (fun _ iv _ => n - (intOf iv).toNat)
 case atStart => exact ⟨0, by omega, rfl, by rw [mkK_zero], h2, by rw [mkTo_zero]; exact h5, Chg.refl _ _⟩
 case round =>
  clear h2 h5; obtain ⟨i, hi, rfl, rfl, h2, H5, hch⟩ := hrel
  by_cases hlt : i < n
  · have hil : i < l.length := by rw [HL.out]; exact hlt
    obtain ⟨b1, b2⟩ := mkK_bd (.sl .flt) (by decide) l k i hil; obtain ⟨k1, k2⟩ := mk_succ (.sl .flt) l k i hil; have hbl : bss.length = n := by have := H5.out.2.1; rw [length_mkTo, HL.out] at this; exact this
    have hci : css[i]? = some css[i] := by simp
    have hbi : bss[i]? = some bss[i] := by simp
    have ow := H5.out.2.2 i css[i] bss[i] l[i] hci hbi (mkTo_get _ _ _ _ hil); have hs1 := h2.cs.some_of h6 (by decide) (show 0 < css.length by omega); have K1 := hid k1; have K2 := hid k2; clear k1 k2; generalize mkK (.sl .flt) l k i = ki at *; go_wp2_with (refine wl_idxloadE (s := (.sl .flt)) (j := i) rfl rfl rfl rfl (fun _ => rfl) rfl rfl rfl h2.cs h6 h7 hlt hs1 hci ?_); refine (markFloat32S_ok css[i] l[i] bss[i] ki _ ow (flat_nodup nd2 hbi) (by omega) (by omega)).mono ?_; rintro e w1 ⟨rfl, ow1, c1⟩
    have hin : ∀ b ∈ bss[i], b ∈ bss.flatten := fun b hb => List.mem_flatten.2 ⟨_, List.getElem_mem _, hb⟩
    have own2 := h2.chg c1 (fun b hb h => nd3 b hb (hin b h)); have es2 := H5.out.upd c1 hbi (fun j bj hj hbj => flat_apart nd2 hbi hbj hj) ow1; have hc2 := hch.trans (c1.mono fun b hb => List.mem_append.2 (.inr (hin b hb))); have hset : css.set i css[i] = css := List.set_getElem_self _; go_wp2; go_roundw
    case rel => exact ⟨i + 1, by omega, by go_num, by rw [K1.out]; rfl, own2, by rw [K2.out]; rw [hset] at es2; exact es2, hc2⟩
    case measure => simp [intOf]; omega
  · obtain rfl : i = n := by omega
    go_wp2; go_ret; have k1 := HL.out; have k3 : mkTo (.sl .flt) l k i = (mkV shFloat32SS l k).1 := by rw [← k1]; exact mkTo_all _ l k
    have k4 : mkK (.sl .flt) l k i = (mkV shFloat32SS l k).2 := by rw [← k1]; exact mkK_all _ l k
    have k5 : (mkV shFloat32SS l k).1.length = i := by rw [← k3, length_mkTo]; exact k1
    refine ⟨by rw [k4]; rfl, own_sl.2 ⟨p, c, css, bss, by rw [k5], by rw [k5]; exact h2, by rw [k5]; exact h3, h4, by rw [← k3]; exact H5.out, rfl⟩, hch⟩
theorem heldFloat32SS_ok : HeldOk 20 shFloat32SS := by
 intro cs l k w hu hk0 hk; have hm : (mkV shFloat32SS l k).1.length = l.length := length_carry _ l k; obtain ⟨p, c, css, rfl, h2, h3, h4, h5, h6, h7⟩ := rep_sl hu; have hle := Nat.le_trans h3 h4; have hk' : k + 64 * (tot (.sl (.sl .flt)) l : Int) ≤ 68719476736 := hk; rw [hm] at h3 hle h7 ⊢; generalize hL : l.length = n at *; have HL := hid hL; clear hL hu; unfold maxLen at hle; simp only [ofCs, Sh.agg, List.headD_cons, Bool.false_eq_true, if_false]; go_enter Tryz.func20, Tryz.ntmps20; go_wp2; go_loopw [1, 5] (fun kv iv wr => ∃ i : Nat, i ≤ n ∧ iv = .int .i64 i ∧ kv = .int .i64 (mkK (.sl .flt) l k i) ∧ Ext w wr) (fun _ iv _ => n - (intOf iv).toNat)
 case atStart => exact ⟨0, by omega, rfl, by rw [mkK_zero], Ext.refl _⟩
 case round =>
  obtain ⟨i, hi, rfl, rfl, he⟩ := hrel
  by_cases hlt : i < n
  · have hil : i < l.length := by rw [HL.out]; exact hlt
    obtain ⟨b1, b2⟩ := mkK_bd (.sl .flt) (by decide) l k i hil; obtain ⟨k1, _⟩ := mk_succ (.sl .flt) l k i hil; obtain ⟨ci, hci, ri⟩ := h5.get i _ (mkV_get (.sl .flt) l k i hil); have hs1 := h2.some_of h6 (by decide) (show 0 < css.length by omega); have hp' := h2.ext he; have K1 := hid k1; have hki := (mkE_bd (.sl .flt) (by decide) l[i] (mkK (.sl .flt) l k i)).1; clear k1; generalize mkK (.sl .flt) l k i = ki at *; go_wp2_with (refine wl_idxloadE (s := (.sl .flt)) (j := i) rfl rfl rfl rfl (fun _ => rfl) rfl rfl rfl hp' h6 h7 hlt hs1 hci ?_); refine (heldFloat32S_ok ci l[i] ki _ (ri.ext he) (by omega) (by omega)).mono ?_; rintro e w1 ⟨rfl, e1⟩
    have hkj : 0 ≤ (mkV (.sl .flt) l[i] ki).2 := Int.le_trans (Int.le_trans hk0 b1) hki; go_wp2; go_roundw
    case rel => exact ⟨i + 1, by omega, by go_num, by rw [K1.out]; rfl, he.trans e1⟩
    case measure => simp [intOf]; omega
  · obtain rfl : i = n := by omega
    go_wp2; go_ret; have k1 := HL.out; have k4 : mkK (.sl .flt) l k i = (mkV shFloat32SS l k).2 := by rw [← k1]; exact mkK_all _ l k
    exact ⟨by rw [k4]; rfl, he⟩
structure Lays (w : World) (p : Option Addr) (n : Nat) (css : List (List Value)) (l : List shLayer.T) : Prop where
 cs : Cs w p css.flatten
 all : All2 (Rep w shLayer) css l
 size : ∀ c ∈ css, c.length = shLayer.sz
 one : ∀ c ∈ css, ∀ u ∈ c, u.oneCell' = true
 len : l.length = n
 cnt : css.length = n
 fit : ∀ x ∈ l, Fit shLayer x
 le : n ≤ maxLen
theorem Lays.ext {w w' : World} {p : Option Addr} {n : Nat} {css : List (List Value)} {l : List shLayer.T} (h : Lays w p n css l) (e : Ext w w') : Lays w' p n css l :=
 ⟨h.cs.ext e, h.all.imp fun _ _ => Rep.ext e, h.size, h.one, h.len, h.cnt, h.fit, h.le⟩
theorem lays_of {w : World} {v : Value} {l : List shLayer.T} (h : Rep w (.sl shLayer) [v] l) (hf : Fit (.sl shLayer) l) : ∃ p c css, v = .slice p l.length c ∧ Lays w p l.length css l := by
 obtain ⟨p, c, css, h1, a2, a3, a4, a5⟩ := h
 cases h1
 refine ⟨p, c, css, rfl, a2, a5, fun c hc => ?_, fun c hc => ?_, rfl, a5.length, hf, Nat.le_trans a3 a4⟩
 · obtain ⟨i, hi, rfl⟩ := List.mem_iff_getElem.1 hc; obtain ⟨_, h⟩ := a5.get' i (by rw [← a5.length]; exact hi); exact h.size
 · obtain ⟨i, hi, rfl⟩ := List.mem_iff_getElem.1 hc; obtain ⟨_, h⟩ := a5.get' i (by rw [← a5.length]; exact hi); exact h.one
theorem ValidModel_any (p : Option Addr) (n c : Nat) (l : List shLayer.T) (css : List (List Value)) (w : World) (hn : l.length = n) (hm : n ≤ maxLen)
 (a2 : Cs w p css.flatten) (a5 : All2 (Rep w shLayer) css l) (a6 : ∀ c ∈ css, c.length = shLayer.sz) (a7 : css.length = n) :
 Calls Tryz.prog 56 #[.agg #[.slice p n c]] w (RetB w (modB l)) := by
 unfold maxLen at hm; unfold modB; generalize hG : modGo none l = G; have HG := hid hG; have HL := hid hn; clear hG; go_enter Tryz.func56, Tryz.ntmps56; go_wp2; go_loopw [8] (fun iv wr => ∃ (i : Nat), i ≤ n ∧ iv = .int .i64 i ∧ Hid (modGo (prevL l i) (l.drop i) = G) ∧ Ext w wr ∧ wr.cell? ⟨w.heap.size, 0, none⟩ = some (.slice p n c) ∧ w.heap.size < wr.heap.size) (fun iv _ => n - (intOf iv).toNat)
 case atStart => exact ⟨0, by omega, rfl, by simpa [Hid, prevL] using HG.out, Ext.alloc _ _, by simp, by simp⟩
 case round =>
  obtain ⟨i, hi, rfl, HI, he, g0, hsz⟩ := hrel
  by_cases hlt : i < n
  · have hil : i < l.length := by rw [HL.out]; exact hlt
    obtain ⟨ci, hci, ri⟩ := a5.get i l[i] (by simp); obtain ⟨pw, cw, pb, cb, rfl, l1, l2⟩ := lay_vals ri; have hst := HI.out; rw [modGo_at hil] at hst; have hs1 := a2.some_of a6 (by decide) (show 0 < css.length by omega); have hp := a2.ext he; generalize hD : l[i] = d at *; have HD := hid hD; clear hD; have C := hid (fun w1 => calls_retB (ValidLayer_any d.1 d.2.1 d.2.2.1 pw pb _ cw _ cb w1 l1 l2)); have hne : w.heap.size ≠ wr.heap.size := by omega
    cases hb : layD d
    · have hG : G = false := by rw [← hst, hb]; rfl
      subst hG; unfold layD at hb; rw [hb] at C; clear hb hst; go_wp2_with ((with_reducible show gx2); refine wl_idxloadE (s := shLayer) (j := i) rfl rfl rfl rfl (fun _ => rfl) rfl rfl rfl hp a6 a7 hlt hs1 hci ?_; simp only [ofCs, Sh.agg, if_true]); have E1 := (Ext.alloc wr (.cells #[.int .i64 d.1, .int .i64 d.2.1, .int .i64 d.2.2.1, .slice pw (List.length d.2.2.2.1) cw, .slice pb (List.length d.2.2.2.2.1) cb] 100)).trans (Ext.drew _); have gd := E1.cell g0; have hpd := hp.ext E1; obtain ⟨F, hF⟩ : ∃ F : Option Tmp → World → Value → Prop, F = fun _ _ u => u = .bool false := ⟨_, rfl⟩
      have HF := hid hF; clear hF; refine wp_region_xall (F := F) (by kernel_rfl) (by kernel_rfl) (by kernel_rfl) ?_; intro wf hwf
      repeat (first
       | ((first | (refine x_skip rfl ?_) | (refine x_mv rfl rfl rfl ?_) | (refine x_as rfl rfl rfl ?_) | ((with_reducible show gx4); refine x_callf (f := 82) (args := #[.agg #[.int .i64 d.1, .int .i64 d.2.1, .int .i64 d.2.2.1, .slice pw (List.length d.2.2.2.1) cw, .slice pb (List.length d.2.2.2.2.1) cb]]) rfl rfl Tryz.func82 rfl (by kernel_rfl) ?_ ?_ ?_; (focus (simp [Act.eval]; done)); (focus (intro w1 hw1; exact (by rw [HF.out]; exact C.out w1))); rintro u w3 e3 e4 hu; simp only [HF.out] at hu; subst hu)); simp only [Act.put, ev_tmp, pu1, pu2, pu3, pu4, pu5])
       | (refine x_run rfl fun K hK w1 hw1 => ?_; have k0 := hw1.cellOf (b := wr.heap.size) (by simp); have k1 := hw1.cell (gd); go_simp; refine hK _ ?_; clear hK K k0 k1 hw1 w1))
      refine x_nil ?_; go_wp2; go_ret; exact ⟨ret_bool (by simp), (he.trans E1).trans hwf⟩
    have hb2 := hb; unfold layD at hb2; rw [hb2] at C; rw [hb, Bool.true_and] at hst; clear hb hb2; rcases Nat.eq_zero_or_pos i with h0 | h0
    · subst h0
      have hst2 : modGo (prevL l 1) (l.drop 1) = G := by rw [← hst]; simp [linkL, prevL]
      have Hst := hid hst2; clear hst hst2; go_wp2_with ((with_reducible show gx2); refine wl_idxloadE (s := shLayer) (j := 0) rfl rfl rfl rfl (fun _ => rfl) rfl rfl rfl hp a6 a7 hlt hs1 hci ?_; simp only [ofCs, Sh.agg, if_true]); have E1 := (Ext.alloc wr (.cells #[.int .i64 d.1, .int .i64 d.2.1, .int .i64 d.2.2.1, .slice pw (List.length d.2.2.2.1) cw, .slice pb (List.length d.2.2.2.2.1) cb] 100)).trans (Ext.drew _); have gd := E1.cell g0; have hpd := hp.ext E1; obtain ⟨F, hF⟩ : ∃ F : Option Tmp → World → Value → Prop, F = fun _ _ u => u = .bool true := ⟨_, rfl⟩
      have HF := hid hF; clear hF; refine wp_region_xall (F := F) (by kernel_rfl) (by kernel_rfl) (by kernel_rfl) ?_; intro wf hwf
      repeat (first
       | ((first | (refine x_skip rfl ?_) | (refine x_mv rfl rfl rfl ?_) | (refine x_as rfl rfl rfl ?_) | ((with_reducible show gx4); refine x_callf (f := 82) (args := #[.agg #[.int .i64 d.1, .int .i64 d.2.1, .int .i64 d.2.2.1, .slice pw (List.length d.2.2.2.1) cw, .slice pb (List.length d.2.2.2.2.1) cb]]) rfl rfl Tryz.func82 rfl (by kernel_rfl) ?_ ?_ ?_; (focus (simp [Act.eval]; done)); (focus (intro w1 hw1; exact (by rw [HF.out]; exact C.out w1))); rintro u w3 e3 e4 hu; simp only [HF.out] at hu; subst hu)); simp only [Act.put, ev_tmp, pu1, pu2, pu3, pu4, pu5])
       | (refine x_run rfl fun K hK w1 hw1 => ?_; have k0 := hw1.cellOf (b := wr.heap.size) (by simp); have k1 := hw1.cell (gd); go_simp; refine hK _ ?_; clear hK K k0 k1 hw1 w1))
      refine x_nil ?_; go_wp2; go_roundw
      case rel => exact ⟨1, by omega, by go_num, Hst.out, (he.trans E1).trans hwf, hwf.cell gd, by have := hwf.size; simp at this; omega⟩
      case measure => simp [intOf]; omega
    · obtain ⟨j, rfl⟩ : ∃ j, i = j + 1 := ⟨i - 1, by omega⟩
      obtain ⟨cj, hcj, rj⟩ := a5.get j l[j] (by simp); obtain ⟨qw, dw, qb, db, rfl, _, _⟩ := lay_vals rj; have hlk : linkL (prevL l (j + 1)) d.2.1 = decide (d.2.1 = layO l[j]) := by simp [prevL, linkL, show j < l.length by omega]
      rw [hlk] at hst; have hA : IntKind.i64.wrap (((j + 1 : Nat) : Int) - 1) = (j : Int) := by rw [show ((j + 1 : Nat) : Int) - 1 = (j : Int) by omega]; exact wrap_in _ (by omega) (by omega)
      have hB : IntKind.i64.wrap ((j : Int) + 1 - 1) = (j : Int) := by rw [show (j : Int) + 1 - 1 = (j : Int) by omega]; exact wrap_in _ (by omega) (by omega)
      have hC : IntKind.i64.wrap (j : Int) = (j : Int) := wrap_in _ (by omega) (by omega); clear hlk
      by_cases hq : d.2.1 = layO l[j]
      · have hst2 : modGo (prevL l (j + 1 + 1)) (l.drop (j + 1 + 1)) = G := by rw [← hst]; simp [hq]
        have Hst := hid hst2; have Q := bne_f hq; unfold layO at Q; clear hst hst2 hq; go_wp2_with ((with_reducible show gx2); refine wl_idxloadE (s := shLayer) (j := j + 1) rfl rfl rfl rfl (fun _ => rfl) rfl rfl rfl hp a6 a7 hlt hs1 hci ?_; simp only [ofCs, Sh.agg, if_true]); have E1 := (Ext.alloc wr (.cells #[.int .i64 d.1, .int .i64 d.2.1, .int .i64 d.2.2.1, .slice pw (List.length d.2.2.2.1) cw, .slice pb (List.length d.2.2.2.2.1) cb] 100)).trans (Ext.drew _); have gd := E1.cell g0; have hpd := hp.ext E1; obtain ⟨F, hF⟩ : ∃ F : Option Tmp → World → Value → Prop, F = fun _ _ u => u = .bool true := ⟨_, rfl⟩
        have HF := hid hF; clear hF; refine wp_region_xall (F := F) (by kernel_rfl) (by kernel_rfl) (by kernel_rfl) ?_; intro wf hwf
        repeat (first
         | ((first | (refine x_skip rfl ?_) | (refine x_mv rfl rfl rfl ?_) | (refine x_as rfl rfl rfl ?_) | ((with_reducible show gx6); refine x_ldField (f := 2) (j := j) (off := 2) rfl rfl (fun _ => rfl) rfl (fun _ _ => rfl) rfl (fun _ => rfl) (fun _ _ => rfl) fo_implLayer_2 rfl rfl (by omega) hpd a6 a7 (by omega) hs1 hcj rfl ?_) | ((with_reducible show gx4); refine x_callf (f := 82) (args := #[.agg #[.int .i64 d.1, .int .i64 d.2.1, .int .i64 d.2.2.1, .slice pw (List.length d.2.2.2.1) cw, .slice pb (List.length d.2.2.2.2.1) cb]]) rfl rfl Tryz.func82 rfl (by kernel_rfl) ?_ ?_ ?_; (focus (simp [Act.eval]; done)); (focus (intro w1 hw1; exact (by rw [HF.out]; exact C.out w1))); rintro u w3 e3 e4 hu; simp only [HF.out] at hu; subst hu)); simp only [Act.put, ev_tmp, pu1, pu2, pu3, pu4, pu5])
         | (refine x_run rfl fun K hK w1 hw1 => ?_; have k0 := hw1.cellOf (b := wr.heap.size) (by simp); have k1 := hw1.cell (gd); go_simp; refine hK _ ?_; clear hK K k0 k1 hw1 w1))
        refine x_nil ?_; go_wp2; go_roundw
        case rel => exact ⟨j + 1 + 1, by omega, by go_num, Hst.out, (he.trans E1).trans hwf, hwf.cell gd, by have := hwf.size; simp at this; omega⟩
        case measure => simp [intOf]; omega
      · have hG : G = false := by rw [← hst]; simp [hq]
        subst hG; have Q := bne_t hq; unfold layO at Q; clear hst hq; go_wp2_with ((with_reducible show gx2); refine wl_idxloadE (s := shLayer) (j := j + 1) rfl rfl rfl rfl (fun _ => rfl) rfl rfl rfl hp a6 a7 hlt hs1 hci ?_; simp only [ofCs, Sh.agg, if_true]); have E1 := (Ext.alloc wr (.cells #[.int .i64 d.1, .int .i64 d.2.1, .int .i64 d.2.2.1, .slice pw (List.length d.2.2.2.1) cw, .slice pb (List.length d.2.2.2.2.1) cb] 100)).trans (Ext.drew _); have gd := E1.cell g0; have hpd := hp.ext E1; obtain ⟨F, hF⟩ : ∃ F : Option Tmp → World → Value → Prop, F = fun _ _ u => u = .bool true := ⟨_, rfl⟩
        have HF := hid hF; clear hF; refine wp_region_xall (F := F) (by kernel_rfl) (by kernel_rfl) (by kernel_rfl) ?_; intro wf hwf
        repeat (first
         | ((first | (refine x_skip rfl ?_) | (refine x_mv rfl rfl rfl ?_) | (refine x_as rfl rfl rfl ?_) | ((with_reducible show gx6); refine x_ldField (f := 2) (j := j) (off := 2) rfl rfl (fun _ => rfl) rfl (fun _ _ => rfl) rfl (fun _ => rfl) (fun _ _ => rfl) fo_implLayer_2 rfl rfl (by omega) hpd a6 a7 (by omega) hs1 hcj rfl ?_) | ((with_reducible show gx4); refine x_callf (f := 82) (args := #[.agg #[.int .i64 d.1, .int .i64 d.2.1, .int .i64 d.2.2.1, .slice pw (List.length d.2.2.2.1) cw, .slice pb (List.length d.2.2.2.2.1) cb]]) rfl rfl Tryz.func82 rfl (by kernel_rfl) ?_ ?_ ?_; (focus (simp [Act.eval]; done)); (focus (intro w1 hw1; exact (by rw [HF.out]; exact C.out w1))); rintro u w3 e3 e4 hu; simp only [HF.out] at hu; subst hu)); simp only [Act.put, ev_tmp, pu1, pu2, pu3, pu4, pu5])
         | (refine x_run rfl fun K hK w1 hw1 => ?_; have k0 := hw1.cellOf (b := wr.heap.size) (by simp); have k1 := hw1.cell (gd); go_simp; refine hK _ ?_; clear hK K k0 k1 hw1 w1))
        refine x_nil ?_; go_wp2; go_ret; exact ⟨ret_bool (by simp), (he.trans E1).trans hwf⟩
  · obtain rfl : i = n := by omega
    have hst := HI.out; rw [List.drop_of_length_le (by rw [HL.out]; exact Nat.le_refl _)] at hst; have hst2 : G = true := by rw [← hst]; simp [modGo]
    subst hst2; have hL := HL.out
    by_cases h1 : 1 ≤ i
    · by_cases h6 : i ≤ 6
      · have h6' : (i : Int) ≤ 6 := by omega
        go_wp2; go_ret; exact ⟨ret_bool (by first | rfl | (rw [hL]; simp [h1, h6, h6'])), he⟩
      · have h6' : ¬ (i : Int) ≤ 6 := by omega
        go_wp2; go_ret; exact ⟨ret_bool (by first | rfl | (rw [hL]; simp [h1, h6, h6'])), he⟩
    · go_wp2
      go_ret; exact ⟨ret_bool (by first | rfl | (rw [hL]; simp [h1])), he⟩
def inL (l : List shLayer.T) (i : Nat) : Int := (l[i]?.map fun d => d.2.1).getD 0
def outL (l : List shLayer.T) : Int := (l[l.length - 1]?.map fun d => d.2.2.1).getD 0
theorem modGo_all {l : List shLayer.T} : ∀ {i : Nat} {p : Option Int}, modGo p l = true → ∀ (h : i < l.length), layD l[i] = true ∧ ∀ (h' : i + 1 < l.length), l[i + 1].2.1 = l[i].2.2.1 := by
 induction l with
 | nil => intro i p _ h; simp at h
 | cons d t ih =>
   intro i p hm h; simp only [modGo, Bool.and_eq_true] at hm; obtain ⟨h1, h2, h3⟩ := hm
   cases i with
   | zero =>
     refine ⟨h1, fun h' => ?_⟩
     cases t with
     | nil => simp at h'
     | cons d2 t2 =>
       simp only [modGo, Bool.and_eq_true, linkL, decide_eq_true_eq] at h3; exact h3.2.1
   | succ i =>
     have := ih (i := i) h3 (by simpa using h)
     simpa using this
structure ModOk (l : List shLayer.T) : Prop where
 pos : 1 ≤ l.length
 few : l.length ≤ 6
 lay : ∀ i (h : i < l.length), layD l[i] = true
 link : ∀ i (h : i + 1 < l.length), l[i + 1].2.1 = (l[i]'(by omega)).2.2.1
theorem modOk {l : List shLayer.T} (h : modB l = true) : ModOk l := by
 unfold modB at h; simp only [Bool.and_eq_true, decide_eq_true_eq] at h; obtain ⟨h1, h2, h3⟩ := h; exact ⟨h1, h2, fun i hi => (modGo_all h3 hi).1, fun i hi => (modGo_all h3 (by omega)).2 hi⟩
theorem l02Own_any (p : Option Addr) (n c : Nat) (us : List Value) (xs : List Nat) (w : World) (hx : xs.length = n) (hn : n ≤ 1073741824) (hc : n ≤ c) (hp : Cs w p us) (hf : F32s us xs) : Calls Tryz.prog 77 #[.slice p n c] w (RetFl w xs) := by
 have hstart : (w.alloc (.cells #[] 48)).ownsRow w.heap.size 48 1 (.slice (some ⟨w.heap.size, 0, none⟩) 0 0) 0 [] := World.ownsRow_made w #[] 0 (Nat.le_refl _) (by decide) rfl; have e0 := Ext.alloc w (.cells #[] 48); have o1 := hid hf.one; have u1 := hf.1; have U1 := hid u1; have HX := hid hx; clear hx u1; go_enter Tryz.func77, Tryz.ntmps77; go_wp2_with ((with_reducible show gx7); refine wl_appz rfl rfl rfl rfl hstart (hp.ext e0) (by rw [U1.out, HX.out, Nat.mul_one]) hc o1.out (by unfold maxLen; omega) (by omega) (by simp) ?_; intro v1 w1 own1 g1); go_ret; rw [Nat.zero_add, List.nil_append] at own1; exact retFl_of HX.out own1 hf rfl (e0.grown g1 (fun k hk => own_le hstart k hk))
theorem Lays.at {w : World} {p : Option Addr} {n : Nat} {css : List (List Value)} {l : List shLayer.T} (h : Lays w p n css l) {i : Nat} (hi : i < n) : ∃ ci, css[i]? = some ci ∧ ci[1]? = some (.int .i64 (inL l i)) ∧ ci[2]? = some (.int .i64 ((l[i]?.map fun d => d.2.2.1).getD 0)) ∧ p.isSome = true := by
 have hl := h.len; obtain ⟨ci, hci, ri⟩ := h.all.get i (l[i]'(by omega)) (by simp); have hs := h.cs.some_of h.size (by decide) (show i < css.length by rw [h.cnt]; exact hi); obtain ⟨pw, cw, pb, cb, rfl, _, _⟩ := lay_vals ri; exact ⟨_, hci, by unfold inL; simp [show i < l.length by omega], by simp [show i < l.length by omega], hs⟩
theorem in_any (p : Option Addr) (n c : Nat) (css : List (List Value)) (l : List shLayer.T) (w : World) (L : Lays w p n css l) (h1 : 1 ≤ n) : Calls Tryz.prog 58 #[.agg #[.slice p n c]] w fun e w' => e = .returned (.int .i64 (inL l 0)) ∧ Ext w w' := by
 obtain ⟨ci, k1, k2, _, k4⟩ := L.at (i := 0) (by omega); have l1 := L.cs.ext (Ext.alloc w (.cells #[.slice p n c] 35)); have l3 := L.size; have l5 := hid L.cnt; generalize inL l 0 = v at *; clear L; have K1 := hid k1; have K2 := hid k2; clear k1 k2; go_enter Tryz.func58, Tryz.ntmps58; go_wp2_with ((with_reducible show gx8); refine wl_ldField (f := 1) (off := 1) (j := 0) rfl rfl rfl rfl rfl rfl (fun _ => rfl) (fun _ _ => rfl) fo_implLayer_1 rfl rfl rfl l1 l3 l5.out (by omega) k4 K1.out K2.out ?_); go_ret; exact ⟨rfl, Ext.alloc _ _⟩
theorem outL_eq {l : List shLayer.T} {n : Nat} (h : l.length = n) : ((l[n - 1]?.map fun d => d.2.2.1).getD 0) = outL l := by subst h; rfl
theorem out_any (p : Option Addr) (n c : Nat) (css : List (List Value)) (l : List shLayer.T) (w : World) (L : Lays w p n css l) (h1 : 1 ≤ n) : Calls Tryz.prog 59 #[.agg #[.slice p n c]] w fun e w' => e = .returned (.int .i64 (outL l)) ∧ Ext w w' := by
 obtain ⟨ci, k1, _, k2, k4⟩ := L.at (i := n - 1) (by omega); rw [outL_eq L.len] at k2; have hn := L.le; unfold maxLen at hn; have l1 := L.cs.ext (Ext.alloc w (.cells #[.slice p n c] 35)); have l3 := L.size; have l5 := hid L.cnt; generalize outL l = v at *; clear L; have K1 := hid k1; have K2 := hid k2; clear k1 k2; go_enter Tryz.func59, Tryz.ntmps59; go_wp2_with ((with_reducible show gx8); refine wl_ldField (f := 2) (off := 2) (j := n - 1) rfl rfl rfl rfl rfl rfl (fun _ => rfl) (fun _ _ => rfl) fo_implLayer_2 rfl rfl (by omega) l1 l3 l5.out (by omega) k4 K1.out K2.out ?_); go_ret; exact ⟨rfl, Ext.alloc _ _⟩
def rowT (xs : List Nat) (c i : Nat) : List Nat := (xs.take ((i + 1) * c)).drop (i * c)
theorem row_le {r c i : Nat} (hi : i < r) : (i + 1) * c ≤ r * c := Nat.mul_le_mul_right c hi
theorem rowT_len {xs : List Nat} {c i r : Nat} (h : xs.length = r * c) (hi : i < r) : (rowT xs c i).length = c := by
 unfold rowT; rw [List.length_drop, List.length_take, h, Nat.min_eq_left (row_le hi), Nat.add_mul]; omega
theorem cell_le {R C i : Nat} (hi : i < R) (hR : R ≤ 16) (hC : C ≤ 16) : (i + 1) * C ≤ R * C ∧ R * C ≤ 256 ∧ i * C ≤ (i + 1) * C ∧ (i + 1) * C - i * C = C := by
 have h1 := row_le (c := C) hi; have h2 := Nat.mul_le_mul hR hC; rw [Nat.add_mul] at *; omega
theorem own_ten {w : World} {r c : Int} {q : Option Addr} {n cp : Nat} {xs : List Nat} {bs : List Nat} (e : xs.length = n) (h : Own w (.sl .flt) [.slice q n cp] xs bs) : Own w shTensor [.int .i64 r, .int .i64 c, .slice q n cp] (r, c, xs, ()) bs := by
 subst e; exact ⟨[.int .i64 r], [.int .i64 c, .slice q xs.length cp], [], bs, rfl, ⟨rfl, rfl⟩, ⟨[.int .i64 c], [.slice q xs.length cp], [], bs, rfl, ⟨rfl, rfl⟩, ⟨[.slice q xs.length cp], [], bs, [], rfl, h, ⟨rfl, rfl⟩, by simp⟩, rfl⟩, rfl⟩
theorem ten_vals {w : World} {cs : List Value} {d : shTensor.T} (h : Rep w shTensor cs d) : ∃ p c us, cs = [.int .i64 d.1, .int .i64 d.2.1, .slice p d.2.2.1.length c] ∧ Cs w p us ∧ F32s us d.2.2.1 ∧ (d.2.2.1 : List Nat).length ≤ c ∧ c ≤ maxLen := by
 obtain ⟨d1, d2, d3, _⟩ := d; obtain ⟨_, _, rfl, rfl, _, _, rfl, rfl, _, _, rfl, h3, rfl⟩ := h; obtain ⟨p, c, us, rfl, hp, hf, hc, hn⟩ := rep_flts.1 h3; exact ⟨p, c, us, rfl, hp, hf, hc, hn⟩
theorem retFl_nil {w w' : World} {e : Ending} (he : e = .returned (.slice none 0 0)) (hx : Ext w w') : RetFl w [] e w' :=
 ⟨none, 0, [], he, ⟨rfl, .inl ⟨rfl, rfl⟩⟩, F32s.nil, hx⟩
theorem cloneF_any (p : Option Addr) (n c : Nat) (us : List Value) (xs : List Nat) (w : World) (hx : xs.length = n) (hn : n ≤ 1073741824) (hc : n ≤ c) (hp : Cs w p us) (hf : F32s us xs) : Calls Tryz.prog 71 #[.slice p n c] w (RetFl w xs) := by
 have o1 := hid hf.one; have u1 := hf.1
 cases p with
 | none =>
   have h0 : us = [] := Classical.byContradiction fun h => by have := hp.isS h; simp at this
   subst h0; obtain rfl : xs = [] := List.eq_nil_of_length_eq_zero (by simpa using u1.symm); obtain rfl : n = 0 := by simpa using hx.symm
   clear hp hf o1 u1; go_enter Tryz.func71, Tryz.ntmps71; go_wp2; go_ret; exact retFl_nil rfl (Ext.refl _)
 | some ad =>
   have hstart : (w.alloc (.cells #[] 48)).ownsRow w.heap.size 48 1 (.slice (some ⟨w.heap.size, 0, none⟩) 0 0) 0 [] := World.ownsRow_made w #[] 0 (Nat.le_refl _) (by decide) rfl; have e0 := Ext.alloc w (.cells #[] 48); have HX := hid hx; have U1 := hid u1; clear hx u1; go_enter Tryz.func71, Tryz.ntmps71; go_wp2_with ((with_reducible show gx7); refine wl_appz rfl rfl rfl rfl hstart (hp.ext e0) (by rw [U1.out, HX.out, Nat.mul_one]) hc o1.out (by unfold maxLen; omega) (by omega) (by simp) ?_; intro v1 w1 own1 g1); go_ret; rw [Nat.zero_add, List.nil_append] at own1; exact retFl_of HX.out own1 hf rfl (e0.grown g1 (fun k hk => own_le hstart k hk))
theorem row_any (R C i n cp : Nat) (p : Option Addr) (w : World) (hi : i < R) (hR : R ≤ 16) (hC : C ≤ 16) (hn : n = R * C) (hcp : n ≤ cp) :
 Calls Tryz.prog 124 #[.agg #[.int .i64 R, .int .i64 C, .slice p n cp], .int .i64 i] w fun e w' => e = .returned (.slice (subp p 1 (i * C) cp) C (cp - i * C)) ∧ Ext w w' := by
 obtain ⟨h1, h2, h3, h4⟩ := cell_le (C := C) hi hR hC; have q1 : IntKind.i64.wrap ((i : Int) * C) = ((i * C : Nat) : Int) := by rw [← Int.natCast_mul]; exact wrap_in _ (by omega) (by omega)
 have q2 : IntKind.i64.wrap ((i : Int) + 1) = ((i + 1 : Nat) : Int) := by rw [show (i : Int) + 1 = ((i + 1 : Nat) : Int) by omega]; exact wrap_in _ (by omega) (by omega)
 have q3 : IntKind.i64.wrap (((i : Int) + 1) * C) = (((i + 1) * C : Nat) : Int) := by rw [show ((i : Int) + 1) * C = (((i + 1) * C : Nat) : Int) by push_cast; rfl]; exact wrap_in _ (by omega) (by omega)
 generalize hA : i * C = A at *; generalize hB : (i + 1) * C = B at *; have h5 : A ≤ B := h3; have h6 : B ≤ cp := by omega
 have H4 := hid h4; clear hA hB; go_enter Tryz.func124, Tryz.ntmps124; go_wp2_with (refine wl_slice (l := A) (u := B) rfl rfl rfl rfl rfl (by first | rfl | exact q1) (by first | rfl | exact q3) h5 h6 ?_); go_ret; exact ⟨rfl, Ext.alloc _ _⟩
def IsFl (B : Nat) (xs : List Nat) (w : World) (u : Value) : Prop := ∃ q c vs, u = .slice q xs.length c ∧ w.ownsRow B 48 1 (.slice q xs.length c) xs.length vs ∧ F32s vs xs
theorem IsFl.base {B B' : Nat} {xs : List Nat} {w : World} {u : Value} (h : IsFl B xs w u) (hB : B' ≤ B) : IsFl B' xs w u := by
 obtain ⟨q, c, vs, h1, h2, h3⟩ := h; exact ⟨q, c, vs, h1, own_base h2 hB, h3⟩
theorem RetFl.is {w w' : World} {xs : List Nat} {e : Ending} (h : RetFl w xs e w') : ∃ u, e = .returned u ∧ Ext w w' ∧ IsFl w.heap.size xs w' u := by
 obtain ⟨q, c, vs, he, h2, h3, hx⟩ := h; exact ⟨_, he, hx, q, c, vs, rfl, h2, h3⟩
theorem calls_fl {P : Program} {f : Nat} {xs : Array Value} {wB w1 : World} {ys : List Nat} (hB : Ext wB w1) (h : Calls P f xs w1 (RetFl w1 ys)) : Calls P f xs w1 fun e w3 => ∃ u, e = .returned u ∧ Ext w1 w3 ∧ IsFl wB.heap.size ys w3 u :=
 h.mono fun e w3 h => by
  obtain ⟨u, h1, h2, h3⟩ := h.is; exact ⟨u, h1, h2, h3.base hB.size⟩
theorem row_cs {w : World} {p : Option Addr} {us : List Value} {C i cp : Nat} (hp : Cs w p us) (h : (i + 1) * C ≤ cp) : Cs w (subp p 1 (i * C) cp) ((us.take ((i + 1) * C)).drop (i * C)) := by
 have := hp.sub (s := 1) (l := i * C) (hi := (i + 1) * C) (c := cp) (by rw [Nat.add_mul]; omega) h
 simpa only [Nat.mul_one] using this
end Go.Proofs.YtlimabbeaimdgaaGreat
