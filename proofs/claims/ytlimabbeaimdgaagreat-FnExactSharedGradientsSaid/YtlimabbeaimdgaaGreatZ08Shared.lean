/- A part of the proofs: Grow, Fwd4, Fwd5, Fwd8, Fwd10, Cont, Lays, Mod2, Stg, InOut, RowT, Clo, Row, RowM, RowS. -/
import Derived.Maps.AppendAt
import Derived.Test.YtlimabbeaimdgaaGreatZ04Shared
import Derived.Test.YtlimabbeaimdgaaGreatZ03Shared
import Derived.Test.YtlimabbeaimdgaaGreatZ02Shared
import Derived.Test.YtlimabbeaimdgaaGreatZ07Shared
import Derived.Test.YtlimabbeaimdgaaGreatZ05Shared
import Derived.Shelf.Abstract
set_option linter.unusedSimpArgs false
set_option linter.unusedVariables false
set_option maxRecDepth 100000
set_option maxHeartbeats 16000000
namespace Go.Proofs.YtlimabbeaimdgaaGreat
open Go.RowKit
section
variable {P : Program} {w : World} {ops : Array Oper} {rest : List Oper} {o o1 o2 : Oper} {a : Act} {Q : Exit → Act → World → Prop}
theorem jav {t e s b : Nat} {z : Value} [T : SlTy P t e s z b] {x1 s2 : Operand} {d1 : Tmp} {u : Value} {v : Value} {B n : Nat} {vs : List Value}
 (hg1 : o1.guard = none) (ho1 : o1.op = .buildSlice t 1 #[(0,x1)]) (hg2 : o2.guard = none) (ho2 : o2.op = .call { callee := .builtin .append,args := #[s2,.tmp d1],argTypes := #[t,t] })
 (hx : a.eval x1 = u) (hu : u.cells.size = s) (hu1 : u.cells.toList.all (fun y => y.oneCell') = true) (hd : ∀ y,(a.put o1.dst y).eval (.tmp d1) = y) (hs : ∀ y,(a.put o1.dst y).eval s2 = v)
 (how : w.ownsRow B e s v n vs) (hn : n + 1 ≤ maxLen) (hb : (n + 1) * b ≤ 140737488355328) (hB : B ≤ w.heap.size)
 (h : ∀ g c w',w'.ownsRow B e s (.slice (some ⟨g,0,none⟩) (n + 1) c) (n + 1) (vs ++ u.cells.toList) → w.grownBy w' v.ownBlock → (v.ownBlock = some g ∨ g = w.heap.size + 1) →
  wpList P ops Q rest ((a.put o1.dst (.slice (some ⟨w.heap.size,0,none⟩) 1 1)).put o2.dst (.slice (some ⟨g,0,none⟩) (n + 1) c)) w') : wpList P ops Q (o1 :: o2 :: rest) a w := by
 obtain ⟨ti,hi,hzz⟩ := Option.map_eq_some_iff.1 T.inf;simp only [Prod.mk.injEq] at hzz;have hund := T.und;have hpos := T.pos;have hs24 := T.few
 have hrun : (execOp a.eval o1).run P w = .ok (.value (.slice (some ⟨w.heap.size,0,none⟩) 1 1)) (w.alloc (.cells u.cells e)) := by
  have hfill : Instr.fill (fun i => some (i * s,s)) ((Array.range (1 * s)).map (z.cells[· % z.cells.size]!)) [(0,u)] = some u.cells := by
   simp only [Instr.fill,hu,Array.size_map,Array.size_range,Nat.zero_mul,Nat.zero_add,Nat.one_mul,Nat.lt_irrefl,ne_eq,not_true_eq_false,decide_false,Bool.or_self,gt_iff_lt,Bool.false_eq_true,if_false]
   congr 1
   exact wl_app1.fill_all (w := w) (s := s) (b := b) (u := u) (B := B) (n := n) _ _ (by simp [hu])
  simp [execOp,ho1,hx,Instr.buildSlice,run_underlying hund,sizeOf,typeInfo,hi,hzz.2.1,zeroValue,hzz.1,show ¬ 16777216 < s by omega,show ¬ s = 0 by omega,newRow];rw [show (Array.map (fun x => z.cells[x % z.cells.size]!) (Array.range s)) = (Array.range (1 * s)).map (z.cells[· % z.cells.size]!) by rw [Nat.one_mul],hfill];simp
 refine jcp hg1 hrun ?_;have how' := how.alloc (Obj.cells u.cells e);refine wpList_append_own_at _ hg2 s2 (.tmp d1) t ho2 B e ti z s b hund hi hzz.1 hzz.2.1 hzz.2.2 T.zs hpos v n vs (hs _) how' ⟨w.heap.size,0,none⟩ 1 1 u.cells.toList (hd _) (by simp [hu]) ?_ (List.all_eq_true.1 hu1) hn hb (by simp;omega) ?_
 · intro j y hj
   rw [Addr.add_lit,Nat.zero_add];have hnew : (w.alloc (.cells u.cells e)).heap[w.heap.size]? = some (.cells u.cells e) := heap_alloc_new w _;unfold World.cell?;rw [hnew]
   simpa using hj
 · intro v' w' h1 h2 h3 h4
   rcases h1.2 with ⟨_,h5⟩ | ⟨g,cap,cur,rfl,_⟩
   · omega
   · refine h g cap w' h1 (@wl_app1.grown_alloc w s b u B n _ _ _ _ h2) ?_
     rcases h4 with h4 | h4
     · left;rw [← h4];rfl
     · right;simp [Value.ownBlock] at h4;exact h4
end
structure jax (w : World) (B : Nat) (te : TypeId) (E : Sh) (v : Value) (l : List E.T) (css : List (List Value)) (bss : List (List Nat)) : Prop where
 row : w.ownsRow B te E.sz v l.length css.flatten
 els : jc2 w E css bss l
 nodup : bss.flatten.Nodup
 lo : ∀ b ∈ bss.flatten,B ≤ b ∧ v.ownBlock ≠ some b
theorem jc2.lt {w : World} {E : Sh} {css : List (List Value)} {bss : List (List Nat)} {l : List E.T} (h : jc2 w E css bss l) : ∀ b ∈ bss.flatten,b < w.heap.size := by
 intro b hb;obtain ⟨bj,hm,hbj⟩ := List.mem_flatten.1 hb;obtain ⟨j,hj,rfl⟩ := List.mem_iff_getElem.1 hm;have k1 := h.1;have k2 := h.2.1;exact (h.2.2 j (css[j]'(by omega)) bss[j] (l[j]'(by omega)) (by simp) (by simp) (by simp)).lt b hbj
theorem jax.ext {w w' : World} {B : Nat} {te : TypeId} {E : Sh} {v : Value} {l : List E.T} {css : List (List Value)} {bss : List (List Nat)} (h : jax w B te E v l css bss) (e : Ext w w') : jax w' B te E v l css bss :=
 ⟨jai h.row e,h.els.chg (.of_ext e) (S := fun _ => False) (fun _ _ h => h),h.nodup,h.lo⟩
theorem jax.empty {w : World} {B : Nat} {te : TypeId} {E : Sh} {v : Value} (h : w.ownsRow B te E.sz v 0 []) : jax w B te E v [] [] [] :=
 ⟨h,⟨rfl,rfl,fun i cs bs d h => by simp at h⟩,by simp,by simp⟩
theorem jax.snoc {w0 w w' : World} {B : Nat} {te : TypeId} {E : Sh} {v : Value} {l : List E.T} {css : List (List Value)} {bss : List (List Nat)} (h : jax w0 B te E v l css bss) (hx : Ext w0 w) {cs : List Value} {d : E.T} {bs : List Nat}
 (ho : Own w E cs d bs) (hn : bs.Nodup) (hf : ∀ b ∈ bs,w0.heap.size ≤ b) (hB : B ≤ w0.heap.size) {g c n : Nat} (hln : l.length = n) (hr : w'.ownsRow B te E.sz (.slice (some ⟨g,0,none⟩) (n + 1) c) (n + 1) (css.flatten ++ cs)) (hg : w.grownBy w' v.ownBlock) (hw : v.ownBlock = some g ∨ g = w.heap.size + 1) :
 jax w' B te E (.slice (some ⟨g,0,none⟩) (n + 1) c) (l ++ [d]) (css ++ [cs]) (bss ++ [bs]) := by
 subst hln;have lt0 := h.els.lt;have hv : ∀ k,v.ownBlock = some k → k < w0.heap.size := own_lt h.row;have hsz := hx.size;have ch : Chg (fun k => some k = v.ownBlock) w w' := Chg.of_grown hg;refine ⟨by simpa [List.flatten_append] using hr,?_,?_,?_⟩
 · refine jc2.snoc ((h.els.chg (.of_ext hx) (S := fun _ => False) (fun _ _ h => h)).chg ch (fun b hb hk => (h.lo b hb).2 hk.symm)) (ho.chg ch fun b hb hk => ?_)
   have := hv b hk.symm;have := hf b hb;omega
 · rw [List.flatten_append,List.flatten_cons,List.flatten_nil,List.append_nil]
   exact nodup_app h.nodup hn lt0 hf
 · intro b hb
   rw [List.flatten_append,List.flatten_cons,List.flatten_nil,List.append_nil,List.mem_append] at hb
   have hlb : b < w.heap.size := by
    rcases hb with hb | hb
    · have := lt0 b hb;omega
    · exact ho.lt b hb
   refine ⟨?_,fun hk => ?_⟩
   · rcases hb with hb | hb
     · exact (h.lo b hb).1
     · have := hf b hb;omega
   · simp [Value.ownBlock] at hk;subst hk
     rcases hw with hw | hw
     · rcases hb with hb | hb
       · exact (h.lo _ hb).2 hw
       · have := hv _ hw;have := hf _ hb;omega
     · omega
theorem jax.own {w : World} {B : Nat} {te : TypeId} {E : Sh} {v : Value} {l : List E.T} {css : List (List Value)} {bss : List (List Nat)} (h : jax w B te E v l css bss) : ∃ bs,Own w (.sl E) [v] l bs ∧ bs.Nodup ∧ ∀ b ∈ bs,B ≤ b := by
 obtain ⟨h1,h2,h3,h4⟩ := h;have hrow := h1;obtain ⟨hl,hr⟩ := h1;rcases hr with ⟨rfl,h0⟩ | ⟨g,cap,cur,rfl,hg,hh,hnc,hm,hsz,ht⟩
 · have hl0 : l = [] := List.eq_nil_of_length_eq_zero h0
   subst hl0;have hb0 : bss = [] := List.eq_nil_of_length_eq_zero h2.2.1;have hc0 : css = [] := List.eq_nil_of_length_eq_zero h2.1;subst hb0;subst hc0;exact ⟨[],own_sl.2 ⟨none,0,[],[],rfl,.inl ⟨rfl,rfl,rfl,rfl⟩,Nat.le_refl _,Nat.zero_le _,h2,rfl⟩,by simp,by simp⟩
 · refine ⟨g :: bss.flatten,own_sl.2 ⟨some ⟨g,0,none⟩,cap,css,bss,rfl,jdk hrow,hnc,hm,h2,rfl⟩,?_,?_⟩
   · rw [List.nodup_cons];exact ⟨fun hb => (h4 g hb).2 rfl,h3⟩
   · intro b hb
     rcases List.mem_cons.1 hb with rfl | hb
     · exact hg
     · exact (h4 b hb).1
end Go.Proofs.YtlimabbeaimdgaaGreat
namespace Go.Proofs.YtlimabbeaimdgaaGreat
open Go.RowKit Rnd
/-! Greatest numbers. -/
def gi (xs : List Nat) : Nat → Nat
 | 0 => 0
 | j + 1 => if fgt .f32 (xs.getD j 0) (xs.getD (gi xs j) 0) then j else gi xs j
end Go.Proofs.YtlimabbeaimdgaaGreat
namespace Go.Proofs.YtlimabbeaimdgaaGreat
open Go.RowKit
def tab (n : Nat) (f : Nat → Nat) : List Nat := (List.range n).map f
theorem tab_len (n : Nat) (f : Nat → Nat) : (tab n f).length = n := by simp [tab]
theorem tab_get {n : Nat} (f : Nat → Nat) {i : Nat} (h : i < n) : (tab n f).getD i 0 = f i := by simp [tab,h]
theorem tab_succ (n : Nat) (f : Nat → Nat) : tab (n + 1) f = tab n f ++ [f n] := by simp [tab,List.range_succ]
def mix (o e : Nat → Nat) (i j : Nat) : Nat := if j < i then o j else e j
theorem tab_mix {n i : Nat} (o e : Nat → Nat) (h : i < n) : (tab n (mix o e i)).set i (o i) = tab n (mix o e (i + 1)) := by
 apply List.ext_getElem?;intro j;unfold tab mix;rw [List.getElem?_set]
 by_cases hj : j < n
 · by_cases hij : i = j
   · subst hij;simp [hj]
   · rw [if_neg hij]
     simp only [List.getElem?_map,List.getElem?_range hj,Option.map_some]
     congr 1
     by_cases h1 : j < i
     · rw [if_pos h1,if_pos (by omega)]
     · rw [if_neg h1,if_neg (by omega)]
 · rw [if_neg (by omega)];simp [hj]
theorem tab_mix0 (n : Nat) (o e : Nat → Nat) : tab n (mix o e 0) = tab n e := by
 unfold tab;apply List.map_congr_left;intro j _;unfold mix;rw [if_neg (by omega)]
theorem tab_mixn (n : Nat) (o e : Nat → Nat) : tab n (mix o e n) = tab n o := by
 unfold tab;apply List.map_congr_left;intro j hj;unfold mix;rw [if_pos (by simpa using hj)]
theorem F32s.push {us : List Value} {i : Nat} {f : Nat → Nat} {b : Nat} (h : F32s us (tab i f)) (hb : cn .f32 b = f i) : F32s (us ++ [.float .f32 b]) (tab (i + 1) f) := by
 rw [tab_succ];refine h.app ⟨rfl,fun j hj => ?_⟩;have : j = 0 := by simpa using hj
 subst this;exact ⟨b,rfl,by rw [hb];rfl⟩
theorem F32s.put {us : List Value} {n i : Nat} {o e : Nat → Nat} {b : Nat} (h : F32s us (tab n (mix o e i))) (hi : i < n) (hb : cn .f32 b = o i) : F32s (us.set i (.float .f32 b)) (tab n (mix o e (i + 1))) := by
 rw [← tab_mix o e hi];refine ⟨by rw [List.length_set,List.length_set];exact h.1,fun j hj => ?_⟩;rw [List.length_set] at hj
 by_cases hij : i = j
 · subst hij
   refine ⟨b,by rw [List.getElem?_set,if_pos rfl,if_pos (by rw [h.1];exact hj)],?_⟩;rw [hb];rw [tab_len] at hj;simp [tab_len,List.getD_eq_getElem?_getD,List.getElem?_set,hj]
 · obtain ⟨c,h1,h2⟩ := h.2 j hj
   refine ⟨c,by rw [List.getElem?_set,if_neg hij];exact h1,?_⟩;rw [h2,List.getD_eq_getElem?_getD,List.getD_eq_getElem?_getD,List.getElem?_set,if_neg hij]
def sM (xs : List Nat) : Nat := xs.getD (gi xs xs.length) 0
def sE (xs : List Nat) (i : Nat) : Nat := expF (fop .sub .f32 (xs.getD i 0) (sM xs))
def sO (xs : List Nat) (i : Nat) : Nat := fop .quo .f32 (sE xs i) (sumG (sE xs) xs.length)
theorem retFl_own {w w' : World} {xs : List Nat} {n : Nat} {q : Option Addr} {c : Nat} {e : Ending} {vs : List Value} (hl : xs.length = n) (h : w'.ownsRow w.heap.size 48 1 (.slice q n c) n vs) (hf : F32s vs xs) (he : e = .returned (.slice q n c)) (hx : Ext w w') : RetFl w xs e w' := by
 subst hl;exact ⟨q,c,vs,he,h,hf,hx⟩
section
variable {P : Program} {w wf : World} {ops : Array Oper} {rest : List Oper} {o : Oper} {a : Act} {Q : Act → Prop} {F : Option Tmp → World → World → Value → Prop}
theorem x_slice {t e s b : Nat} {z : Value} [T : SlTy P t e s z b] {x lo hi : Operand} (hw : Region.wanted o (yielded ops a.tmps) = true) (ho : o.op = .slice t x (some lo) (some hi) none) {p : Option Addr} {n c : Nat} {k1 k2 : IntKind} {li ui : Int} {l u : Nat}
 (hx : a.eval x = .slice p n c) (hlo : a.eval lo = .int k1 li) (hhi : a.eval hi = .int k2 ui) (h1 : li = l) (h2 : ui = u) (h3 : l ≤ u) (h4 : u ≤ c)
 (h : wpX P ops F w wf Q rest (a.put o.dst (.slice (subp p s l c) (u - l) (c - l)))) : wpX P ops F w wf Q (o :: rest) a := by
 subst h1;subst h2;exact x_pure hw (fun w1 _ => by simp [execOp,ho,hx,hlo,hhi,run_slice h3 h4]) h
end
theorem F32s.part {us : List Value} {xs : List Nat} (h : F32s us xs) (l u : Nat) : F32s ((us.take u).drop l) ((xs.take u).drop l) := by
 refine ⟨by simp [h.1],fun i hi => ?_⟩;simp only [List.length_drop,List.length_take] at hi;obtain ⟨b,h1,h2⟩ := h.2 (l + i) (by omega);refine ⟨b,?_,?_⟩
 · rw [List.getElem?_drop,List.getElem?_take_of_lt (by omega)];exact h1
 · rw [h2,List.getD_eq_getElem?_getD,List.getD_eq_getElem?_getD,List.getElem?_drop,List.getElem?_take_of_lt (by omega)]
theorem layD_int {d : jac.T} (h : layD d = true) : (d.2.1.toNat : Int) = d.2.1 ∧ (d.2.2.1.toNat : Int) = d.2.2.1 ∧ d.2.1.toNat ≤ 8 ∧ 1 ≤ d.2.1.toNat ∧ d.2.2.1.toNat ≤ 8 ∧ 1 ≤ d.2.2.1.toNat := by
 unfold layD layB inB at h;simp only [Bool.and_eq_true,decide_eq_true_eq] at h;omega
def anyTo (q : Nat → Bool) : Nat → Bool
 | 0 => false
 | n + 1 => anyTo q n || q n
theorem anyTo_true {q : Nat → Bool} : ∀ {n : Nat},anyTo q n = true ↔ ∃ i,i < n ∧ q i = true
 | 0 => by simp [anyTo]
 | n + 1 => by
   rw [anyTo,Bool.or_eq_true,anyTo_true]
   constructor
   · rintro (⟨i,h1,h2⟩ | h)
     · exact ⟨i,by omega,h2⟩
     · exact ⟨n,by omega,h⟩
   · rintro ⟨i,h1,h2⟩
     by_cases hi : i = n
     · subst hi;exact .inr h2
     · exact .inl ⟨i,by omega,h2⟩
structure Lays (w : World) (p : Option Addr) (n : Nat) (css : List (List Value)) (l : List jac.T) : Prop where
 cs : Cs w p css.flatten
 all : All2 (Rep w jac) css l
 size : ∀ c ∈ css,c.length = jac.sz
 one : ∀ c ∈ css,∀ u ∈ c,u.oneCell' = true
 len : l.length = n
 cnt : css.length = n
 fit : ∀ x ∈ l,Fit jac x
 le : n ≤ maxLen
theorem Lays.ext {w w' : World} {p : Option Addr} {n : Nat} {css : List (List Value)} {l : List jac.T} (h : Lays w p n css l) (e : Ext w w') : Lays w' p n css l :=
 ⟨h.cs.ext e,h.all.imp fun _ _ => Rep.ext e,h.size,h.one,h.len,h.cnt,h.fit,h.le⟩
theorem lays_of {w : World} {v : Value} {l : List jac.T} (h : Rep w (.sl jac) [v] l) (hf : Fit (.sl jac) l) : ∃ p c css,v = .slice p l.length c ∧ Lays w p l.length css l := by
 obtain ⟨p,c,css,h1,a2,a3,a4,a5⟩ := h
 cases h1
 refine ⟨p,c,css,rfl,a2,a5,fun c hc => ?_,fun c hc => ?_,rfl,a5.length,hf,Nat.le_trans a3 a4⟩
 · obtain ⟨i,hi,rfl⟩ := List.mem_iff_getElem.1 hc;obtain ⟨_,h⟩ := a5.get' i (by rw [← a5.length];exact hi);exact h.size
 · obtain ⟨i,hi,rfl⟩ := List.mem_iff_getElem.1 hc;obtain ⟨_,h⟩ := a5.get' i (by rw [← a5.length];exact hi);exact h.one
theorem ValidModel_any (p : Option Addr) (n c : Nat) (l : List jac.T) (css : List (List Value)) (w : World) (hn : l.length = n) (hm : n ≤ maxLen)
 (a2 : Cs w p css.flatten) (a5 : All2 (Rep w jac) css l) (a6 : ∀ c ∈ css,c.length = jac.sz) (a7 : css.length = n) :
 Calls Tryz.prog 56 #[.agg #[.slice p n c]] w (RetB w (modB l)) := by
 unfold maxLen at hm;unfold modB;generalize hG : modGo none l = G;have HG := hid hG;have HL := hid hn;clear hG;go_enter Tryz.func56,Tryz.ntmps56;go_wp2;go_loopw [8] (fun iv wr => ∃ (i : Nat),i ≤ n ∧ iv = .int .i64 i ∧ Hid (modGo (prevL l i) (l.drop i) = G) ∧ Ext w wr ∧ wr.cell? ⟨w.heap.size,0,none⟩ = some (.slice p n c) ∧ w.heap.size < wr.heap.size) (fun iv _ => n - (intOf iv).toNat)
 case atStart => exact ⟨0,by omega,rfl,by simpa [Hid,prevL] using HG.out,Ext.alloc _ _,by simp,by simp⟩
 case round =>
  obtain ⟨i,hi,rfl,HI,he,g0,hsz⟩ := hrel
  by_cases hlt : i < n
  · have hil : i < l.length := by rw [HL.out];exact hlt
    obtain ⟨ci,hci,ri⟩ := a5.get i l[i] (by simp);obtain ⟨pw,cw,pb,cb,rfl,l1,l2⟩ := lay_vals ri;have hst := HI.out;rw [modGo_at hil] at hst;have hs1 := a2.some_of a6 (by decide) (show 0 < css.length by omega);have hp := a2.ext he;generalize hD : l[i] = d at *;have HD := hid hD;clear hD;have C := hid (fun w1 => ja5 (ValidLayer_any d.1 d.2.1 d.2.2.1 pw pb _ cw _ cb w1 l1 l2));have hne : w.heap.size ≠ wr.heap.size := by omega
    cases hb : layD d
    · have hG : G = false := by rw [← hst,hb];rfl
      subst hG;unfold layD at hb;rw [hb] at C;clear hb hst;go_wp2_with ((with_reducible show gx2);refine jah (s := jac) (j := i) rfl rfl rfl rfl (fun _ => rfl) rfl rfl rfl hp a6 a7 hlt hs1 hci ?_;simp only [ofCs,Sh.agg,if_true]);have E1 := (Ext.alloc wr (.cells #[.int .i64 d.1,.int .i64 d.2.1,.int .i64 d.2.2.1,.slice pw (List.length d.2.2.2.1) cw,.slice pb (List.length d.2.2.2.2.1) cb] 100)).trans (Ext.drew _);have gd := E1.cell g0;have hpd := hp.ext E1;obtain ⟨F,hF⟩ : ∃ F : Option Tmp → World → Value → Prop,F = fun _ _ u => u = .bool false := ⟨_,rfl⟩
      have HF := hid hF;clear hF;refine jaf (F := F) (by kernel_rfl) (by kernel_rfl) (by kernel_rfl) ?_;intro wf hwf
      repeat (first
       | ((first | (refine jat rfl ?_) | (refine x_mv rfl rfl rfl ?_) | (refine x_as rfl rfl rfl ?_) | ((with_reducible show gx4);refine jam (f := 82) (args := #[.agg #[.int .i64 d.1,.int .i64 d.2.1,.int .i64 d.2.2.1,.slice pw (List.length d.2.2.2.1) cw,.slice pb (List.length d.2.2.2.2.1) cb]]) rfl rfl Tryz.func82 rfl (by kernel_rfl) ?_ ?_ ?_;(focus (simp [Act.eval];done));(focus (intro w1 hw1;exact (by rw [HF.out];exact C.out w1)));rintro u w3 e3 e4 hu;simp only [HF.out] at hu;subst hu));simp only [Act.put,jab,pu1,pu2,pu3,pu4,pu5])
       | (refine ja3 rfl fun K hK w1 hw1 => ?_;have k0 := hw1.cellOf (b := wr.heap.size) (by simp);have k1 := hw1.cell (gd);go_simp;refine hK _ ?_;clear hK K k0 k1 hw1 w1))
      refine ja4 ?_;go_wp2;go_ret;exact ⟨jc6 (by simp),(he.trans E1).trans hwf⟩
    have hb2 := hb;unfold layD at hb2;rw [hb2] at C;rw [hb,Bool.true_and] at hst;clear hb hb2;rcases Nat.eq_zero_or_pos i with h0 | h0
    · subst h0
      have hst2 : modGo (prevL l 1) (l.drop 1) = G := by rw [← hst];simp [linkL,prevL]
      have Hst := hid hst2;clear hst hst2;go_wp2_with ((with_reducible show gx2);refine jah (s := jac) (j := 0) rfl rfl rfl rfl (fun _ => rfl) rfl rfl rfl hp a6 a7 hlt hs1 hci ?_;simp only [ofCs,Sh.agg,if_true]);have E1 := (Ext.alloc wr (.cells #[.int .i64 d.1,.int .i64 d.2.1,.int .i64 d.2.2.1,.slice pw (List.length d.2.2.2.1) cw,.slice pb (List.length d.2.2.2.2.1) cb] 100)).trans (Ext.drew _);have gd := E1.cell g0;have hpd := hp.ext E1;obtain ⟨F,hF⟩ : ∃ F : Option Tmp → World → Value → Prop,F = fun _ _ u => u = .bool true := ⟨_,rfl⟩
      have HF := hid hF;clear hF;refine jaf (F := F) (by kernel_rfl) (by kernel_rfl) (by kernel_rfl) ?_;intro wf hwf
      repeat (first
       | ((first | (refine jat rfl ?_) | (refine x_mv rfl rfl rfl ?_) | (refine x_as rfl rfl rfl ?_) | ((with_reducible show gx4);refine jam (f := 82) (args := #[.agg #[.int .i64 d.1,.int .i64 d.2.1,.int .i64 d.2.2.1,.slice pw (List.length d.2.2.2.1) cw,.slice pb (List.length d.2.2.2.2.1) cb]]) rfl rfl Tryz.func82 rfl (by kernel_rfl) ?_ ?_ ?_;(focus (simp [Act.eval];done));(focus (intro w1 hw1;exact (by rw [HF.out];exact C.out w1)));rintro u w3 e3 e4 hu;simp only [HF.out] at hu;subst hu));simp only [Act.put,jab,pu1,pu2,pu3,pu4,pu5])
       | (refine ja3 rfl fun K hK w1 hw1 => ?_;have k0 := hw1.cellOf (b := wr.heap.size) (by simp);have k1 := hw1.cell (gd);go_simp;refine hK _ ?_;clear hK K k0 k1 hw1 w1))
      refine ja4 ?_;go_wp2;go_roundw
      case rel => exact ⟨1,by omega,by go_num,Hst.out,(he.trans E1).trans hwf,hwf.cell gd,by have := hwf.size;simp at this;omega⟩
      case measure => simp [intOf];omega
    · obtain ⟨j,rfl⟩ : ∃ j,i = j + 1 := ⟨i - 1,by omega⟩
      obtain ⟨cj,hcj,rj⟩ := a5.get j l[j] (by simp);obtain ⟨qw,dw,qb,db,rfl,_,_⟩ := lay_vals rj;have hlk : linkL (prevL l (j + 1)) d.2.1 = decide (d.2.1 = layO l[j]) := by simp [prevL,linkL,show j < l.length by omega]
      rw [hlk] at hst;have hA : IntKind.i64.wrap (((j + 1 : Nat) : Int) - 1) = (j : Int) := by rw [show ((j + 1 : Nat) : Int) - 1 = (j : Int) by omega];exact ja7 _ (by omega) (by omega)
      have hB : IntKind.i64.wrap ((j : Int) + 1 - 1) = (j : Int) := by rw [show (j : Int) + 1 - 1 = (j : Int) by omega];exact ja7 _ (by omega) (by omega)
      have hC : IntKind.i64.wrap (j : Int) = (j : Int) := ja7 _ (by omega) (by omega);clear hlk
      by_cases hq : d.2.1 = layO l[j]
      · have hst2 : modGo (prevL l (j + 1 + 1)) (l.drop (j + 1 + 1)) = G := by rw [← hst];simp [hq]
        have Hst := hid hst2;have Q := bne_f hq;unfold layO at Q;clear hst hst2 hq;go_wp2_with ((with_reducible show gx2);refine jah (s := jac) (j := j + 1) rfl rfl rfl rfl (fun _ => rfl) rfl rfl rfl hp a6 a7 hlt hs1 hci ?_;simp only [ofCs,Sh.agg,if_true]);have E1 := (Ext.alloc wr (.cells #[.int .i64 d.1,.int .i64 d.2.1,.int .i64 d.2.2.1,.slice pw (List.length d.2.2.2.1) cw,.slice pb (List.length d.2.2.2.2.1) cb] 100)).trans (Ext.drew _);have gd := E1.cell g0;have hpd := hp.ext E1;obtain ⟨F,hF⟩ : ∃ F : Option Tmp → World → Value → Prop,F = fun _ _ u => u = .bool true := ⟨_,rfl⟩
        have HF := hid hF;clear hF;refine jaf (F := F) (by kernel_rfl) (by kernel_rfl) (by kernel_rfl) ?_;intro wf hwf
        repeat (first
         | ((first | (refine jat rfl ?_) | (refine x_mv rfl rfl rfl ?_) | (refine x_as rfl rfl rfl ?_) | ((with_reducible show gx6);refine jbu (f := 2) (j := j) (off := 2) rfl rfl (fun _ => rfl) rfl (fun _ _ => rfl) rfl (fun _ => rfl) (fun _ _ => rfl) jbx rfl rfl (by omega) hpd a6 a7 (by omega) hs1 hcj rfl ?_) | ((with_reducible show gx4);refine jam (f := 82) (args := #[.agg #[.int .i64 d.1,.int .i64 d.2.1,.int .i64 d.2.2.1,.slice pw (List.length d.2.2.2.1) cw,.slice pb (List.length d.2.2.2.2.1) cb]]) rfl rfl Tryz.func82 rfl (by kernel_rfl) ?_ ?_ ?_;(focus (simp [Act.eval];done));(focus (intro w1 hw1;exact (by rw [HF.out];exact C.out w1)));rintro u w3 e3 e4 hu;simp only [HF.out] at hu;subst hu));simp only [Act.put,jab,pu1,pu2,pu3,pu4,pu5])
         | (refine ja3 rfl fun K hK w1 hw1 => ?_;have k0 := hw1.cellOf (b := wr.heap.size) (by simp);have k1 := hw1.cell (gd);go_simp;refine hK _ ?_;clear hK K k0 k1 hw1 w1))
        refine ja4 ?_;go_wp2;go_roundw
        case rel => exact ⟨j + 1 + 1,by omega,by go_num,Hst.out,(he.trans E1).trans hwf,hwf.cell gd,by have := hwf.size;simp at this;omega⟩
        case measure => simp [intOf];omega
      · have hG : G = false := by rw [← hst];simp [hq]
        subst hG;have Q := bne_t hq;unfold layO at Q;clear hst hq;go_wp2_with ((with_reducible show gx2);refine jah (s := jac) (j := j + 1) rfl rfl rfl rfl (fun _ => rfl) rfl rfl rfl hp a6 a7 hlt hs1 hci ?_;simp only [ofCs,Sh.agg,if_true]);have E1 := (Ext.alloc wr (.cells #[.int .i64 d.1,.int .i64 d.2.1,.int .i64 d.2.2.1,.slice pw (List.length d.2.2.2.1) cw,.slice pb (List.length d.2.2.2.2.1) cb] 100)).trans (Ext.drew _);have gd := E1.cell g0;have hpd := hp.ext E1;obtain ⟨F,hF⟩ : ∃ F : Option Tmp → World → Value → Prop,F = fun _ _ u => u = .bool true := ⟨_,rfl⟩
        have HF := hid hF;clear hF;refine jaf (F := F) (by kernel_rfl) (by kernel_rfl) (by kernel_rfl) ?_;intro wf hwf
        repeat (first
         | ((first | (refine jat rfl ?_) | (refine x_mv rfl rfl rfl ?_) | (refine x_as rfl rfl rfl ?_) | ((with_reducible show gx6);refine jbu (f := 2) (j := j) (off := 2) rfl rfl (fun _ => rfl) rfl (fun _ _ => rfl) rfl (fun _ => rfl) (fun _ _ => rfl) jbx rfl rfl (by omega) hpd a6 a7 (by omega) hs1 hcj rfl ?_) | ((with_reducible show gx4);refine jam (f := 82) (args := #[.agg #[.int .i64 d.1,.int .i64 d.2.1,.int .i64 d.2.2.1,.slice pw (List.length d.2.2.2.1) cw,.slice pb (List.length d.2.2.2.2.1) cb]]) rfl rfl Tryz.func82 rfl (by kernel_rfl) ?_ ?_ ?_;(focus (simp [Act.eval];done));(focus (intro w1 hw1;exact (by rw [HF.out];exact C.out w1)));rintro u w3 e3 e4 hu;simp only [HF.out] at hu;subst hu));simp only [Act.put,jab,pu1,pu2,pu3,pu4,pu5])
         | (refine ja3 rfl fun K hK w1 hw1 => ?_;have k0 := hw1.cellOf (b := wr.heap.size) (by simp);have k1 := hw1.cell (gd);go_simp;refine hK _ ?_;clear hK K k0 k1 hw1 w1))
        refine ja4 ?_;go_wp2;go_ret;exact ⟨jc6 (by simp),(he.trans E1).trans hwf⟩
  · obtain rfl : i = n := by omega
    have hst := HI.out;rw [List.drop_of_length_le (by rw [HL.out];exact Nat.le_refl _)] at hst;have hst2 : G = true := by rw [← hst];simp [modGo]
    subst hst2;have hL := HL.out
    by_cases h1 : 1 ≤ i
    · by_cases h6 : i ≤ 6
      · have h6' : (i : Int) ≤ 6 := by omega
        go_wp2;go_ret;exact ⟨jc6 (by first | rfl | (rw [hL];simp [h1,h6,h6'])),he⟩
      · have h6' : ¬ (i : Int) ≤ 6 := by omega
        go_wp2;go_ret;exact ⟨jc6 (by first | rfl | (rw [hL];simp [h1,h6,h6'])),he⟩
    · go_wp2
      go_ret;exact ⟨jc6 (by first | rfl | (rw [hL];simp [h1])),he⟩
def inL (l : List jac.T) (i : Nat) : Int := (l[i]?.map fun d => d.2.1).getD 0
def outL (l : List jac.T) : Int := (l[l.length - 1]?.map fun d => d.2.2.1).getD 0
theorem modGo_all {l : List jac.T} : ∀ {i : Nat} {p : Option Int},modGo p l = true → ∀ (h : i < l.length),layD l[i] = true ∧ ∀ (h' : i + 1 < l.length),l[i + 1].2.1 = l[i].2.2.1 := by
 induction l with
 | nil => intro i p _ h;simp at h
 | cons d t ih =>
   intro i p hm h;simp only [modGo,Bool.and_eq_true] at hm;obtain ⟨h1,h2,h3⟩ := hm
   cases i with
   | zero =>
     refine ⟨h1,fun h' => ?_⟩
     cases t with
     | nil => simp at h'
     | cons d2 t2 =>
       simp only [modGo,Bool.and_eq_true,linkL,decide_eq_true_eq] at h3;exact h3.2.1
   | succ i =>
     have := ih (i := i) h3 (by simpa using h)
     simpa using this
structure ModOk (l : List jac.T) : Prop where
 pos : 1 ≤ l.length
 few : l.length ≤ 6
 lay : ∀ i (h : i < l.length),layD l[i] = true
 link : ∀ i (h : i + 1 < l.length),l[i + 1].2.1 = (l[i]'(by omega)).2.2.1
theorem modOk {l : List jac.T} (h : modB l = true) : ModOk l := by
 unfold modB at h;simp only [Bool.and_eq_true,decide_eq_true_eq] at h;obtain ⟨h1,h2,h3⟩ := h;exact ⟨h1,h2,fun i hi => (modGo_all h3 hi).1,fun i hi => (modGo_all h3 (by omega)).2 hi⟩
theorem l02Own_any (p : Option Addr) (n c : Nat) (us : List Value) (xs : List Nat) (w : World) (hx : xs.length = n) (hn : n ≤ 1073741824) (hc : n ≤ c) (hp : Cs w p us) (hf : F32s us xs) : Calls Tryz.prog 77 #[.slice p n c] w (RetFl w xs) := by
 have hstart : (w.alloc (.cells #[] 48)).ownsRow w.heap.size 48 1 (.slice (some ⟨w.heap.size,0,none⟩) 0 0) 0 [] := World.ownsRow_made w #[] 0 (Nat.le_refl _) (by decide) rfl;have e0 := Ext.alloc w (.cells #[] 48);have o1 := hid hf.one;have u1 := hf.1;have U1 := hid u1;have HX := hid hx;clear hx u1;go_enter Tryz.func77,Tryz.ntmps77;go_wp2_with ((with_reducible show gx7);refine wl_appz rfl rfl rfl rfl hstart (hp.ext e0) (by rw [U1.out,HX.out,Nat.mul_one]) hc o1.out (by unfold maxLen;omega) (by omega) (by simp) ?_;intro v1 w1 own1 g1);go_ret;rw [Nat.zero_add,List.nil_append] at own1;exact retFl_of HX.out own1 hf rfl (e0.grown g1 (fun k hk => jar hstart k hk))
theorem Lays.at {w : World} {p : Option Addr} {n : Nat} {css : List (List Value)} {l : List jac.T} (h : Lays w p n css l) {i : Nat} (hi : i < n) : ∃ ci,css[i]? = some ci ∧ ci[1]? = some (.int .i64 (inL l i)) ∧ ci[2]? = some (.int .i64 ((l[i]?.map fun d => d.2.2.1).getD 0)) ∧ p.isSome = true := by
 have hl := h.len;obtain ⟨ci,hci,ri⟩ := h.all.get i (l[i]'(by omega)) (by simp);have hs := h.cs.some_of h.size (by decide) (show i < css.length by rw [h.cnt];exact hi);obtain ⟨pw,cw,pb,cb,rfl,_,_⟩ := lay_vals ri;exact ⟨_,hci,by unfold inL;simp [show i < l.length by omega],by simp [show i < l.length by omega],hs⟩
theorem in_any (p : Option Addr) (n c : Nat) (css : List (List Value)) (l : List jac.T) (w : World) (L : Lays w p n css l) (h1 : 1 ≤ n) : Calls Tryz.prog 58 #[.agg #[.slice p n c]] w fun e w' => e = .returned (.int .i64 (inL l 0)) ∧ Ext w w' := by
 obtain ⟨ci,k1,k2,_,k4⟩ := L.at (i := 0) (by omega);have l1 := L.cs.ext (Ext.alloc w (.cells #[.slice p n c] 35));have l3 := L.size;have l5 := hid L.cnt;generalize inL l 0 = v at *;clear L;have K1 := hid k1;have K2 := hid k2;clear k1 k2;go_enter Tryz.func58,Tryz.ntmps58;go_wp2_with ((with_reducible show gx8);refine wl_ldField (f := 1) (off := 1) (j := 0) rfl rfl rfl rfl rfl rfl (fun _ => rfl) (fun _ _ => rfl) jb5 rfl rfl rfl l1 l3 l5.out (by omega) k4 K1.out K2.out ?_);go_ret;exact ⟨rfl,Ext.alloc _ _⟩
theorem outL_eq {l : List jac.T} {n : Nat} (h : l.length = n) : ((l[n - 1]?.map fun d => d.2.2.1).getD 0) = outL l := by subst h;rfl
theorem out_any (p : Option Addr) (n c : Nat) (css : List (List Value)) (l : List jac.T) (w : World) (L : Lays w p n css l) (h1 : 1 ≤ n) : Calls Tryz.prog 59 #[.agg #[.slice p n c]] w fun e w' => e = .returned (.int .i64 (outL l)) ∧ Ext w w' := by
 obtain ⟨ci,k1,_,k2,k4⟩ := L.at (i := n - 1) (by omega);rw [outL_eq L.len] at k2;have hn := L.le;unfold maxLen at hn;have l1 := L.cs.ext (Ext.alloc w (.cells #[.slice p n c] 35));have l3 := L.size;have l5 := hid L.cnt;generalize outL l = v at *;clear L;have K1 := hid k1;have K2 := hid k2;clear k1 k2;go_enter Tryz.func59,Tryz.ntmps59;go_wp2_with ((with_reducible show gx8);refine wl_ldField (f := 2) (off := 2) (j := n - 1) rfl rfl rfl rfl rfl rfl (fun _ => rfl) (fun _ _ => rfl) jbx rfl rfl (by omega) l1 l3 l5.out (by omega) k4 K1.out K2.out ?_);go_ret;exact ⟨rfl,Ext.alloc _ _⟩
def rowT (xs : List Nat) (c i : Nat) : List Nat := (xs.take ((i + 1) * c)).drop (i * c)
theorem row_le {r c i : Nat} (hi : i < r) : (i + 1) * c ≤ r * c := Nat.mul_le_mul_right c hi
theorem rowT_len {xs : List Nat} {c i r : Nat} (h : xs.length = r * c) (hi : i < r) : (rowT xs c i).length = c := by
 unfold rowT;rw [List.length_drop,List.length_take,h,Nat.min_eq_left (row_le hi),Nat.add_mul];omega
theorem cell_le {R C i : Nat} (hi : i < R) (hR : R ≤ 16) (hC : C ≤ 16) : (i + 1) * C ≤ R * C ∧ R * C ≤ 256 ∧ i * C ≤ (i + 1) * C ∧ (i + 1) * C - i * C = C := by
 have h1 := row_le (c := C) hi;have h2 := Nat.mul_le_mul hR hC;rw [Nat.add_mul] at *;omega
theorem own_ten {w : World} {r c : Int} {q : Option Addr} {n cp : Nat} {xs : List Nat} {bs : List Nat} (e : xs.length = n) (h : Own w (.sl .flt) [.slice q n cp] xs bs) : Own w jaa [.int .i64 r,.int .i64 c,.slice q n cp] (r,c,xs,()) bs := by
 subst e;exact ⟨[.int .i64 r],[.int .i64 c,.slice q xs.length cp],[],bs,rfl,⟨rfl,rfl⟩,⟨[.int .i64 c],[.slice q xs.length cp],[],bs,rfl,⟨rfl,rfl⟩,⟨[.slice q xs.length cp],[],bs,[],rfl,h,⟨rfl,rfl⟩,by simp⟩,rfl⟩,rfl⟩
theorem jaz {w : World} {cs : List Value} {d : jaa.T} (h : Rep w jaa cs d) : ∃ p c us,cs = [.int .i64 d.1,.int .i64 d.2.1,.slice p d.2.2.1.length c] ∧ Cs w p us ∧ F32s us d.2.2.1 ∧ (d.2.2.1 : List Nat).length ≤ c ∧ c ≤ maxLen := by
 obtain ⟨d1,d2,d3,_⟩ := d;obtain ⟨_,_,rfl,rfl,_,_,rfl,rfl,_,_,rfl,h3,rfl⟩ := h;obtain ⟨p,c,us,rfl,hp,hf,hc,hn⟩ := rep_flts.1 h3;exact ⟨p,c,us,rfl,hp,hf,hc,hn⟩
theorem retFl_nil {w w' : World} {e : Ending} (he : e = .returned (.slice none 0 0)) (hx : Ext w w') : RetFl w [] e w' :=
 ⟨none,0,[],he,⟨rfl,.inl ⟨rfl,rfl⟩⟩,F32s.nil,hx⟩
theorem cloneF_any (p : Option Addr) (n c : Nat) (us : List Value) (xs : List Nat) (w : World) (hx : xs.length = n) (hn : n ≤ 1073741824) (hc : n ≤ c) (hp : Cs w p us) (hf : F32s us xs) : Calls Tryz.prog 71 #[.slice p n c] w (RetFl w xs) := by
 have o1 := hid hf.one;have u1 := hf.1
 cases p with
 | none =>
   have h0 : us = [] := Classical.byContradiction fun h => by have := hp.isS h;simp at this
   subst h0;obtain rfl : xs = [] := List.eq_nil_of_length_eq_zero (by simpa using u1.symm);obtain rfl : n = 0 := by simpa using hx.symm
   clear hp hf o1 u1;go_enter Tryz.func71,Tryz.ntmps71;go_wp2;go_ret;exact retFl_nil rfl (Ext.refl _)
 | some ad =>
   have hstart : (w.alloc (.cells #[] 48)).ownsRow w.heap.size 48 1 (.slice (some ⟨w.heap.size,0,none⟩) 0 0) 0 [] := World.ownsRow_made w #[] 0 (Nat.le_refl _) (by decide) rfl;have e0 := Ext.alloc w (.cells #[] 48);have HX := hid hx;have U1 := hid u1;clear hx u1;go_enter Tryz.func71,Tryz.ntmps71;go_wp2_with ((with_reducible show gx7);refine wl_appz rfl rfl rfl rfl hstart (hp.ext e0) (by rw [U1.out,HX.out,Nat.mul_one]) hc o1.out (by unfold maxLen;omega) (by omega) (by simp) ?_;intro v1 w1 own1 g1);go_ret;rw [Nat.zero_add,List.nil_append] at own1;exact retFl_of HX.out own1 hf rfl (e0.grown g1 (fun k hk => jar hstart k hk))
theorem row_any (R C i n cp : Nat) (p : Option Addr) (w : World) (hi : i < R) (hR : R ≤ 16) (hC : C ≤ 16) (hn : n = R * C) (hcp : n ≤ cp) :
 Calls Tryz.prog 124 #[.agg #[.int .i64 R,.int .i64 C,.slice p n cp],.int .i64 i] w fun e w' => e = .returned (.slice (subp p 1 (i * C) cp) C (cp - i * C)) ∧ Ext w w' := by
 obtain ⟨h1,h2,h3,h4⟩ := cell_le (C := C) hi hR hC;have q1 : IntKind.i64.wrap ((i : Int) * C) = ((i * C : Nat) : Int) := by rw [← Int.natCast_mul];exact ja7 _ (by omega) (by omega)
 have q2 : IntKind.i64.wrap ((i : Int) + 1) = ((i + 1 : Nat) : Int) := by rw [show (i : Int) + 1 = ((i + 1 : Nat) : Int) by omega];exact ja7 _ (by omega) (by omega)
 have q3 : IntKind.i64.wrap (((i : Int) + 1) * C) = (((i + 1) * C : Nat) : Int) := by rw [show ((i : Int) + 1) * C = (((i + 1) * C : Nat) : Int) by push_cast;rfl];exact ja7 _ (by omega) (by omega)
 generalize hA : i * C = A at *;generalize hB : (i + 1) * C = B at *;have h5 : A ≤ B := h3;have h6 : B ≤ cp := by omega
 have H4 := hid h4;clear hA hB;go_enter Tryz.func124,Tryz.ntmps124;go_wp2_with (refine wl_slice (l := A) (u := B) rfl rfl rfl rfl rfl (by first | rfl | exact q1) (by first | rfl | exact q3) h5 h6 ?_);go_ret;exact ⟨rfl,Ext.alloc _ _⟩
def IsFl (B : Nat) (xs : List Nat) (w : World) (u : Value) : Prop := ∃ q c vs,u = .slice q xs.length c ∧ w.ownsRow B 48 1 (.slice q xs.length c) xs.length vs ∧ F32s vs xs
theorem IsFl.ext {B : Nat} {xs : List Nat} {w w' : World} {u : Value} (h : IsFl B xs w u) (e : Ext w w') : IsFl B xs w' u := by
 obtain ⟨q,c,vs,h1,h2,h3⟩ := h;exact ⟨q,c,vs,h1,jai h2 e,h3⟩
theorem IsFl.base {B B' : Nat} {xs : List Nat} {w : World} {u : Value} (h : IsFl B xs w u) (hB : B' ≤ B) : IsFl B' xs w u := by
 obtain ⟨q,c,vs,h1,h2,h3⟩ := h;exact ⟨q,c,vs,h1,jao h2 hB,h3⟩
theorem RetFl.is {w w' : World} {xs : List Nat} {e : Ending} (h : RetFl w xs e w') : ∃ u,e = .returned u ∧ Ext w w' ∧ IsFl w.heap.size xs w' u := by
 obtain ⟨q,c,vs,he,h2,h3,hx⟩ := h;exact ⟨_,he,hx,q,c,vs,rfl,h2,h3⟩
theorem calls_fl {P : Program} {f : Nat} {xs : Array Value} {wB w1 : World} {ys : List Nat} (hB : Ext wB w1) (h : Calls P f xs w1 (RetFl w1 ys)) : Calls P f xs w1 fun e w3 => ∃ u,e = .returned u ∧ Ext w1 w3 ∧ IsFl wB.heap.size ys w3 u :=
 h.mono fun e w3 h => by
  obtain ⟨u,h1,h2,h3⟩ := h.is;exact ⟨u,h1,h2,h3.base hB.size⟩
theorem row_cs {w : World} {p : Option Addr} {us : List Value} {C i cp : Nat} (hp : Cs w p us) (h : (i + 1) * C ≤ cp) : Cs w (subp p 1 (i * C) cp) ((us.take ((i + 1) * C)).drop (i * C)) := by
 have := hp.sub (s := 1) (l := i * C) (hi := (i + 1) * C) (c := cp) (by rw [Nat.add_mul];omega) h
 simpa only [Nat.mul_one] using this
theorem cell_of_heap {w : World} {b : Nat} {Z : Array Value} {t : TypeId} {j : Nat} {v : Value} (h : w.heap[b]? = some (.cells Z t)) (hv : Z[j]? = some v) : w.cell? ⟨b,j,none⟩ = some v := by simp [World.cell?,h,hv]
theorem frozen_of_heap {w : World} {b : Nat} {Z : Array Value} {t : TypeId} {j : Nat} (h : w.heap[b]? = some (.cells Z t)) : w.frozen? ⟨b,j,none⟩ = false := by simp [World.frozen?,h]
theorem box2 {w W0 : World} {A B : Array Value} {ta tb : TypeId} (h : W0 = (w.alloc (.cells A ta)).alloc (.cells B tb)) : Ext w W0 ∧ W0.heap.size = w.heap.size + 2 ∧ W0.heap[w.heap.size]? = some (.cells A ta) ∧ W0.heap[w.heap.size + 1]? = some (.cells B tb) := by
 subst h;have e1 := Ext.alloc w (.cells A ta);have e2 := Ext.alloc (w.alloc (.cells A ta)) (.cells B tb);refine ⟨e1.trans e2,by simp,?_,?_⟩
 · rw [e2.block _ (by simp)];exact heap_alloc_new w _
 · have := heap_alloc_new (w.alloc (.cells A ta)) (.cells B tb)
   simpa using this
theorem box3 {w W0 : World} {A B C : Array Value} {ta tb tc : TypeId} (h : W0 = ((w.alloc (.cells A ta)).alloc (.cells B tb)).alloc (.cells C tc)) : Ext w W0 ∧ W0.heap.size = w.heap.size + 3 ∧ W0.heap[w.heap.size]? = some (.cells A ta) ∧ W0.heap[w.heap.size + 1]? = some (.cells B tb) ∧ W0.heap[w.heap.size + 2]? = some (.cells C tc) := by
 subst h;obtain ⟨h1,h2,h3,h4⟩ := box2 (w := w) (A := A) (B := B) (ta := ta) (tb := tb) rfl;have e3 := Ext.alloc ((w.alloc (.cells A ta)).alloc (.cells B tb)) (.cells C tc);refine ⟨h1.trans e3,by simp,?_,?_,?_⟩
 · rw [e3.block _ (by simp;omega)];exact h3
 · rw [e3.block _ (by simp)];exact h4
 · have := heap_alloc_new ((w.alloc (.cells A ta)).alloc (.cells B tb)) (.cells C tc)
   simpa using this
section
variable {P : Program} {w wf : World} {ops : Array Oper} {rest : List Oper} {o : Oper} {a : Act} {Q : Act → Prop} {F : Option Tmp → World → World → Value → Prop}
theorem x_alloc {t : TypeId} {Z : Array Value} (hw : Region.wanted o (yielded ops a.tmps) = true) (hr : ∀ w1,(execOp a.eval o).run P w1 = .ok (.value (.pointer (some ⟨w1.heap.size,0,none⟩))) (w1.alloc (.cells Z t)))
 (h : ∀ b,w.heap.size ≤ b → b < wf.heap.size → wf.heap[b]? = some (.cells Z t) → wpX P ops F w wf Q rest (a.put o.dst (.pointer (some ⟨b,0,none⟩)))) : wpX P ops F w wf Q (o :: rest) a :=
 x_made (V := fun wf u => ∃ b,u = .pointer (some ⟨b,0,none⟩) ∧ w.heap.size ≤ b ∧ b < wf.heap.size ∧ wf.heap[b]? = some (.cells Z t)) hw
  (fun w1 e1 => ⟨_,_,hr w1,Ext.alloc _ _,fun wf hf => ⟨w1.heap.size,rfl,e1.size,Nat.lt_of_lt_of_le (by simp) hf.size,by rw [hf.block _ (by simp)];exact heap_alloc_new w1 _⟩⟩)
  (fun u ⟨b,h1,h2,h3,h4⟩ => by subst h1;exact h b h2 h3 h4)
end
theorem jaj {S : Nat → Prop} {w w' : World} {B e s n : Nat} {v : Value} {vs : List Value} (h : w.ownsRow B e s v n vs) (k : Chg S w w') (hS : ∀ b,S b → b < B) : w'.ownsRow B e s v n vs := by
 obtain ⟨h1,h2⟩ := h;refine ⟨h1,?_⟩;rcases h2 with h2 | ⟨g,cap,cur,hv,hg,hh,r⟩
 · exact .inl h2
 · have hlt : g < w.heap.size := by
    rcases Nat.lt_or_ge g w.heap.size with h' | h'
    · exact h'
    · simp [Array.getElem?_eq_none h'] at hh
   exact .inr ⟨g,cap,cur,hv,hg,by rw [k.block g hlt (fun hs => by have := hS g hs;omega)];exact hh,r⟩
theorem jb1 {w : World} {B e s n : Nat} {v : Value} {vs : List Value} (h : w.ownsRow B e s v n vs) : ∃ q c,v = .slice q n c := by
 rcases h.2 with ⟨h1,h2⟩ | ⟨g,cap,cur,h1,_⟩
 · exact ⟨none,0,by rw [h1,h2]⟩
 · exact ⟨_,_,h1⟩
def jaq (w : World) (r c : Int) (xs : List Nat) (e : Ending) (w' : World) : Prop :=
 ∃ q cp vs,e = .returned (.agg #[.int .i64 r,.int .i64 c,.slice q xs.length cp]) ∧ w'.ownsRow w.heap.size 48 1 (.slice q xs.length cp) xs.length vs ∧ F32s vs xs ∧ Ext w w'
theorem jaq.of {w w' : World} {r c : Int} {xs : List Nat} {v : Value} {vs : List Value} {n : Nat} {e : Ending} (hl : xs.length = n) (h : w'.ownsRow w.heap.size 48 1 v n vs) (hf : F32s vs xs) (he : e = .returned (.agg #[.int .i64 r,.int .i64 c,v])) (hx : Ext w w') : jaq w r c xs e w' := by
 obtain ⟨q,cp,us,h1,h2,h3,h4⟩ := retFl_of hl h hf (e := .returned v) rfl hx;simp only [Ending.returned.injEq] at h1;subst h1;exact ⟨q,cp,us,he,h2,h3,h4⟩
section
variable {P : Program} {w wf : World} {ops : Array Oper} {rest : List Oper} {o : Oper} {a : Act} {Q : Act → Prop} {F : Option Tmp → World → World → Value → Prop}
theorem x_empty {te : TypeId} {s : Nat} (hw : Region.wanted o (yielded ops a.tmps) = true) (hr : ∀ w1,(execOp a.eval o).run P w1 = .ok (.value (.slice (some ⟨w1.heap.size,0,none⟩) 0 0)) (w1.alloc (.cells #[] te))) (hs : 0 ≤ maxLen)
 (h : ∀ b,wf.ownsRow w.heap.size te s (.slice (some ⟨b,0,none⟩) 0 0) 0 [] → wpX P ops F w wf Q rest (a.put o.dst (.slice (some ⟨b,0,none⟩) 0 0))) : wpX P ops F w wf Q (o :: rest) a :=
 x_made (V := fun wf u => ∃ b,u = .slice (some ⟨b,0,none⟩) 0 0 ∧ wf.ownsRow w.heap.size te s (.slice (some ⟨b,0,none⟩) 0 0) 0 []) hw
  (fun w1 e1 => ⟨_,_,hr w1,Ext.alloc _ _,fun wf hf => ⟨w1.heap.size,rfl,jai (World.ownsRow_made w1 #[] 0 e1.size hs (by simp)) hf⟩⟩)
  (fun u ⟨b,h1,h2⟩ => by subst h1;exact h b h2)
end
end Go.Proofs.YtlimabbeaimdgaaGreat
