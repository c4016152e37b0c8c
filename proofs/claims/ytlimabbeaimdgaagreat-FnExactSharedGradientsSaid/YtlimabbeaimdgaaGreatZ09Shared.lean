/- A part of the proofs: Tab, CpyM, Red, Tp, GrowX, Src3, OwnX, TnI. -/
import Derived.Test.YtlimabbeaimdgaaGreatZ08Shared
import Derived.Test.YtlimabbeaimdgaaGreatZ07Shared
import Derived.Test.YtlimabbeaimdgaaGreatZ04Shared
import Derived.Test.YtlimabbeaimdgaaGreatZ05Shared
import Derived.Laws.Bits128
import Derived.Laws.BytesArg
import Derived.Laws.IdiomStrings
import Derived.Test.YtlimabbeaimdgaaGreatZ03Shared
set_option linter.unusedSimpArgs false
set_option linter.unusedVariables false
set_option maxRecDepth 100000
set_option maxHeartbeats 16000000
namespace Go.Proofs.YtlimabbeaimdgaaGreat
open Go.RowKit
structure Tb (B : Nat) (E : Sh) (w : World) (p : Option Addr) (n c : Nat) (l : List E.T) (css : List (List Value)) (bss : List (List Nat)) : Prop where
 row : jbg w p n c css.flatten
 els : jc2 w E css bss l
 nodup : (jak p ++ bss.flatten).Nodup
 lo : ∀ b ∈ jak p ++ bss.flatten,B ≤ b
 len : l.length = n
 cap : n ≤ c ∧ c ≤ maxLen
theorem Tb.cnt {B : Nat} {E : Sh} {w : World} {p : Option Addr} {n c : Nat} {l : List E.T} {css : List (List Value)} {bss : List (List Nat)} (h : Tb B E w p n c l css bss) : css.length = n := by rw [h.els.1,h.len]
theorem Tb.all {B : Nat} {E : Sh} {w : World} {p : Option Addr} {n c : Nat} {l : List E.T} {css : List (List Value)} {bss : List (List Nat)} (h : Tb B E w p n c l css bss) : ∀ x ∈ css,x.length = E.sz := h.els.all
theorem Tb.ext {B : Nat} {E : Sh} {w w' : World} {p : Option Addr} {n c : Nat} {l : List E.T} {css : List (List Value)} {bss : List (List Nat)} (h : Tb B E w p n c l css bss) (e : Ext w w') : Tb B E w' p n c l css bss :=
 ⟨h.row.chg (.of_ext e (S := fun _ => False)) (fun _ _ h => h),h.els.chg (.of_ext e) (S := fun _ => False) (fun _ _ h => h),h.nodup,h.lo,h.len,h.cap⟩
theorem Tb.lt {B : Nat} {E : Sh} {w : World} {p : Option Addr} {n c : Nat} {l : List E.T} {css : List (List Value)} {bss : List (List Nat)} (h : Tb B E w p n c l css bss) : ∀ b ∈ jak p ++ bss.flatten,b < w.heap.size := by
 intro b hb;rcases List.mem_append.1 hb with hb | hb
 · exact h.row.lt b hb
 · exact h.els.lt b hb
theorem Tb.at {B : Nat} {E : Sh} {w : World} {p : Option Addr} {n c : Nat} {l : List E.T} {css : List (List Value)} {bss : List (List Nat)} (h : Tb B E w p n c l css bss) {i : Nat} (hi : i < n) : ∃ cs bs d,css[i]? = some cs ∧ bss[i]? = some bs ∧ l[i]? = some d ∧ Own w E cs d bs := by
 have h1 := h.els.1;have h2 := h.els.2.1;have h3 := h.len;exact ⟨css[i],bss[i],l[i],by simp,by simp,by simp,h.els.2.2 i _ _ _ (by simp) (by simp) (by simp)⟩
theorem jda : ∀ {bss : List (List Nat)} {i : Nat} {bs : List Nat},∀ b ∈ (bss.set i bs).flatten,b ∈ bss.flatten ∨ b ∈ bs
 | [],_,_,b,hb => by simp at hb
 | x :: bss,0,bs,b,hb => by
   simp only [List.set_cons_zero,List.flatten_cons,List.mem_append] at hb ⊢;rcases hb with h | h
   · exact .inr h
   · exact .inl (.inr h)
 | x :: bss,i + 1,bs,b,hb => by
   simp only [List.set_cons_succ,List.flatten_cons,List.mem_append] at hb ⊢;rcases hb with h | h
   · exact .inl (.inl h)
   · rcases jda b h with h | h
     · exact .inl (.inr h)
     · exact .inr h
theorem set_flat_nodup : ∀ {bss : List (List Nat)} {i : Nat} {bs : List Nat},bss.flatten.Nodup → bs.Nodup → (∀ b ∈ bs,b ∉ bss.flatten) → (bss.set i bs).flatten.Nodup
 | [],_,_,_,_,_ => by simp
 | x :: bss,0,bs,h,hb,hd => by
   rw [List.flatten_cons,List.nodup_append] at h;rw [List.set_cons_zero,List.flatten_cons,List.nodup_append];refine ⟨hb,h.2.1,fun a ha b hb' he => ?_⟩;subst he;exact hd a ha (by rw [List.flatten_cons];exact List.mem_append_right _ hb')
 | x :: bss,i + 1,bs,h,hb,hd => by
   rw [List.flatten_cons,List.nodup_append] at h;rw [List.set_cons_succ,List.flatten_cons,List.nodup_append];refine ⟨h.1,set_flat_nodup h.2.1 hb (fun b hb' hm => hd b hb' (by rw [List.flatten_cons];exact List.mem_append_right _ hm)),fun a ha b hb' he => ?_⟩;subst he;rcases jda a hb' with h' | h'
   · exact h.2.2 a ha a h' rfl
   · exact hd a h' (by rw [List.flatten_cons];exact List.mem_append_left _ ha)
theorem Tb.put {B : Nat} {E : Sh} {w0 w w' : World} {p : Option Addr} {n c : Nat} {l : List E.T} {css : List (List Value)} {bss : List (List Nat)} (h : Tb B E w0 p n c l css bss) (e : Ext w0 w) {i : Nat} (hi : i < n) {cs : List Value} {d : E.T} {bs : List Nat}
 (ho : Own w E cs d bs) (hn : bs.Nodup) (hf : ∀ b ∈ bs,w0.heap.size ≤ b) (hB : B ≤ w0.heap.size) (hr : jbg w' p n c (css.set i cs).flatten) (k : Chg (fun b => b ∈ jak p) w w') : Tb B E w' p n c (l.set i d) (css.set i cs) (bss.set i bs) := by
 have lt0 := h.lt;have h1 := h.els.1;have h2 := h.els.2.1;have h3 := h.len;obtain ⟨n1,n2,n3,n4⟩ := nodup_split h.nodup;have hels := (h.ext e).els;refine ⟨hr,⟨by simp [h1],by simp [h2],fun j cs' bs' d' g1 g2 g3 => ?_⟩,?_,?_,by rw [List.length_set];exact h3,h.cap⟩
 · by_cases hj : i = j
   · subst hj
     rw [List.getElem?_set_self (by omega)] at g1 g2 g3
     cases g1;cases g2;cases g3
     exact ho.chg k fun b hb hs => by have := hf b hb;have := lt0 b (List.mem_append_left _ hs);omega
   · rw [List.getElem?_set_ne hj] at g1 g2 g3
     exact (hels.2.2 j cs' bs' d' g1 g2 g3).chg k fun b hb hs => n3 b hs (List.mem_flatten.2 ⟨bs',List.mem_of_getElem? g2,hb⟩)
 · rw [List.nodup_append]
   refine ⟨n1,set_flat_nodup n2 hn (fun b hb hm => by have := hf b hb;have := lt0 b (List.mem_append_right _ hm);omega),fun a ha b hb he => ?_⟩;subst he;rcases jda a hb with h' | h'
   · exact n3 a ha h'
   · have := hf a h';have := lt0 a (List.mem_append_left _ ha);omega
 · intro b hb
   rcases List.mem_append.1 hb with hb | hb
   · exact h.lo b (List.mem_append_left _ hb)
   · rcases jda b hb with h' | h'
     · exact h.lo b (List.mem_append_right _ h')
     · have := hf b h';omega
section
variable {P : Program} {w : World} {ops : Array Oper} {rest : List Oper} {o : Oper} {a : Act} {Q : Exit → Act → World → Prop}
theorem wl_store1 {t : TypeId} [Cell1 P t] {x y : Operand} (hg : o.guard = none) (ho : o.op = .store t x y) {q : Addr} {u v : Value} (hx : a.eval x = .pointer (some q)) (hy : a.eval y = u) (hu : u.oneCell' = true) (hc : w.cell? q = some v) (hf : w.frozen? q = false)
 (h : wpList P ops Q rest (a.put o.dst undef) (w.setCell q u)) : wpList P ops Q (o :: rest) a w :=
 ja9 hg (w' := w.setCell q u) (by simp [execOp,ho,hx,hy,run_store1 hc hf hu]) h
end
def HB (w : World) (b : Nat) (Z : Array Value) (t : TypeId) : Prop := w.heap[b]? = some (.cells Z t)
theorem HB.cell {w : World} {b : Nat} {Z : Array Value} {t : TypeId} (h : HB w b Z t) (j : Nat) {v : Value} (hv : Z[j]? = some v) : w.cell? ⟨b,j,none⟩ = some v := cell_of_heap h hv
theorem HB.froz {w : World} {b : Nat} {Z : Array Value} {t : TypeId} (h : HB w b Z t) (j : Nat) : w.frozen? ⟨b,j,none⟩ = false := frozen_of_heap h
theorem HB.ext {w w' : World} {b : Nat} {Z : Array Value} {t : TypeId} (h : HB w b Z t) (e : Ext w w') : HB w' b Z t := by
 have hb : b < w.heap.size := by
  rcases Nat.lt_or_ge b w.heap.size with h' | h'
  · exact h'
  · unfold HB at h;simp [Array.getElem?_eq_none h'] at h
 unfold HB at *;rw [e.block b hb];exact h
theorem HB.lt {w : World} {b : Nat} {Z : Array Value} {t : TypeId} (h : HB w b Z t) : b < w.heap.size := by
 rcases Nat.lt_or_ge b w.heap.size with h' | h'
 · exact h'
 · unfold HB at h;simp [Array.getElem?_eq_none h'] at h
theorem HB.chg {S : Nat → Prop} {w w' : World} {b : Nat} {Z : Array Value} {t : TypeId} (h : HB w b Z t) (k : Chg S w w') (hS : ¬ S b) : HB w' b Z t := by
 have hb := h.lt;unfold HB at *;rw [k.block b hb hS];exact h
theorem HB.set {w : World} {b : Nat} {Z : Array Value} {t : TypeId} (h : HB w b Z t) (j : Nat) (v : Value) : HB (w.setCell ⟨b,j,none⟩ v) b (Z.setIfInBounds j v) t := by
 unfold HB at *;simp [World.setCell,Array.getElem?_modify,h]
theorem HB.new (w : World) (Z : Array Value) (t : TypeId) : HB (w.alloc (.cells Z t)) w.heap.size Z t := heap_alloc_new w _
theorem jco (w : World) (b j : Nat) (u : Value) : Chg (fun k => k = b) w (w.setCell ⟨b,j,none⟩ u) := ⟨rfl,rfl,rfl,by simp [World.setCell],fun k hk hn => Below.heap_setCell _ _ _ _ (fun h => hn h)⟩
section
variable {P : Program} {w : World} {ops : Array Oper} {rest : List Oper} {o : Oper} {a : Act} {Q : Exit → Act → World → Prop}
theorem wl_stHB {t : TypeId} [Cell1 P t] {x y : Operand} (hg : o.guard = none) (ho : o.op = .store t x y) {b j : Nat} {Z : Array Value} {te : TypeId} {u v : Value} (hb : HB w b Z te) (hj : Z[j]? = some v) (hx : a.eval x = .pointer (some ⟨b,j,none⟩)) (hy : a.eval y = u) (hu : u.oneCell' = true)
 (h : ∀ w',HB w' b (Z.setIfInBounds j u) te → Chg (fun k => k = b) w w' → wpList P ops Q rest (a.put o.dst undef) w') : wpList P ops Q (o :: rest) a w :=
 wl_store1 hg ho hx hy hu (hb.cell j hj) (hb.froz j) (h _ (hb.set j u) ⟨rfl,rfl,rfl,by simp [World.setCell],fun k hk hn => Below.heap_setCell _ _ _ _ (fun h => hn h)⟩)
end
def Small (L : List jac.T) : Prop := L.length ≤ 12 ∧ ∀ d ∈ L,(d.2.2.2.1 : List Nat).length ≤ 64 ∧ (d.2.2.2.2.1 : List Nat).length ≤ 64
theorem lay_full {w : World} {cs : List Value} {d : jac.T} (h : Rep w jac cs d) : ∃ pw cw pb cb uw ub,cs = [.int .i64 d.1,.int .i64 d.2.1,.int .i64 d.2.2.1,.slice pw (d.2.2.2.1 : List Nat).length cw,.slice pb (d.2.2.2.2.1 : List Nat).length cb] ∧
 (Cs w pw uw ∧ F32s uw d.2.2.2.1 ∧ (d.2.2.2.1 : List Nat).length ≤ cw) ∧ (Cs w pb ub ∧ F32s ub d.2.2.2.2.1 ∧ (d.2.2.2.2.1 : List Nat).length ≤ cb) := by
 obtain ⟨a1,a2,a3,a4,a5,au⟩ := d;obtain ⟨_,_,rfl,rfl,_,_,rfl,rfl,_,_,rfl,rfl,_,_,rfl,h4,_,_,rfl,h5,rfl⟩ := h;obtain ⟨p4,c4,u4,rfl,g1,g2,g3,_⟩ := rep_flts.1 h4;obtain ⟨p5,c5,u5,rfl,k1,k2,k3,_⟩ := rep_flts.1 h5;exact ⟨p4,c4,p5,c5,u4,u5,rfl,⟨g1,g2,g3⟩,⟨k1,k2,k3⟩⟩
theorem tab_selfR (xs : List Nat) : tab xs.length (fun i => xs.getD i 0) = xs := by
 apply List.ext_getElem?;intro j;unfold tab
 by_cases hj : j < xs.length
 · simp [hj]
 · simp [show xs.length ≤ j by omega]
def addF (a b : List Nat) : List Nat := tab a.length fun i => fop .add .f32 (a.getD i 0) (b.getD i 0)
theorem addF_len (a b : List Nat) : (addF a b).length = a.length := tab_len _ _
def sumK (l : List (List Nat)) (f j : Nat) : Nat → Nat
 | 0 => (l.getD f []).getD j 0
 | i + 1 => fop .add .f32 (sumK l f j i) ((l.getD ((f + i + 1) % l.length) []).getD j 0)
def fstR (k : Int) (n j : Nat) : Nat := if k = 2 then j % n else 0
def ringF (k : Int) (l : List (List Nat)) : List Nat := tab (l.getD 0 []).length fun j => sumK l (fstR k l.length j) j (l.length - 1)
def prF (l : List (List Nat)) (j : Nat) : List Nat := if 2 * j + 1 < l.length then addF (l.getD (2 * j) []) (l.getD (2 * j + 1) []) else l.getD (2 * j) []
def ltab (n : Nat) (f : Nat → List Nat) : List (List Nat) := (List.range n).map f
theorem ltab_len (n : Nat) (f : Nat → List Nat) : (ltab n f).length = n := by simp [ltab]
theorem ltab_get {n i : Nat} (f : Nat → List Nat) (h : i < n) : (ltab n f).getD i [] = f i := by simp [ltab,h]
theorem ltab_succ (n : Nat) (f : Nat → List Nat) : ltab (n + 1) f = ltab n f ++ [f n] := by simp [ltab,List.range_succ]
def pairF (l : List (List Nat)) : List (List Nat) := ltab ((l.length + 1) / 2) (prF l)
theorem pairF_len (l : List (List Nat)) : (pairF l).length = (l.length + 1) / 2 := ltab_len _ _
def treeN : Nat → List (List Nat) → List Nat
 | 0,l => l.getD 0 []
 | n + 1,l => if l.length ≤ 1 then l.getD 0 [] else treeN n (pairF l)
theorem treeN_eq : ∀ (n m : Nat) (l : List (List Nat)),l.length ≤ n → l.length ≤ m → treeN n l = treeN m l
 | 0,0,_,_,_ => rfl
 | 0,m + 1,l,h,_ => by show l.getD 0 [] = treeN (m + 1) l;unfold treeN;rw [if_pos (by omega)]
 | n + 1,0,l,_,h => by show treeN (n + 1) l = l.getD 0 [];unfold treeN;rw [if_pos (by omega)]
 | n + 1,m + 1,l,h1,h2 => by
   unfold treeN
   by_cases h : l.length ≤ 1
   · rw [if_pos h,if_pos h]
   · rw [if_neg h,if_neg h]
     exact treeN_eq n m (pairF l) (by rw [pairF_len];omega) (by rw [pairF_len];omega)
def treeF (l : List (List Nat)) : List Nat := treeN l.length l
theorem treeF_one {l : List (List Nat)} (h : l.length ≤ 1) : treeF l = l.getD 0 [] := by
 unfold treeF
 cases hl : l.length with
 | zero => rfl
 | succ n => unfold treeN;rw [if_pos (by omega)]
theorem treeF_pair {l : List (List Nat)} (h : 1 < l.length) : treeF l = treeF (pairF l) := by
 obtain ⟨n,hn⟩ : ∃ n,l.length = n + 1 := ⟨l.length - 1,by omega⟩;unfold treeF;rw [hn];show (if l.length ≤ 1 then l.getD 0 [] else treeN n (pairF l)) = _;rw [if_neg (by omega)];exact treeN_eq _ _ _ (by rw [pairF_len];omega) (Nat.le_refl _)
def redF (k : Int) (l : List (List Nat)) : List Nat := if k = 1 then treeF l else ringF k l
def EvenL (l : List (List Nat)) (N : Nat) : Prop := ∀ i,i < l.length → (l.getD i []).length = N
theorem EvenL.pair {l : List (List Nat)} {N : Nat} (h : EvenL l N) : EvenL (pairF l) N := by
 intro i hi;rw [pairF_len] at hi;unfold pairF;rw [ltab_get _ hi];unfold prF
 by_cases h1 : 2 * i + 1 < l.length
 · rw [if_pos h1,addF_len];exact h _ (by omega)
 · rw [if_neg h1];exact h _ (by omega)
theorem EvenL.tree : ∀ {n : Nat} {l : List (List Nat)} {N : Nat},l.length = n → 1 ≤ n → EvenL l N → (treeF l).length = N := by
 intro n
 induction n using Nat.strongRecOn with
 | _ n ih =>
   intro l N hl h1 h
   by_cases h2 : l.length ≤ 1
   · rw [treeF_one h2];exact h 0 (by omega)
   · rw [treeF_pair (by omega)]
     exact ih _ (by rw [← hl];omega) (pairF_len l) (by omega) h.pair
theorem EvenL.red {l : List (List Nat)} {N : Nat} (h : EvenL l N) (h1 : 1 ≤ l.length) (k : Int) : (redF k l).length = N := by
 unfold redF
 split
 · exact h.tree rfl h1
 · unfold ringF;rw [tab_len];exact h 0 (by omega)
def lineF (l : List (List Nat)) (t : Nat) : List Nat := tab (l.getD 0 []).length fun j => sumK l 0 j t
theorem lineF_zero (l : List (List Nat)) : lineF l 0 = l.getD 0 [] := by
 unfold lineF
 apply List.ext_getElem?;intro j;unfold tab sumK
 by_cases hj : j < (l.getD 0 []).length
 · simp only [List.getElem?_map,List.getElem?_range hj,Option.map_some]
   rw [List.getD_eq_getElem?_getD (l := l.getD 0 []) (i := j),List.getElem?_eq_getElem hj];rfl
 · rw [List.getElem?_eq_none (by rw [List.length_map,List.length_range];omega),List.getElem?_eq_none (by omega)]
theorem lineF_succ (l : List (List Nat)) {t : Nat} (h : t + 1 < l.length) : lineF l (t + 1) = addF (lineF l t) (l.getD (t + 1) []) := by
 unfold addF;have e : (lineF l t).length = (l.getD 0 []).length := tab_len _ _;rw [e];unfold lineF tab
 apply List.map_congr_left;intro j hj;rw [List.mem_range] at hj;show sumK l 0 j (t + 1) = _;rw [show (List.getD ((List.range (l.getD 0 []).length).map fun j => sumK l 0 j t) j 0) = sumK l 0 j t from tab_get (fun j => sumK l 0 j t) hj];show fop .add .f32 (sumK l 0 j t) ((l.getD ((0 + t + 1) % l.length) []).getD j 0) = _;rw [Nat.zero_add,Nat.mod_eq_of_lt h]
theorem lineF_last {l : List (List Nat)} {k : Int} (h : k ≠ 1) (h2 : k ≠ 2) : redF k l = lineF l (l.length - 1) := by
 unfold redF;rw [if_neg h];unfold ringF fstR lineF;simp only [if_neg h2]
structure Fls (w : World) (p : Option Addr) (n : Nat) (us : List Value) (l : List (List Nat)) : Prop where
 cs : Cs w p us
 at' : ∀ i,i < n → ∃ q c vs,us[i]? = some (.slice q (l.getD i []).length c) ∧ Cs w q vs ∧ F32s vs (l.getD i []) ∧ (l.getD i []).length ≤ c
 len : l.length = n
 cnt : us.length = n
theorem Fls.ext {w w' : World} {p : Option Addr} {n : Nat} {us : List Value} {l : List (List Nat)} (h : Fls w p n us l) (e : Ext w w') : Fls w' p n us l :=
 ⟨h.cs.ext e,fun i hi => by obtain ⟨q,c,vs,h1,h2,h3,h4⟩ := h.at' i hi;exact ⟨q,c,vs,h1,h2.ext e,h3,h4⟩,h.len,h.cnt⟩
theorem fls_of {w : World} {v : Value} {l : List (List Nat)} (h : Rep w (.sl (.sl .flt)) [v] l) : ∃ p c us,v = .slice p l.length c ∧ Fls w p l.length us l ∧ l.length ≤ c ∧ c ≤ maxLen ∧ ∀ i,i < l.length → (l.getD i []).length ≤ maxLen := by
 obtain ⟨p,c,css,h1,a2,a3,a4,a5⟩ := h
 cases h1
 have a6 : ∀ c ∈ css,c.length = 1 := fun c hc => by obtain ⟨i,hi,rfl⟩ := List.mem_iff_getElem.1 hc;obtain ⟨_,h⟩ := a5.get' i (by rw [← a5.length];exact hi);exact h.size
 have hget : ∀ i (hi : i < l.length),∃ q c vs,css.flatten[i]? = some (.slice q (l.getD i []).length c) ∧ Cs w q vs ∧ F32s vs (l.getD i []) ∧ (l.getD i []).length ≤ c ∧ c ≤ maxLen := by
  intro i hi;obtain ⟨h1,h2⟩ := a5.get' i hi;obtain ⟨q,c,vs,g1,k1,k2,k3,k4⟩ := rep_flts.1 h2;have e : l.getD i [] = l[i] := by simp [hi]
  rw [e];refine ⟨q,c,vs,?_,k1,k2,k3,k4⟩;have := flat_get' (j := 0) a6 h1 (by decide);rw [Nat.mul_one,Nat.add_zero,g1] at this
  simpa using this
 refine ⟨p,c,css.flatten,rfl,⟨a2,fun i hi => ?_,rfl,?_⟩,a3,a4,fun i hi => ?_⟩
 · obtain ⟨q,c,vs,k1,k2,k3,k4,_⟩ := hget i hi;exact ⟨q,c,vs,k1,k2,k3,k4⟩
 · rw [flat_len' a6,Nat.mul_one,a5.length]
 · obtain ⟨q,c,vs,k1,k2,k3,k4,k5⟩ := hget i hi;exact Nat.le_trans k4 k5
theorem getD_app {A : Type} (l k : List A) (d : A) (j : Nat) : (l ++ k).getD j d = if j < l.length then l.getD j d else k.getD (j - l.length) d := by
 by_cases h : j < l.length
 · rw [if_pos h];simp [List.getD_eq_getElem?_getD,List.getElem?_append_left h]
 · rw [if_neg h];simp [List.getD_eq_getElem?_getD,List.getElem?_append_right (Nat.le_of_not_lt h)]
theorem getD_appl {A : Type} (l k : List A) (d : A) (j : Nat) (h : j < l.length) : (l ++ k).getD j d = l.getD j d := by rw [getD_app,if_pos h]
theorem jdo {A : Type} (l k : List A) (d : A) (j : Nat) (h : l.length ≤ j) : (l ++ k).getD j d = k.getD (j - l.length) d := by rw [getD_app,if_neg (by omega)]
def ntab (n : Nat) (f : Nat → Nat) : List Nat := (List.range n).map f
theorem jae (n : Nat) (f : Nat → Nat) : (ntab n f).length = n := by simp [ntab]
theorem ntab_get {n i : Nat} (f : Nat → Nat) (h : i < n) : (ntab n f).getD i 0 = f i := by simp [ntab,h]
theorem ntab_succ (n : Nat) (f : Nat → Nat) : ntab (n + 1) f = ntab n f ++ [f n] := by simp [ntab,List.range_succ]
theorem ntab_congr {n : Nat} {f g : Nat → Nat} (h : ∀ i,i < n → f i = g i) : ntab n f = ntab n g := by
 unfold ntab;exact List.map_congr_left fun i hi => h i (by simpa using hi)
def addX (n : Nat) (xs ys : List Nat) : List Nat := ntab n fun i => fop .add .f32 (xs.getD i 0) (ys.getD i 0)
def mulX (n : Nat) (xs ys : List Nat) : List Nat := ntab n fun i => fop .mul .f32 (xs.getD i 0) (ys.getD i 0)
def addRX (n c : Nat) (xs ys : List Nat) : List Nat := ntab n fun i => fop .add .f32 (xs.getD i 0) (ys.getD (i % c) 0)
def mulRX (n c : Nat) (xs ys : List Nat) : List Nat := ntab n fun i => fop .mul .f32 (xs.getD i 0) (ys.getD (i % c) 0)
def sclX (n : Nat) (xs : List Nat) (z : Nat) : List Nat := ntab n fun i => fop .mul .f32 (xs.getD i 0) z
def rluX (n : Nat) (xs : List Nat) : List Nat := ntab n fun i => reluF (xs.getD i 0)
def jc8 (r c : Nat) (xs : List Nat) : List Nat := ntab (c * r) fun k => xs.getD (k % r * c + k / r) 0
def mmX (a n b : Nat) (xs ys : List Nat) : List Nat := ntab (a * b) fun k => dotG (fun j => xs.getD (k / b * n + j) 0) (fun j => ys.getD (j * b + k % b) 0) n
def colG (c j : Nat) (xs : List Nat) : Nat → Nat
 | 0 => 0
 | m + 1 => if m % c = j then fop .add .f32 (colG c j xs m) (xs.getD m 0) else colG c j xs m
def sumRX (c : Nat) (xs : List Nat) : List Nat := ntab c fun j => colG c j xs xs.length
def rpX (n : Nat) (xs gs : List Nat) : List Nat := ntab n fun i => if fgt .f32 (xs.getD i 0) 0 then gs.getD i 0 else 0
theorem jcj {b i k : Nat} (hk : k < b) : (i * b + k) / b = i ∧ (i * b + k) % b = k := by
 have hb : 0 < b := by omega
 constructor
 · rw [Nat.mul_comm,Nat.mul_add_div hb,Nat.div_eq_of_lt hk,Nat.add_zero]
 · rw [Nat.mul_comm,Nat.mul_add_mod,Nat.mod_eq_of_lt hk]
theorem row_lt {b i k a : Nat} (hi : i < a) (hk : k < b) : i * b + k < a * b := by
 have := Nat.mul_le_mul_right b (show i + 1 ≤ a by omega);rw [Nat.add_mul,Nat.one_mul] at this;omega
section
variable {P : Program} {w : World} {o : Oper} {a : Act}
theorem run_build1 {t e s b : Nat} {z : Value} [T : SlTy P t e s z b] {x1 : Operand} {u : Value} (ho1 : o.op = .buildSlice t 1 #[(0,x1)]) (hx : a.eval x1 = u) (hu : u.cells.size = s) (w : World) :
 (execOp a.eval o).run P w = .ok (.value (.slice (some ⟨w.heap.size,0,none⟩) 1 1)) (w.alloc (.cells u.cells e)) := by
 obtain ⟨ti,hi,hzz⟩ := Option.map_eq_some_iff.1 T.inf;simp only [Prod.mk.injEq] at hzz;have hund := T.und;have hpos := T.pos;have hs24 := T.few
 have hfill : Instr.fill (fun i => some (i * s,s)) ((Array.range (1 * s)).map (z.cells[· % z.cells.size]!)) [(0,u)] = some u.cells := by
  simp only [Instr.fill,hu,Array.size_map,Array.size_range,Nat.zero_mul,Nat.zero_add,Nat.one_mul,Nat.lt_irrefl,ne_eq,not_true_eq_false,decide_false,Bool.or_self,gt_iff_lt,Bool.false_eq_true,if_false]
  congr 1
  exact wl_app1.fill_all (w := w) (s := s) (b := b) (u := u) (B := 0) (n := 0) _ _ (by simp [hu])
 simp [execOp,ho1,hx,Instr.buildSlice,run_underlying hund,sizeOf,typeInfo,hi,hzz.2.1,zeroValue,hzz.1,show ¬ 16777216 < s by omega,show ¬ s = 0 by omega,newRow];rw [show (Array.map (fun x => z.cells[x % z.cells.size]!) (Array.range s)) = (Array.range (1 * s)).map (z.cells[· % z.cells.size]!) by rw [Nat.one_mul],hfill];simp
end
theorem cs_heap {w : World} {b : Nat} {Z : Array Value} {t : TypeId} (h : w.heap[b]? = some (.cells Z t)) : Cs w (some ⟨b,0,none⟩) Z.toList := by
 refine ⟨fun i u hu => ?_,fun _ => rfl⟩;rw [jbo];unfold World.cell?;rw [h]
 simpa using hu
section
variable {P : Program} {w wf : World} {ops : Array Oper} {rest : List Oper} {o : Oper} {a : Act} {Q : Act → Prop} {F : Option Tmp → World → World → Value → Prop}
theorem jb7 {t e s b : Nat} {z : Value} [T : SlTy P t e s z b] {x1 : Operand} {u : Value} (hw : Region.wanted o (yielded ops a.tmps) = true) (ho1 : o.op = .buildSlice t 1 #[(0,x1)]) (hx : a.eval x1 = u) (hu : u.cells.size = s)
 (h : ∀ g,w.heap.size ≤ g → g < wf.heap.size → Cs wf (some ⟨g,0,none⟩) u.cells.toList → wpX P ops F w wf Q rest (a.put o.dst (.slice (some ⟨g,0,none⟩) 1 1))) : wpX P ops F w wf Q (o :: rest) a :=
 x_made (V := fun wf v => ∃ g,v = .slice (some ⟨g,0,none⟩) 1 1 ∧ w.heap.size ≤ g ∧ g < wf.heap.size ∧ Cs wf (some ⟨g,0,none⟩) u.cells.toList) hw
  (fun w1 e1 => ⟨_,_,run_build1 ho1 hx hu w1,Ext.alloc _ _,fun wf hf => ⟨w1.heap.size,rfl,e1.size,Nat.lt_of_lt_of_le (by simp) hf.size,cs_heap (by rw [hf.block _ (by simp)];exact heap_alloc_new w1 _)⟩⟩)
  (fun v ⟨g,h1,h2,h3,h4⟩ => by subst h1;exact h g h2 h3 h4)
end
section
variable {P : Program} {w : World} {ops : Array Oper} {rest : List Oper} {o : Oper} {a : Act} {Q : Exit → Act → World → Prop}
theorem jb9 {t e s b : Nat} {z : Value} [T : SlTy P t e s z b] {x1 x2 : Operand} {v : Value} {B n c : Nat} {vs us : List Value} {q : Addr}
 (hg : o.guard = none) (ho : o.op = .call { callee := .builtin .append,args := #[x1,x2],argTypes := #[t,t] }) (hx1 : a.eval x1 = v) (hx2 : a.eval x2 = .slice (some q) 1 c) (how : w.ownsRow B e s v n vs) (hc : Cs w (some q) us) (hm : us.length = s) (h1 : ∀ u ∈ us,u.oneCell' = true)
 (hn : n + 1 ≤ maxLen) (hb : (n + 1) * b ≤ 140737488355328) (hB : B ≤ w.heap.size)
 (h : ∀ g c w',w'.ownsRow B e s (.slice (some ⟨g,0,none⟩) (n + 1) c) (n + 1) (vs ++ us) → w.grownBy w' v.ownBlock → (v.ownBlock = some g ∨ w.heap.size ≤ g) →
  wpList P ops Q rest (a.put o.dst (.slice (some ⟨g,0,none⟩) (n + 1) c)) w') : wpList P ops Q (o :: rest) a w := by
 obtain ⟨ti,hi,hzz⟩ := Option.map_eq_some_iff.1 T.inf;simp only [Prod.mk.injEq] at hzz;have hund := T.und;have hpos := T.pos;refine wpList_append_own_at _ hg x1 x2 t ho B e ti z s b hund hi hzz.1 hzz.2.1 hzz.2.2 T.zs hpos v n vs hx1 how q 1 c us hx2 (by omega) (fun j u hj => hc.cell j u hj) h1 hn hb hB ?_;intro v' w' h1 h2 h3 h4;rcases h1.2 with ⟨_,h5⟩ | ⟨g,cap,cur,rfl,_⟩
 · omega
 · refine h g cap w' h1 h2 ?_
   rcases h4 with h4 | h4
   · left;rw [← h4];rfl
   · right;simp [Value.ownBlock] at h4;omega
end
theorem jax.snoc2 {w0 w w' : World} {B : Nat} {te : TypeId} {E : Sh} {v : Value} {l : List E.T} {css : List (List Value)} {bss : List (List Nat)} (h : jax w0 B te E v l css bss) (hx : Ext w0 w) {cs : List Value} {d : E.T} {bs : List Nat}
 (ho : Own w E cs d bs) (hn : bs.Nodup) (hf : ∀ b ∈ bs,w0.heap.size ≤ b) (hB : B ≤ w0.heap.size) {g c n : Nat} (hln : l.length = n) (hr : w'.ownsRow B te E.sz (.slice (some ⟨g,0,none⟩) (n + 1) c) (n + 1) (css.flatten ++ cs)) (hg : w.grownBy w' v.ownBlock) (hw : v.ownBlock = some g ∨ w.heap.size ≤ g) :
 jax w' B te E (.slice (some ⟨g,0,none⟩) (n + 1) c) (l ++ [d]) (css ++ [cs]) (bss ++ [bs]) := by
 subst hln;have lt0 := h.els.lt;have hv : ∀ k,v.ownBlock = some k → k < w0.heap.size := own_lt h.row;have hsz := hx.size;have ch : Chg (fun k => some k = v.ownBlock) w w' := Chg.of_grown hg;refine ⟨by simpa [List.flatten_append] using hr,?_,?_,?_⟩
 · refine jc2.snoc ((h.els.chg (.of_ext hx) (S := fun _ => False) (fun _ _ h => h)).chg ch (fun b hb hk => (h.lo b hb).2 hk.symm)) (ho.chg ch fun b hb hk => ?_)
   have := hv b hk.symm;have := hf b hb;omega
 · rw [List.flatten_append,List.flatten_cons,List.flatten_nil,List.append_nil]
   exact nodup_app h.nodup hn lt0 hf
 · intro b hb
   rw [List.flatten_append,List.flatten_cons,List.flatten_nil,List.append_nil,List.mem_append] at hb
   have hlb : b < w.heap.size := by
    rcases hb with hb | hb
    · have := lt0 b hb;omega
    · exact ho.lt b hb
   refine ⟨?_,fun hk => ?_⟩
   · rcases hb with hb | hb
     · exact (h.lo b hb).1
     · have := hf b hb;omega
   · simp [Value.ownBlock] at hk;subst hk
     rcases hw with hw | hw
     · rcases hb with hb | hb
       · exact (h.lo _ hb).2 hw
       · have := hv _ hw;have := hf _ hb;omega
     · omega
theorem jal {w w' : World} {B e s n : Nat} {v : Value} {vs : List Value} {S : Nat → Prop} (h : w.ownsRow B e s v n vs) (x : Chg S w w') (hS : ∀ k,v.ownBlock = some k → ¬ S k) : w'.ownsRow B e s v n vs := by
 have hlt0 := own_lt h;obtain ⟨h1,h2⟩ := h;refine ⟨h1,?_⟩;rcases h2 with h2 | ⟨g,cap,cur,hv,hg,hh,r⟩
 · exact .inl h2
 · have hob : v.ownBlock = some g := by rw [hv];rfl
   exact .inr ⟨g,cap,cur,hv,hg,by rw [x.block g (hlt0 g hob) (hS g hob)];exact hh,r⟩
theorem jag {w : World} {B e s n hb t : Nat} {v : Value} {vs : List Value} {Z : Array Value} (h : w.ownsRow B e s v n vs) (k : HB w hb Z t) (ht : e ≠ t) : ∀ b,v.ownBlock = some b → b ≠ hb := by
 rintro b hb' rfl
 rcases h with ⟨_,⟨rfl,_⟩ | ⟨g,arr,c,rfl,_,hg,_⟩⟩
 · cases hb'
 · cases hb'
   have k' : w.heap[g]? = some (.cells Z t) := k;rw [hg] at k'
   cases k'
   exact ht rfl
section
variable {P : Program} {w wf : World} {ops : Array Oper} {rest : List Oper} {o : Oper} {a : Act} {Q : Act → Prop} {F : Option Tmp → World → World → Value → Prop}
theorem run_callv {f : FuncId} {xs : Array Operand} {ts : Array TypeId} {args cap : Array Value} {x : Operand} (ho : o.op = .call { callee := .value x,args := xs,argTypes := ts }) (hx : a.eval x = .func (.func f) #[] cap)
 (eg : ∀ args w,(callFunc f args).run P w = .ok (.enter f args) w) (hargs : xs.map a.eval = args) (w : World) : (execOp a.eval o).run P w = .ok (.enter f (args ++ cap)) w := by
 subst hargs;simp only [execOp,ho,resolve,hx,Deferred.ofValue,invoke,Sem.run_bind,Sem.run_pure,Result.andThen_ok,eg];simp [invoke,eg,Sem.run_bind,Sem.run_pure]
theorem y_callv {f : FuncId} {xs : Array Operand} {ts : Array TypeId} {args cap : Array Value} {x : Operand} (hw : Region.wanted o (yielded ops a.tmps) = true) (ho : o.op = .call { callee := .value x,args := xs,argTypes := ts }) (hx : a.eval x = .func (.func f) #[] cap)
 (eg : ∀ args w,(callFunc f args).run P w = .ok (.enter f args) w) (hargs : xs.map a.eval = args)
 (hc : ∀ w1,Ext w w1 → Calls P f (args ++ cap) w1 (fun e w3 => ∃ u,e = .returned u ∧ Ext w1 w3 ∧ F o.dst w1 w3 u))
 (h : ∀ u w1 w3,Ext w w1 → Ext w1 w3 → Ext w3 wf → F o.dst w1 w3 u → wpX P ops F w wf Q rest (a.put o.dst u)) : wpX P ops F w wf Q (o :: rest) a := by
 have hr := fun w1 => run_callv (P := P) (a := a) ho hx eg hargs w1
 refine ⟨fun _ w1 h1 hk => ?_,fun u hu => ?_⟩
 · rw [hr w1];exact ⟨Ext.refl _,hc w1 h1⟩
 · rcases hu with ⟨_,w1,h1,hk,h2⟩ | ⟨hw',_⟩
   · rw [hr w1] at h2
     obtain ⟨w3,h3,h4,h5⟩ := h2;exact h u w1 w3 h1 h3 h4 h5
   · rw [hw] at hw';cases hw'
end
def MapOk (fn : Nat) (cap : Array Value) (xs : List Nat) (f : Nat → Nat) (w : World) : Prop :=
 ∀ (i b : Nat) (W : World),i < xs.length → cn .f32 b = xs.getD i 0 → Ext w W → Calls Tryz.prog fn (#[.int .i64 i,.float .f32 b] ++ cap) W (RF .f32 W (f i))
theorem jca {vs : List Value} {f : Nat → Nat} {i b : Nat} (h : F32s vs (ntab i f)) (hb : cn .f32 b = f i) : F32s (vs ++ [.float .f32 b]) (ntab (i + 1) f) := by
 rw [ntab_succ];refine ⟨by simp [h.1],fun j hj => ?_⟩
 by_cases e : j < vs.length
 · obtain ⟨c,h1,h2⟩ := h.2 j (by simpa using (by rw [← h.1];exact e))
   refine ⟨c,by rw [List.getElem?_append_left e];exact h1,?_⟩;rw [h2,getD_appl _ _ _ _ (by rw [← h.1];exact e)]
 · have h1 := h.1
   have hj' : j = vs.length := by simp [← h1] at hj;omega
   subst hj';refine ⟨b,by simp,?_⟩;rw [hb,h1,jdo _ _ _ _ (Nat.le_refl _)];have : i = vs.length := by rw [h1,jae]
   simp [jae]
theorem own_nil0 {w : World} {B e s : Nat} : w.ownsRow B e s (.slice none 0 0) 0 [] := ⟨by simp,.inl ⟨rfl,rfl⟩⟩
theorem mapped_any (fn : Nat) (cap : Array Value) (eg : ∀ args w,(callFunc fn args).run Tryz.prog w = .ok (.enter fn args) w) (r c : Int) (p : Option Addr) (n cp : Nat) (us : List Value) (xs : List Nat) (f : Nat → Nat) (w : World) (hx : xs.length = n) (hn : n ≤ 1048576) (hp : Cs w p us) (hf : F32s us xs) (hm : MapOk fn cap xs f w) :
 Calls Tryz.prog 112 #[.agg #[.int .i64 r,.int .i64 c,.slice p n cp],.func (.func fn) #[] cap] w (jaq w r c (ntab n f)) := by
 have X := hid hx;have M := hid hm;clear hx hm;obtain ⟨W0,hW0⟩ : ∃ W0,W0 = ((w.alloc (.cells #[.int .i64 r,.int .i64 c,.slice p n cp] 37)).alloc (.cells #[.int .i64 0,.int .i64 0,.slice none 0 0] 37)).alloc (.cells #[.int .i64 r,.int .i64 c,.slice none 0 0] 37) := ⟨_,rfl⟩;obtain ⟨E0,s0,b0,b1,b2⟩ := box3 hW0;have b1 : HB W0 (w.heap.size + 1) #[.int .i64 0,.int .i64 0,.slice none 0 0] 37 := b1;have b2 : HB W0 (w.heap.size + 1 + 1) #[.int .i64 r,.int .i64 c,.slice none 0 0] 37 := b2;clear b0;go_enter Tryz.func112,Tryz.ntmps112;go_wp2;rw [← hW0];clear hW0;go_loopw [16] (fun iv wr => ∃ (i : Nat) (vs : List Value) (q : Option Addr) (cq : Nat),i ≤ n ∧ iv = .int .i64 (i : Int) ∧ HB wr (w.heap.size + 1 + 1) #[.int .i64 r,.int .i64 c,.slice q i cq] 37 ∧ HB wr (w.heap.size + 1) #[.int .i64 0,.int .i64 0,.slice none 0 0] 37 ∧ wr.ownsRow w.heap.size 48 1 (.slice q i cq) i vs ∧ Hid (F32s vs (ntab i f)) ∧ Ext w wr) (fun iv _ => n - (intOf iv).toNat)
 case atStart => exact ⟨0,[],none,0,by omega,rfl,b2,b1,own_nil0,F32s.nil,E0⟩
 case round =>
  clear b2 b1 E0;obtain ⟨i,vs,q,cq,hi,rfl,b2,b1,own,HV,he⟩ := hrel
  by_cases hlt : i < n
  · have k1 := hp.ext he
    have eD := Ext.drew wr;have c2 := b2.ext eD;have c1 := b1.ext eD;have y2 := c2.cell 2 rfl;have hmi := fun b hb (w1 : World) (h : Ext wr.drew w1) => M.out i b w1 (by rw [X.out];exact hlt) hb (he.trans (eD.trans h))
    obtain ⟨F,hF⟩ : ∃ F : Option Tmp → World → Value → Prop,F = fun _ _ u => ∃ b,u = .float .f32 b ∧ cn .f32 b = f i := ⟨_,rfl⟩
    have HF := hid hF;clear hF;have o1 := jai own eD;go_wp2_with (first | ((with_reducible show gx2);refine jc1 rfl rfl rfl rfl (fun _ => rfl) rfl rfl k1 hf X.out (by omega) (by omega) ?_;intro r1 g1;have G1 := hid g1;clear g1) | fail);refine jan 7 (F := F) (by kernel_rfl) (by kernel_rfl) (by kernel_rfl) (by kernel_rfl) (by kernel_rfl) ?_;intro wf hwf;simp only [pw1,pw2,pw3,pw4]
    repeat (first
     | ((first | (refine jat rfl ?_) | (refine x_mv rfl rfl rfl ?_) | (refine x_as rfl rfl rfl ?_) | (refine y_callv (args := #[.int .i64 i,.float .f32 r1]) rfl rfl rfl eg ?_ ?_ ?_;(focus (simp [Act.eval];done));(focus (intro w1 hw1;rw [HF.out];exact (hmi r1 (by have := G1.out;simpa using this) w1 hw1).mono fun e w3 ⟨b,h1,h2,h3⟩ => ⟨_,h1,h3,b,rfl,h2⟩));rintro u wa wb e0 e3 e4 hu;simp only [HF.out] at hu;obtain ⟨b,rfl,hb⟩ := hu) | (refine jb7 (u := .float .f32 b) rfl rfl rfl rfl ?_;intro g7 hg7 hg7' hc7));simp only [Act.put,jab,pu1,pu2,pu3,pu4,pu5])
     | (refine ja3 rfl fun K hK w1 hw1 => ?_;have k0 := hw1.cell (y2);go_simp;refine hK _ ?_;clear hK K k0 hw1 w1))
    refine ja4 ?_;have d2 := c2.ext hwf;have d1 := c1.ext hwf;have o2 := jai o1 hwf;have hz := d2.lt;have l2 := d2.cell 2 rfl;have f2 := d2.froz 2;have Hb := hid hb;have hsz := (he.trans (eD.trans hwf));have hs2 := hsz.size;clear y2 k1 hb;go_wp2_with ((with_reducible show gx7);refine jb9 rfl rfl rfl rfl o2 hc7 rfl (by simp [Value.cells,Value.oneCell']) (by unfold maxLen;omega) (by omega) (by omega) ?_;intro g9 c9 w9 own9 gr9 hg9;have d3 := d2.chg (Chg.of_grown gr9) (fun h => jag o2 d2 (by decide) _ h.symm rfl);have l3 := d3.cell 2 rfl;have f3 := d3.froz 2);go_roundw
    case rel =>
     have e9 : Ext w w9 := hsz.grown gr9 (fun k hk => by have := jar o2 k hk;omega);have hch := jco w9 (w.heap.size + 1 + 1) 2 (.slice (some ⟨g9,0,none⟩) (i + 1) c9);exact ⟨i + 1,_,some ⟨g9,0,none⟩,c9,by omega,by go_num,d3.set 2 _,(d1.chg (Chg.of_grown gr9) (fun h => jag o2 d1 (by decide) _ h.symm rfl)).chg hch (fun h => by omega),jal own9 hch (fun k hk hs => jag own9 d3 (by decide) k hk hs),jca HV.out Hb.out,e9.chg hch (fun k hk => by omega)⟩
    case measure => simp [intOf];omega
  · obtain rfl : i = n := by omega
    have y0 := b2.cell 0 rfl;have y1 := b2.cell 1 rfl;have y2 := b2.cell 2 rfl;have n0 := b1.cell 0 rfl;have n1 := b1.cell 1 rfl;have n2 := b1.cell 2 rfl;have m0 := b1.froz 0;have m1 := b1.froz 1;have m2 := b1.froz 2;go_wp2;refine bodyPost_ret (v := .agg #[.int .i64 r,.int .i64 c,.slice q i cq]) (by simp [results,Tryz.results112,go_sem,n0,n1,n2,m0,m1,m2]) rfl ?_;exact jaq.of (jae _ _) (jal own (S := fun k => k = w.heap.size + 1) (by (repeat (first | (with_reducible first | exact Chg.refl _ _ | exact Chg.of_ext (by assumption) | assumption) | ((with_reducible refine Chg.setCell ?_ ?_ _);rotate_left;focus (first | (simp;done) | (simp;omega))) | (with_reducible first | refine Chg.alloc ?_ _ | refine Chg.drew ?_ | refine px3 ?_ (by assumption))))) (fun k hk hs => jag own b1 (by decide) k hk hs)) HV.out rfl (he.chg (S := fun k => k = w.heap.size + 1) (by (repeat (first | (with_reducible first | exact Chg.refl _ _ | exact Chg.of_ext (by assumption) | assumption) | ((with_reducible refine Chg.setCell ?_ ?_ _);rotate_left;focus (first | (simp;done) | (simp;omega))) | (with_reducible first | refine Chg.alloc ?_ _ | refine Chg.drew ?_ | refine px3 ?_ (by assumption))))) (fun k hk => by omega))
end Go.Proofs.YtlimabbeaimdgaaGreat
