/- A part of the proofs: Tab, ConfD, HInt64SS, CpyM, Dr, Src3, Dr2, GrowX. -/
import Derived.Test.YtmbckkcgiafagaaZ07FnMode
import Derived.Test.YtmbckkcgiafagaaZ06FnMode
import Derived.Test.YtmbckkcgiafagaaZ10FnMode
import Derived.Test.YtmbckkcgiafagaaZ08FnMode
import Derived.Test.YtmbckkcgiafagaaZ03FnMode
import Derived.Test.YtmbckkcgiafagaaZ02FnMode
import Derived.Test.YtmbckkcgiafagaaZ09FnMode
import Derived.Laws.Bits128
import Derived.Laws.BytesArg
import Derived.Laws.IdiomStrings
set_option linter.unusedSimpArgs false
set_option linter.unusedVariables false
set_option maxRecDepth 100000
set_option maxHeartbeats 16000000
namespace Go.Proofs.Ytmbckkcgiafagaa
open Go.RowKit
def IsOwn (B : Nat) (s : Sh) (w : World) (cs : List Value) (d : s.T) : Prop := ∃ bs,Own w s cs d bs ∧ bs.Nodup ∧ ∀ b ∈ bs,B ≤ b
theorem IsOwn.ext {B : Nat} {s : Sh} {w w' : World} {cs : List Value} {d : s.T} (h : IsOwn B s w cs d) (e : Ext w w') : IsOwn B s w' cs d := by
 obtain ⟨bs,h1,h2,h3⟩ := h;exact ⟨bs,h1.ext e,h2,h3⟩
theorem IsOwn.base {B B' : Nat} {s : Sh} {w : World} {cs : List Value} {d : s.T} (h : IsOwn B s w cs d) (hB : B' ≤ B) : IsOwn B' s w cs d := by
 obtain ⟨bs,h1,h2,h3⟩ := h;exact ⟨bs,h1,h2,fun b hb => Nat.le_trans hB (h3 b hb)⟩
theorem IsOwn.rep {B : Nat} {s : Sh} {w : World} {cs : List Value} {d : s.T} (h : IsOwn B s w cs d) : Rep w s cs d := by
 obtain ⟨bs,h1,_⟩ := h;exact h1.rep
theorem IsOwn.chg {B : Nat} {s : Sh} {w w' : World} {cs : List Value} {d : s.T} (h : IsOwn B s w cs d) {S : Nat → Prop} (k : Chg S w w') (hS : ∀ b,S b → b < B) : IsOwn B s w' cs d := by
 obtain ⟨bs,h1,h2,h3⟩ := h;exact ⟨bs,h1.chg k (fun b hb hs => by have := h3 b hb;have := hS b hs;omega),h2,h3⟩
structure Tb (B : Nat) (E : Sh) (w : World) (p : Option Addr) (n c : Nat) (l : List E.T) (css : List (List Value)) (bss : List (List Nat)) : Prop where
 row : jcb w p n c css.flatten
 els : OwnEs w E css bss l
 nodup : (jaj p ++ bss.flatten).Nodup
 lo : ∀ b ∈ jaj p ++ bss.flatten,B ≤ b
 len : l.length = n
 cap : n ≤ c ∧ c ≤ maxLen
theorem Tb.own {B : Nat} {E : Sh} {w : World} {p : Option Addr} {n c : Nat} {l : List E.T} {css : List (List Value)} {bss : List (List Nat)} (h : Tb B E w p n c l css bss) : IsOwn B (.sl E) w [.slice p n c] l := by
 obtain ⟨h1,h2,h3,h4,h5,h6,h7⟩ := h;subst h5;exact ⟨jaj p ++ bss.flatten,own_sl.2 ⟨p,c,css,bss,rfl,h1,h6,h7,h2,rfl⟩,h3,h4⟩
theorem Tb.cnt {B : Nat} {E : Sh} {w : World} {p : Option Addr} {n c : Nat} {l : List E.T} {css : List (List Value)} {bss : List (List Nat)} (h : Tb B E w p n c l css bss) : css.length = n := by rw [h.els.1,h.len]
theorem Tb.all {B : Nat} {E : Sh} {w : World} {p : Option Addr} {n c : Nat} {l : List E.T} {css : List (List Value)} {bss : List (List Nat)} (h : Tb B E w p n c l css bss) : ∀ x ∈ css,x.length = E.sz := h.els.all
theorem Tb.ext {B : Nat} {E : Sh} {w w' : World} {p : Option Addr} {n c : Nat} {l : List E.T} {css : List (List Value)} {bss : List (List Nat)} (h : Tb B E w p n c l css bss) (e : Ext w w') : Tb B E w' p n c l css bss :=
 ⟨h.row.chg (.of_ext e (S := fun _ => False)) (fun _ _ h => h),h.els.chg (.of_ext e) (S := fun _ => False) (fun _ _ h => h),h.nodup,h.lo,h.len,h.cap⟩
theorem Tb.lt {B : Nat} {E : Sh} {w : World} {p : Option Addr} {n c : Nat} {l : List E.T} {css : List (List Value)} {bss : List (List Nat)} (h : Tb B E w p n c l css bss) : ∀ b ∈ jaj p ++ bss.flatten,b < w.heap.size := by
 intro b hb;rcases List.mem_append.1 hb with hb | hb
 · exact h.row.lt b hb
 · exact h.els.lt b hb
theorem Tb.at {B : Nat} {E : Sh} {w : World} {p : Option Addr} {n c : Nat} {l : List E.T} {css : List (List Value)} {bss : List (List Nat)} (h : Tb B E w p n c l css bss) {i : Nat} (hi : i < n) : ∃ cs bs d,css[i]? = some cs ∧ bss[i]? = some bs ∧ l[i]? = some d ∧ Own w E cs d bs := by
 have h1 := h.els.1;have h2 := h.els.2.1;have h3 := h.len;exact ⟨css[i],bss[i],l[i],by simp,by simp,by simp,h.els.2.2 i _ _ _ (by simp) (by simp) (by simp)⟩
theorem set_flat_sub : ∀ {bss : List (List Nat)} {i : Nat} {bs : List Nat},∀ b ∈ (bss.set i bs).flatten,b ∈ bss.flatten ∨ b ∈ bs
 | [],_,_,b,hb => by simp at hb
 | x :: bss,0,bs,b,hb => by
   simp only [List.set_cons_zero,List.flatten_cons,List.mem_append] at hb ⊢;rcases hb with h | h
   · exact .inr h
   · exact .inl (.inr h)
 | x :: bss,i + 1,bs,b,hb => by
   simp only [List.set_cons_succ,List.flatten_cons,List.mem_append] at hb ⊢;rcases hb with h | h
   · exact .inl (.inl h)
   · rcases set_flat_sub b h with h | h
     · exact .inl (.inr h)
     · exact .inr h
theorem set_flat_nodup : ∀ {bss : List (List Nat)} {i : Nat} {bs : List Nat},bss.flatten.Nodup → bs.Nodup → (∀ b ∈ bs,b ∉ bss.flatten) → (bss.set i bs).flatten.Nodup
 | [],_,_,_,_,_ => by simp
 | x :: bss,0,bs,h,hb,hd => by
   rw [List.flatten_cons,List.nodup_append] at h;rw [List.set_cons_zero,List.flatten_cons,List.nodup_append];refine ⟨hb,h.2.1,fun a ha b hb' he => ?_⟩;subst he;exact hd a ha (by rw [List.flatten_cons];exact List.mem_append_right _ hb')
 | x :: bss,i + 1,bs,h,hb,hd => by
   rw [List.flatten_cons,List.nodup_append] at h;rw [List.set_cons_succ,List.flatten_cons,List.nodup_append];refine ⟨h.1,set_flat_nodup h.2.1 hb (fun b hb' hm => hd b hb' (by rw [List.flatten_cons];exact List.mem_append_right _ hm)),fun a ha b hb' he => ?_⟩;subst he;rcases set_flat_sub a hb' with h' | h'
   · exact h.2.2 a ha a h' rfl
   · exact hd a h' (by rw [List.flatten_cons];exact List.mem_append_left _ ha)
theorem Tb.put {B : Nat} {E : Sh} {w0 w w' : World} {p : Option Addr} {n c : Nat} {l : List E.T} {css : List (List Value)} {bss : List (List Nat)} (h : Tb B E w0 p n c l css bss) (e : Ext w0 w) {i : Nat} (hi : i < n) {cs : List Value} {d : E.T} {bs : List Nat}
 (ho : Own w E cs d bs) (hn : bs.Nodup) (hf : ∀ b ∈ bs,w0.heap.size ≤ b) (hB : B ≤ w0.heap.size) (hr : jcb w' p n c (css.set i cs).flatten) (k : Chg (fun b => b ∈ jaj p) w w') : Tb B E w' p n c (l.set i d) (css.set i cs) (bss.set i bs) := by
 have lt0 := h.lt;have h1 := h.els.1;have h2 := h.els.2.1;have h3 := h.len;obtain ⟨n1,n2,n3,n4⟩ := nodup_split h.nodup;have hels := (h.ext e).els;refine ⟨hr,⟨by simp [h1],by simp [h2],fun j cs' bs' d' g1 g2 g3 => ?_⟩,?_,?_,by rw [List.length_set];exact h3,h.cap⟩
 · by_cases hj : i = j
   · subst hj
     rw [List.getElem?_set_self (by omega)] at g1 g2 g3
     cases g1;cases g2;cases g3
     exact ho.chg k fun b hb hs => by have := hf b hb;have := lt0 b (List.mem_append_left _ hs);omega
   · rw [List.getElem?_set_ne hj] at g1 g2 g3
     exact (hels.2.2 j cs' bs' d' g1 g2 g3).chg k fun b hb hs => n3 b hs (List.mem_flatten.2 ⟨bs',List.mem_of_getElem? g2,hb⟩)
 · rw [List.nodup_append]
   refine ⟨n1,set_flat_nodup n2 hn (fun b hb hm => by have := hf b hb;have := lt0 b (List.mem_append_right _ hm);omega),fun a ha b hb he => ?_⟩;subst he;rcases set_flat_sub a hb with h' | h'
   · exact n3 a ha h'
   · have := hf a h';have := lt0 a (List.mem_append_left _ ha);omega
 · intro b hb
   rcases List.mem_append.1 hb with hb | hb
   · exact h.lo b (List.mem_append_left _ hb)
   · rcases set_flat_sub b hb with h' | h'
     · exact h.lo b (List.mem_append_right _ h')
     · have := hf b h';omega
section
variable {P : Program} {w : World} {ops : Array Oper} {rest : List Oper} {o : Oper} {a : Act} {Q : Exit → Act → World → Prop}
theorem wl_store1 {t : TypeId} [Cell1 P t] {x y : Operand} (hg : o.guard = none) (ho : o.op = .store t x y) {q : Addr} {u v : Value} (hx : a.eval x = .pointer (some q)) (hy : a.eval y = u) (hu : u.oneCell' = true) (hc : w.cell? q = some v) (hf : w.frozen? q = false)
 (h : wpList P ops Q rest (a.put o.dst undef) (w.setCell q u)) : wpList P ops Q (o :: rest) a w :=
 ja4 hg (w' := w.setCell q u) (by simp [execOp,ho,hx,hy,run_store1 hc hf hu]) h
end
def okL (d : shModel.T) (x : jaa.T) (l : List Int) : Prop := (modB d.1 = true ∧ tenB x.1 x.2.1 (x.2.2.1 : List Nat).length = true ∧ x.2.1 = inL d.1 0) ∧ (l.length : Int) = x.1 ∧ lblB (outL d.1) l = true
instance (d : shModel.T) (x : jaa.T) (l : List Int) : Decidable (okL d x l) := by unfold okL;infer_instance
-- the slice type is an instance of Ty
instance elInt64SS : ElTy Try.prog 45 (.sl .int) := ⟨by kernel_rfl,by kernel_rfl⟩
instance c1SlLay : Cell1 Try.prog 36 := ⟨by kernel_rfl,by kernel_rfl⟩
def HB (w : World) (b : Nat) (Z : Array Value) (t : TypeId) : Prop := w.heap[b]? = some (.cells Z t)
theorem HB.cell {w : World} {b : Nat} {Z : Array Value} {t : TypeId} (h : HB w b Z t) (j : Nat) {v : Value} (hv : Z[j]? = some v) : w.cell? ⟨b,j,none⟩ = some v := jat h hv
theorem HB.froz {w : World} {b : Nat} {Z : Array Value} {t : TypeId} (h : HB w b Z t) (j : Nat) : w.frozen? ⟨b,j,none⟩ = false := frozen_of_heap h
theorem HB.ext {w w' : World} {b : Nat} {Z : Array Value} {t : TypeId} (h : HB w b Z t) (e : Ext w w') : HB w' b Z t := by
 have hb : b < w.heap.size := by
  rcases Nat.lt_or_ge b w.heap.size with h' | h'
  · exact h'
  · unfold HB at h;simp [Array.getElem?_eq_none h'] at h
 unfold HB at *;rw [e.block b hb];exact h
theorem HB.lt {w : World} {b : Nat} {Z : Array Value} {t : TypeId} (h : HB w b Z t) : b < w.heap.size := by
 rcases Nat.lt_or_ge b w.heap.size with h' | h'
 · exact h'
 · unfold HB at h;simp [Array.getElem?_eq_none h'] at h
theorem HB.chg {S : Nat → Prop} {w w' : World} {b : Nat} {Z : Array Value} {t : TypeId} (h : HB w b Z t) (k : Chg S w w') (hS : ¬ S b) : HB w' b Z t := by
 have hb := h.lt;unfold HB at *;rw [k.block b hb hS];exact h
theorem HB.set {w : World} {b : Nat} {Z : Array Value} {t : TypeId} (h : HB w b Z t) (j : Nat) (v : Value) : HB (w.setCell ⟨b,j,none⟩ v) b (Z.setIfInBounds j v) t := by
 unfold HB at *;simp [World.setCell,Array.getElem?_modify,h]
theorem HB.new (w : World) (Z : Array Value) (t : TypeId) : HB (w.alloc (.cells Z t)) w.heap.size Z t := heap_alloc_new w _
theorem jbc (w : World) (b j : Nat) (u : Value) : Chg (fun k => k = b) w (w.setCell ⟨b,j,none⟩ u) := ⟨rfl,rfl,rfl,by simp [World.setCell],fun k hk hn => Below.heap_setCell _ _ _ _ (fun h => hn h)⟩
section
variable {P : Program} {w : World} {ops : Array Oper} {rest : List Oper} {o : Oper} {a : Act} {Q : Exit → Act → World → Prop}
theorem wl_stHB {t : TypeId} [Cell1 P t] {x y : Operand} (hg : o.guard = none) (ho : o.op = .store t x y) {b j : Nat} {Z : Array Value} {te : TypeId} {u v : Value} (hb : HB w b Z te) (hj : Z[j]? = some v) (hx : a.eval x = .pointer (some ⟨b,j,none⟩)) (hy : a.eval y = u) (hu : u.oneCell' = true)
 (h : ∀ w',HB w' b (Z.setIfInBounds j u) te → Chg (fun k => k = b) w w' → wpList P ops Q rest (a.put o.dst undef) w') : wpList P ops Q (o :: rest) a w :=
 wl_store1 hg ho hx hy hu (hb.cell j hj) (hb.froz j) (h _ (hb.set j u) ⟨rfl,rfl,rfl,by simp [World.setCell],fun k hk hn => Below.heap_setCell _ _ _ _ (fun h => hn h)⟩)
end
def Tys (w : World) (ts : List TypeId) (bs : List Nat) : Prop := ∀ b ∈ bs,∃ Z T m,T ∈ ts ∧ w.heap[b]? = some (.cells Z T m)
theorem heap_lt {w : World} {b : Nat} {o : Obj} (h : w.heap[b]? = some o) : b < w.heap.size := by
 rcases Nat.lt_or_ge b w.heap.size with h' | h'
 · exact h'
 · simp [Array.getElem?_eq_none h'] at h
theorem Tys.ext {w w' : World} {ts : List TypeId} {bs : List Nat} (h : Tys w ts bs) (e : Ext w w') : Tys w' ts bs := by
 intro b hb;obtain ⟨Z,T,m,h1,h2⟩ := h b hb;exact ⟨Z,T,m,h1,by rw [e.block b (heap_lt h2)];exact h2⟩
theorem Tys.chg {S : Nat → Prop} {w w' : World} {ts : List TypeId} {bs : List Nat} (h : Tys w ts bs) (k : Chg S w w') (hS : ∀ b ∈ bs,¬ S b) : Tys w' ts bs := by
 intro b hb;obtain ⟨Z,T,m,h1,h2⟩ := h b hb;exact ⟨Z,T,m,h1,by rw [k.block b (heap_lt h2) (hS b hb)];exact h2⟩
theorem Tys.app {w : World} {ts : List TypeId} {a b : List Nat} (h : Tys w ts a) (k : Tys w ts b) : Tys w ts (a ++ b) := fun x hx => by
 rcases List.mem_append.1 hx with hx | hx
 · exact h x hx
 · exact k x hx
theorem Tys.mono {w : World} {ts us : List TypeId} {a : List Nat} (h : Tys w ts a) (k : ∀ t ∈ ts,t ∈ us) : Tys w us a := fun x hx => by
 obtain ⟨Z,T,m,h1,h2⟩ := h x hx;exact ⟨Z,T,m,k T h1,h2⟩
theorem own_tys {w : World} {B te s n c : Nat} {q : Option Addr} {vs : List Value} (h : w.ownsRow B te s (.slice q n c) n vs) : Tys w [te] (jaj q) := by
 intro b hb;rcases h.2 with ⟨hv,h0⟩ | ⟨g,cap,cur,hv,hg,hh,hr⟩
 · cases hv;simp [jaj] at hb
 · cases hv
   simp [jaj] at hb;subst hb;exact ⟨_,_,_,by simp,hh⟩
def IsOwnY (ts : List TypeId) (B : Nat) (s : Sh) (w : World) (cs : List Value) (d : s.T) : Prop := ∃ bs,Own w s cs d bs ∧ bs.Nodup ∧ (∀ b ∈ bs,B ≤ b) ∧ Tys w ts bs
theorem IsOwnY.ext {ts : List TypeId} {B : Nat} {s : Sh} {w w' : World} {cs : List Value} {d : s.T} (h : IsOwnY ts B s w cs d) (e : Ext w w') : IsOwnY ts B s w' cs d := by
 obtain ⟨bs,h1,h2,h3,h4⟩ := h;exact ⟨bs,h1.ext e,h2,h3,h4.ext e⟩
theorem IsOwnY.base {ts : List TypeId} {B B' : Nat} {s : Sh} {w : World} {cs : List Value} {d : s.T} (h : IsOwnY ts B s w cs d) (hB : B' ≤ B) : IsOwnY ts B' s w cs d := by
 obtain ⟨bs,h1,h2,h3,h4⟩ := h;exact ⟨bs,h1,h2,fun b hb => Nat.le_trans hB (h3 b hb),h4⟩
theorem IsOwnY.chg {ts : List TypeId} {B : Nat} {s : Sh} {w w' : World} {cs : List Value} {d : s.T} (h : IsOwnY ts B s w cs d) {S : Nat → Prop} (k : Chg S w w') (hS : ∀ b,S b → b < B) : IsOwnY ts B s w' cs d := by
 obtain ⟨bs,h1,h2,h3,h4⟩ := h;have hn : ∀ b ∈ bs,¬ S b := fun b hb hs => by have := h3 b hb;have := hS b hs;omega
 exact ⟨bs,h1.chg k hn,h2,h3,h4.chg k hn⟩
theorem GrowOwn.ownY {w : World} {B : Nat} {te : TypeId} {E : Sh} {v : Value} {l : List E.T} {css : List (List Value)} {bss : List (List Nat)} (h : GrowOwn w B te E v l css bss) {ts : List TypeId} (ht : Tys w ts bss.flatten) (hte : te ∈ ts) : IsOwnY ts B (.sl E) w [v] l := by
 obtain ⟨h1,h2,h3,h4⟩ := h;have hrow := h1;obtain ⟨hl,hr⟩ := h1;rcases hr with ⟨rfl,h0⟩ | ⟨g,cap,cur,rfl,hg,hh,hnc,hm,hsz,ht'⟩
 · have hl0 : l = [] := List.eq_nil_of_length_eq_zero h0
   subst hl0;exact ⟨[],own_nil,by simp,by simp,fun b hb => by simp at hb⟩
 · refine ⟨g :: bss.flatten,own_sl.2 ⟨some ⟨g,0,none⟩,cap,css,bss,rfl,ownRow_of hrow,hnc,hm,h2,rfl⟩,?_,?_,?_⟩
   · rw [List.nodup_cons];exact ⟨fun hb => (h4 g hb).2 rfl,h3⟩
   · intro b hb
     rcases List.mem_cons.1 hb with rfl | hb
     · exact hg
     · exact (h4 b hb).1
   · intro b hb
     rcases List.mem_cons.1 hb with rfl | hb
     · exact ⟨_,_,_,hte,hh⟩
     · exact ht b hb
def Small (L : List jac.T) : Prop := L.length ≤ 12 ∧ ∀ d ∈ L,(d.2.2.2.1 : List Nat).length ≤ 64 ∧ (d.2.2.2.2.1 : List Nat).length ≤ 64
theorem lay_full {w : World} {cs : List Value} {d : jac.T} (h : Rep w jac cs d) : ∃ pw cw pb cb uw ub,cs = [.int .i64 d.1,.int .i64 d.2.1,.int .i64 d.2.2.1,.slice pw (d.2.2.2.1 : List Nat).length cw,.slice pb (d.2.2.2.2.1 : List Nat).length cb] ∧
 (Cs w pw uw ∧ F32s uw d.2.2.2.1 ∧ (d.2.2.2.1 : List Nat).length ≤ cw) ∧ (Cs w pb ub ∧ F32s ub d.2.2.2.2.1 ∧ (d.2.2.2.2.1 : List Nat).length ≤ cb) := by
 obtain ⟨a1,a2,a3,a4,a5,au⟩ := d;obtain ⟨_,_,rfl,rfl,_,_,rfl,rfl,_,_,rfl,rfl,_,_,rfl,h4,_,_,rfl,h5,rfl⟩ := h;obtain ⟨p4,c4,u4,rfl,g1,g2,g3,_⟩ := jco.1 h4;obtain ⟨p5,c5,u5,rfl,k1,k2,k3,_⟩ := jco.1 h5;exact ⟨p4,c4,p5,c5,u4,u5,rfl,⟨g1,g2,g3⟩,⟨k1,k2,k3⟩⟩
theorem own_lay {w : World} {d : jac.T} {qw qb : Option Addr} {lw kw lb kb : Nat} {bw bb : List Nat} (h1 : Own w (.sl .flt) [.slice qw lw kw] d.2.2.2.1 bw) (h2 : Own w (.sl .flt) [.slice qb lb kb] d.2.2.2.2.1 bb) :
 Own w jac [.int .i64 d.1,.int .i64 d.2.1,.int .i64 d.2.2.1,.slice qw lw kw,.slice qb lb kb] d (bw ++ bb) := by
 obtain ⟨a1,a2,a3,a4,a5,au⟩ := d
 exact ⟨[.int .i64 a1],[.int .i64 a2,.int .i64 a3,.slice qw lw kw,.slice qb lb kb],[],bw ++ bb,rfl,⟨rfl,rfl⟩,⟨[.int .i64 a2],[.int .i64 a3,.slice qw lw kw,.slice qb lb kb],[],bw ++ bb,rfl,⟨rfl,rfl⟩,⟨[.int .i64 a3],[.slice qw lw kw,.slice qb lb kb],[],bw ++ bb,rfl,⟨rfl,rfl⟩,
  ⟨[.slice qw lw kw],[.slice qb lb kb],bw,bb,rfl,h1,⟨[.slice qb lb kb],[],bb,[],rfl,h2,⟨rfl,rfl⟩,by simp⟩,rfl⟩,rfl⟩,rfl⟩,rfl⟩
theorem GrowOwn.chgB {S : Nat → Prop} {w w' : World} {B : Nat} {te : TypeId} {E : Sh} {v : Value} {l : List E.T} {css : List (List Value)} {bss : List (List Nat)} (h : GrowOwn w B te E v l css bss) (k : Chg S w w') (hS : ∀ b,S b → b < B) : GrowOwn w' B te E v l css bss :=
 ⟨jag h.row k hS,h.els.chg k (fun b hb hs => by have := (h.lo b hb).1;have := hS b hs;omega),h.nodup,h.lo⟩
def DrAt (w : World) (sb K : Nat) : Prop :=
 ∃ (p : Option Addr) (n c at' : Nat) (sd : Int) (bs : List Nat),HB w sb #[.slice p n c,.int .i64 (at' : Int),.int .u64 sd] 128 ∧ Cs w p (bs.map fun (b : Nat) => Value.int .u8 (b : Int)) ∧ bs.length = n ∧ n ≤ 1048576 ∧ (∀ b ∈ bs,b < 256) ∧ at' ≤ K ∧ 0 ≤ sd ∧ sd < 18446744073709551616 ∧ ((bs.map fun (b : Nat) => Value.int .u8 (b : Int)) ≠ [] → ∀ a,p = some a → a.block < sb)
theorem DrAt.mono {w : World} {sb K K' : Nat} (h : DrAt w sb K) (k : K ≤ K') : DrAt w sb K' := by
 obtain ⟨p,n,c,a,sd,bs,h1,h2,h3,h4,h5,h6,h7⟩ := h;exact ⟨p,n,c,a,sd,bs,h1,h2,h3,h4,h5,Nat.le_trans h6 k,h7⟩
theorem DrAt.ext {w w' : World} {sb K : Nat} (h : DrAt w sb K) (e : Ext w w') : DrAt w' sb K := by
 obtain ⟨p,n,c,a,sd,bs,h1,h2,h3,h4,h5,h6,h7⟩ := h;exact ⟨p,n,c,a,sd,bs,h1.ext e,h2.ext e,h3,h4,h5,h6,h7⟩
theorem DrAt.lt {w : World} {sb K : Nat} (h : DrAt w sb K) : sb < w.heap.size := by
 obtain ⟨p,n,c,a,sd,bs,h1,_⟩ := h;exact h1.lt
theorem DrAt.chg {S : Nat → Prop} {w w' : World} {sb K : Nat} (h : DrAt w sb K) (k : Chg S w w') (hS : ∀ b,S b → sb < b) : DrAt w' sb K := by
 have hlt := h.lt;obtain ⟨p,n,c,a,sd,bs,h1,h2,h3,h4,h5,h6,h7,h8,h9⟩ := h;refine ⟨p,n,c,a,sd,bs,h1.chg k (fun h => by have := hS _ h;omega),?_,h3,h4,h5,h6,h7,h8,h9⟩;refine h2.keep fun hn => ?_
 have hp1 := h2.isS hn;obtain ⟨q,rfl⟩ := Option.isSome_iff_exists.1 hp1;have hb := h9 hn q rfl;have ha : (adr (some q) 0).block = q.block := by rw [jcu];unfold Addr.add;split <;> rfl
 rw [ha];exact k.block _ (by omega) (fun h => by have := hS _ h;omega)
theorem wrap_u64_bd (x : Int) : 0 ≤ IntKind.u64.wrap x ∧ IntKind.u64.wrap x < 18446744073709551616 := by
 rw [IntKind.wrap_u64];omega
theorem cs_chg_lt {w w' : World} {sb : Nat} {p : Option Addr} {us : List Value} (h : Cs w p us) (k : Chg (fun b => b = sb) w w') (hp : us ≠ [] → ∀ a,p = some a → a.block < sb) (hs : sb < w.heap.size) : Cs w' p us := by
 cases us with
 | nil => exact Cs.nil _ _
 | cons u us =>
   have hp1 := h.isS (by simp);obtain ⟨a,rfl⟩ := Option.isSome_iff_exists.1 hp1;have hb := hp (by simp) a rfl;refine ⟨fun i v hv => ?_,h.isS⟩;have h1 := h.cell i v hv;have ha : (adr (some a) i).block = a.block := by rw [jcu];unfold Addr.add;split <;> rfl
   unfold World.cell? at h1 ⊢;rw [k.block _ (by rw [ha];omega) (by rw [ha];omega)];exact h1
theorem drNext_any (sb K : Nat) (w : World) (h : DrAt w sb K) (hK : K ≤ 1000000000) : Calls Try.prog 90 #[.pointer (some ⟨sb,0,none⟩)] w fun e w' => ∃ x : Nat,e = .returned (.int .i64 (x : Int)) ∧ x < 256 ∧ DrAt w' sb (K + 1) ∧ Chg (fun k => k = sb) w w' := by
 obtain ⟨p,n,c,at',sd,bs,h1,h2,h3,h4,h5,h6,h7,h8,h9⟩ := h;have k0 := h1.cell 0 rfl;have k1 := h1.cell 1 rfl;have k2 := h1.cell 2 rfl;have m0 := h1.froz 0;have m1 := h1.froz 1;have m2 := h1.froz 2;have hl : (bs.map fun (b : Nat) => Value.int .u8 (b : Int)).length = n := by simp [h3]
 have Hl := hid hl;have H5 := hid h5;have H3 := hid h3;clear hl;have h0 := hid h2;have HLT := hid h9;have HL2 := hid h1.lt
 by_cases hat : at' < n
 · have hb : at' < bs.length := by omega
   have hbv : (bs.map fun (b : Nat) => Value.int .u8 (b : Int))[at']? = some (.int .u8 ((bs[at']'hb : Nat) : Int)) := by simp [hb]
   have hb256 := h5 bs[at'] (by simp);generalize hbb : bs[at'] = bb at *;have wb : IntKind.i64.wrap (bb : Int) = (bb : Int) := ja2 _ (by omega) (by omega);have Hbv := hid hbv;clear hbv hbb h3 h5;go_enter Try.func90,Try.ntmps90;go_wp2;have d0 := (Ext.drew w).cell k0;have d1 := (Ext.drew w).cell k1;refine jae (F := fun _ _ _ => False) (by kernel_rfl) (by kernel_rfl) (by kernel_rfl) ?_;intro wf hwf
   repeat (first
    | ((first | (refine ja8 rfl ?_) | (refine x_mv rfl rfl rfl ?_) | (refine x_as rfl rfl rfl ?_));simp only [Act.put,jab,pu1,pu2,pu3,pu4,pu5])
    | (refine jbw rfl fun K hK w1 hw1 => ?_;have k0 := hw1.cell (d0);have k1 := hw1.cell (d1);go_simp;refine hK _ ?_;clear hK K k0 k1 hw1 w1))
   refine jbu ?_;have b2 := (h1.ext (Ext.drew w)).ext hwf;have k0 := b2.cell 0 rfl;have k1 := b2.cell 1 rfl;have k2 := b2.cell 2 rfl;have m0 := b2.froz 0;have m1 := b2.froz 1;have m2 := b2.froz 2;go_wp2;have b3 := b2.ext (Ext.drew _);have d0 := b3.cell 0 rfl;have d1 := b3.cell 1 rfl;have h2 := h2.ext ((Ext.drew w).trans (hwf.trans (Ext.drew _)));refine jae (F := fun _ _ _ => False) (by kernel_rfl) (by kernel_rfl) (by kernel_rfl) ?_;intro wf2 hwf2
   repeat (first
    | ((first | (refine ja8 rfl ?_) | (refine x_mv rfl rfl rfl ?_) | (refine x_as rfl rfl rfl ?_) | ((with_reducible show gx0);refine x_idxload rfl rfl (fun _ => rfl) rfl (fun _ => rfl) rfl rfl h2 Hl.out (by omega) (by omega) ?_;intro u hu;rw [Int.toNat_natCast,Hbv.out] at hu;cases hu));simp only [Act.put,jab,pu1,pu2,pu3,pu4,pu5])
    | (refine jbw rfl fun K hK w1 hw1 => ?_;have k0 := hw1.cell (d0);have k1 := hw1.cell (d1);go_simp;refine hK _ ?_;clear hK K k0 k1 hw1 w1))
   refine jbu ?_;have b4 := b3.ext hwf2;have k0 := b4.cell 0 rfl;have k1 := b4.cell 1 rfl;have k2 := b4.cell 2 rfl;have m0 := b4.froz 0;have m1 := b4.froz 1;have m2 := b4.froz 2;clear d0 d1;go_wp2;generalize hX : IntKind.u64.wrap (IntKind.u64.wrap (IntKind.u64.wrap (sd * 6364136223846793005) + (bb : Int)) + 1442695040888963407) = X at *;have hXb : 0 ≤ X ∧ X < 18446744073709551616 := by rw [← hX];exact wrap_u64_bd _
   clear hX;have b5 : HB ((wf2.setCell ⟨sb,1,none⟩ (.int .i64 ((at' : Int) + 1))).setCell ⟨sb,2,none⟩ (.int .u64 X)) sb #[.slice p n c,.int .i64 ((at' : Int) + 1),.int .u64 X] 128 := (b4.set 1 _).set 2 _;have ch : Chg (fun k => k = sb) w ((wf2.setCell ⟨sb,1,none⟩ (.int .i64 ((at' : Int) + 1))).setCell ⟨sb,2,none⟩ (.int .u64 X)) := Chg.mono (((Chg.of_ext (S := fun k => sb = k) ((Ext.drew w).trans (hwf.trans ((Ext.drew _).trans hwf2)))).setCell (p := ⟨sb,1,none⟩) rfl _).setCell (p := ⟨sb,2,none⟩) rfl _) (fun k h => h.symm);have hs : Cs ((wf2.setCell ⟨sb,1,none⟩ (.int .i64 ((at' : Int) + 1))).setCell ⟨sb,2,none⟩ (.int .u64 X)) p (bs.map fun (b : Nat) => Value.int .u8 (b : Int)) := cs_chg_lt h0.out ch HLT.out HL2.out;clear k0 k1 k2 m0 m1 m2;generalize ((wf2.setCell ⟨sb,1,none⟩ (.int .i64 ((at' : Int) + 1))).setCell ⟨sb,2,none⟩ (.int .u64 X)) = W2 at *;have b6 := b5.ext (Ext.drew W2);have d0 := b6.cell 0 rfl;have d1 := b6.cell 1 rfl;refine jae (F := fun _ _ _ => False) (by kernel_rfl) (by kernel_rfl) (by kernel_rfl) ?_;intro wf3 hwf3
   repeat (first
    | ((first | (refine ja8 rfl ?_) | (refine x_mv rfl rfl rfl ?_) | (refine x_as rfl rfl rfl ?_));simp only [Act.put,jab,pu1,pu2,pu3,pu4,pu5])
    | (refine jbw rfl fun K hK w1 hw1 => ?_;have k0 := hw1.cell (d0);have k1 := hw1.cell (d1);go_simp;refine hK _ ?_;clear hK K k0 k1 hw1 w1))
   refine jbu ?_;have E3 := (Ext.drew W2).trans hwf3;have b7 := b5.ext E3;clear d0 d1 b6;have hle : decide ((at' : Int) + 1 ≤ (n : Int)) = true := by simp;omega
   go_wp2;go_ret;exact ⟨bb,rfl,hb256,⟨p,n,c,at' + 1,X,bs,b7,hs.ext E3,H3.out,h4,H5.out,by omega,hXb.1,hXb.2,h9⟩,ch.trans (.of_ext E3)⟩
 · go_enter Try.func90,Try.ntmps90
   go_wp2;have d0 := (Ext.drew w).cell k0;have d1 := (Ext.drew w).cell k1;refine jae (F := fun _ _ _ => False) (by kernel_rfl) (by kernel_rfl) (by kernel_rfl) ?_;intro wf hwf
   repeat (first
    | ((first | (refine ja8 rfl ?_) | (refine x_mv rfl rfl rfl ?_) | (refine x_as rfl rfl rfl ?_));simp only [Act.put,jab,pu1,pu2,pu3,pu4,pu5])
    | (refine jbw rfl fun K hK w1 hw1 => ?_;have k0 := hw1.cell (d0);have k1 := hw1.cell (d1);go_simp;refine hK _ ?_;clear hK K k0 k1 hw1 w1))
   refine jbu ?_;have b2 := (h1.ext (Ext.drew w)).ext hwf;clear k0 k1 k2 m0 m1 m2 d0 d1;have k0 := b2.cell 0 rfl;have k1 := b2.cell 1 rfl;have k2 := b2.cell 2 rfl;have m0 := b2.froz 0;have m1 := b2.froz 1;have m2 := b2.froz 2;have hlt : decide ((at' : Int) < (n : Int)) = false := by simp;omega
   go_wp2;generalize hX : IntKind.u64.wrap (IntKind.u64.wrap (IntKind.u64.wrap (sd * 6364136223846793005)) + 1442695040888963407) = X at *;have hXb : 0 ≤ X ∧ X < 18446744073709551616 := by rw [← hX];exact wrap_u64_bd _
   clear hX;have b5 : HB ((wf.setCell ⟨sb,1,none⟩ (.int .i64 ((at' : Int) + 1))).setCell ⟨sb,2,none⟩ (.int .u64 X)) sb #[.slice p n c,.int .i64 ((at' : Int) + 1),.int .u64 X] 128 := (b2.set 1 _).set 2 _;have ch : Chg (fun k => k = sb) w ((wf.setCell ⟨sb,1,none⟩ (.int .i64 ((at' : Int) + 1))).setCell ⟨sb,2,none⟩ (.int .u64 X)) := Chg.mono (((Chg.of_ext (S := fun k => sb = k) ((Ext.drew w).trans hwf)).setCell (p := ⟨sb,1,none⟩) rfl _).setCell (p := ⟨sb,2,none⟩) rfl _) (fun k h => h.symm);have hs : Cs ((wf.setCell ⟨sb,1,none⟩ (.int .i64 ((at' : Int) + 1))).setCell ⟨sb,2,none⟩ (.int .u64 X)) p (bs.map fun (b : Nat) => Value.int .u8 (b : Int)) := cs_chg_lt h0.out ch HLT.out HL2.out;clear k0 k1 k2 m0 m1 m2;generalize ((wf.setCell ⟨sb,1,none⟩ (.int .i64 ((at' : Int) + 1))).setCell ⟨sb,2,none⟩ (.int .u64 X)) = W2 at *;have b6 := b5.ext (Ext.drew W2);have d0 := b6.cell 0 rfl;have d1 := b6.cell 1 rfl;refine jae (F := fun _ _ _ => False) (by kernel_rfl) (by kernel_rfl) (by kernel_rfl) ?_;intro wf3 hwf3
   repeat (first
    | ((first | (refine ja8 rfl ?_) | (refine x_mv rfl rfl rfl ?_) | (refine x_as rfl rfl rfl ?_));simp only [Act.put,jab,pu1,pu2,pu3,pu4,pu5])
    | (refine jbw rfl fun K hK w1 hw1 => ?_;have k0 := hw1.cell (d0);have k1 := hw1.cell (d1);go_simp;refine hK _ ?_;clear hK K k0 k1 hw1 w1))
   refine jbu ?_;have E3 := (Ext.drew W2).trans hwf3;have b7 := b5.ext E3;clear d0 d1 b6;have hle : decide ((at' : Int) + 1 ≤ (n : Int)) = false := by simp;omega
   have k2 := b7.cell 2 rfl
   obtain ⟨x,hx1,hx2⟩ : ∃ x : Nat,wrap64 (bits .and .u64 (X / 1099511627776) 255) = (x : Int) ∧ x < 256 := by
    have g := u64_and (X / 1099511627776) 255 (by omega) (by omega) (by omega) (by omega);rw [g];have g2 : (X / 1099511627776).toNat &&& (255 : Int).toNat ≤ 255 := Nat.and_le_right;generalize (X / 1099511627776).toNat &&& (255 : Int).toNat = z at g2;exact ⟨z,by unfold wrap64;omega,by omega⟩
   go_wp2;go_ret;exact ⟨x,by first | rfl | (rw [hx1];rfl),hx2,⟨p,n,c,at' + 1,X,bs,b7,hs.ext E3,h3,h4,h5,by omega,hXb.1,hXb.2,h9⟩,ch.trans (.of_ext E3)⟩
theorem emod_le (a m : Int) (h : 0 ≤ a) (hm : 0 < m) : a % m ≤ a := by
 rcases Int.lt_or_le a m with h1 | h1
 · rw [Int.emod_eq_of_lt h h1];exact Int.le_refl _
 · have := Int.emod_lt_of_pos a hm;omega
theorem jbp (sb K : Nat) (m : Int) (w : World) (h : DrAt w sb K) (hK : K ≤ 900000000) (hm : m ≤ 1000000) : Calls Try.prog 48 #[.pointer (some ⟨sb,0,none⟩),.int .i64 m] w fun e w' => ∃ x : Nat,e = .returned (.int .i64 (x : Int)) ∧ (1 ≤ m → (x : Int) < m) ∧ x < 65536 ∧ DrAt w' sb (K + 2) ∧ Chg (fun k => k = sb) w w' := by
 have A := hid (fun W K' (g : DrAt W sb K') (hk : K' ≤ 1000000000) => drNext_any sb K' W g hk);have H := hid h;clear h
 by_cases h1 : m ≤ 1
 · have d1 : decide (m ≤ 1) = true := decide_eq_true h1
   go_enter Try.func48,Try.ntmps48;go_wp2;go_ret;exact ⟨0,rfl,fun h => by omega,by omega,H.out.mono (by omega),Chg.refl _ _⟩
 · have d1 : decide (m ≤ 1) = false := decide_eq_false h1
   by_cases h2 : 200 < m
   · have d2 : decide (200 < m) = true := decide_eq_true h2
     have d3 : (m = 0) = False := by simp;omega
     have d4 : (m = -1) = False := by simp;omega
     go_enter Try.func48,Try.ntmps48;go_wp2_with fail;refine (A.out _ K H.out (by omega)).mono ?_;rintro e w1 ⟨x,rfl,hx,s1,c1⟩
     have S1 := hid s1;clear s1;go_wp2_with fail;refine (A.out _ (K + 1) S1.out (by omega)).mono ?_;rintro e w2 ⟨y,rfl,hy,s2,c2⟩
     have S2 := hid s2;clear s2;go_wp2;go_ret;have g1 := Int.emod_nonneg ((x : Int) * 256 + y) (show m ≠ 0 by omega);have g2 := Int.emod_lt_of_pos ((x : Int) * 256 + y) (show 0 < m by omega);have g3 := emod_le ((x : Int) * 256 + y) m (by omega) (by omega);exact ⟨(((x : Int) * 256 + y) % m).toNat,by rw [Int.toNat_of_nonneg g1];rfl,fun _ => by omega,by omega,S2.out,c1.trans c2⟩
   · have d2 : decide (200 < m) = false := decide_eq_false h2
     go_enter Try.func48,Try.ntmps48;go_wp2_with fail;refine (A.out _ K H.out (by omega)).mono ?_;rintro e w1 ⟨x,rfl,hx,s1,c1⟩
     have S1 := hid s1;clear s1;go_wp2;go_ret;have g1 := Int.emod_nonneg (x : Int) (show m ≠ 0 by omega);have g2 := Int.emod_lt_of_pos (x : Int) (show 0 < m by omega);have g3 := emod_le (x : Int) m (by omega) (by omega);exact ⟨((x : Int) % m).toNat,by rw [Int.toNat_of_nonneg g1];rfl,fun _ => by omega,by omega,S1.out.mono (by omega),c1⟩
theorem F32s.snoc1 {vs : List Value} {xs : List Nat} (h : F32s vs xs) (b : Nat) : F32s (vs ++ [.float .f32 b]) (xs ++ [cn .f32 b]) := by
 refine ⟨by simp [h.1],fun i hi => ?_⟩;rw [List.length_append] at hi
 by_cases hl : i < xs.length
 · obtain ⟨c,h1,h2⟩ := h.2 i hl
   exact ⟨c,by rw [List.getElem?_append_left (by rw [h.1];exact hl)];exact h1,by rw [h2];simp [List.getD_eq_getElem?_getD,List.getElem?_append_left hl]⟩
 · have : i = xs.length := by simp at hi;omega
   subst this;exact ⟨b,by rw [← h.1];simp,by simp⟩
def RetFl2 (w : World) (xs : List Nat) (e : Ending) (w' : World) : Prop :=
 ∃ q c vs,e = .returned (.slice q xs.length c) ∧ w'.ownsRow w.heap.size 33 1 (.slice q xs.length c) xs.length vs ∧ F32s vs xs
theorem ja0 {w w' : World} {B e s n : Nat} {v : Value} {vs : List Value} {S : Nat → Prop} (h : w.ownsRow B e s v n vs) (x : Chg S w w') (hS : ∀ k,v.ownBlock = some k → ¬ S k) : w'.ownsRow B e s v n vs := by
 have hlt0 := own_lt h;obtain ⟨h1,h2⟩ := h;refine ⟨h1,?_⟩;rcases h2 with h2 | ⟨g,cap,cur,hv,hg,hh,r⟩
 · exact .inl h2
 · have hob : v.ownBlock = some g := by rw [hv];rfl
   exact .inr ⟨g,cap,cur,hv,hg,by rw [x.block g (hlt0 g hob) (hS g hob)];exact hh,r⟩
theorem chg_grown {S : Nat → Prop} {w wr w1 : World} {row : Option Nat} (h : Chg S w wr) (g : wr.grownBy w1 row) (ho : ∀ k,row = some k → w.heap.size ≤ k) : Chg S w w1 :=
 ⟨g.os.trans h.os,g.tape.trans h.tape,g.output.trans h.output,Nat.le_trans h.size g.size,fun k hk hn => (g.block k (Nat.lt_of_lt_of_le hk h.size) (fun hb => by have := ho k hb.symm;omega)).trans (h.block k hk hn)⟩
theorem word_lt (s : Bool) {r : Nat} (hr : r ≤ (Ieee.single).infRung) : (Ieee.single).word s r < 4294967296 := by
 have h1 : (Ieee.single).infRung = 2139095040 := by decide
 have h2 : (Ieee.single).signWeight = 2147483648 := by decide
 unfold Ieee.Format.word
 split <;> omega
theorem write_lt {d : Ieee.Datum} (h : d.isNaN = false) : (Ieee.single).write d < 4294967296 := by
 cases d with
 | nan s t => simp [Ieee.Datum.isNaN] at h
 | infinity s => exact word_lt s (Nat.le_refl _)
 | number s m e =>
   show (Ieee.single).nearest s m e < 4294967296;unfold Ieee.Format.nearest;dsimp only
   split
   · exact word_lt s (Nat.zero_le _)
   · exact word_lt s (Nat.min_le_right _ _)
theorem map_lt {d : Option Ieee.Datum} (hd : ∀ x,d = some x → x.isNaN = false) {r : Nat} (h : d.map (Ieee.single).write = some r) : r < 4294967296 := by
 cases d with
 | none => cases h
 | some x => cases h;exact write_lt (hd x rfl)
theorem fop_lt (op : BinOp) (x y : Nat) : fop op .f32 x y < 4294967296 := by
 unfold fop
 cases h : floatBits op .f32 x y with
 | none => decide
 | some r =>
   show r < 4294967296;unfold floatBits at h
   split at h
   · exact map_lt (fun z hz => sum_not hz) h
   · exact map_lt (fun z hz => sum_not hz) h
   · exact map_lt (fun z hz => product_not hz) h
   · exact map_lt (fun z hz => quotient_not hz) h
   · cases h
theorem cn_lt {b : Nat} (h : b < 4294967296) : cn .f32 b < 4294967296 := by
 unfold cn;split
 · decide
 · exact h
theorem wrap_u32_bd (x : Int) : 0 ≤ IntKind.u32.wrap x ∧ IntKind.u32.wrap x < 4294967296 := by
 rw [IntKind.wrap_u32];omega
def u8s (bs : List Nat) : List Value := bs.map fun (b : Nat) => Value.int .u8 (b : Int)
theorem l00From_any (p : Option Addr) (n c : Nat) (bs : List Nat) (w : World) (hc : Cs w p (u8s bs)) (hl : bs.length = n) (hn : n ≤ 1048576) (hb : ∀ b ∈ bs,b < 256) :
 Calls Try.prog 47 #[.slice p n c] w fun e w' => e = .returned (.pointer (some ⟨w.heap.size,0,none⟩)) ∧ DrAt w' w.heap.size 0 ∧ Ext w w' := by
 have hlt : u8s bs ≠ [] → ∀ a,p = some a → a.block < w.heap.size := by
  intro hne a ha;subst ha;have := hc.blk hne;have ha : (adr (some a) 0).block = a.block := by rw [jcu];unfold Addr.add;split <;> rfl
  rw [ha] at this;exact this
 go_enter Try.func47,Try.ntmps47;go_wp2;go_ret;have e0 := Ext.alloc w (.cells #[.slice p n c,.int .i64 0,.int .u64 0] 128);exact ⟨rfl,⟨p,n,c,0,0,bs,HB.new w _ _,hc.ext e0,hl,hn,hb,Nat.le_refl _,by decide,by decide,hlt⟩,e0⟩
theorem drOne_any (sb K : Nat) (m : Int) (w : World) (h : DrAt w sb K) (hK : K ≤ 900000000) (hm : m ≤ 1000000) : Calls Try.prog 96 #[.pointer (some ⟨sb,0,none⟩),.int .i64 m] w fun e w' => ∃ b : Bool,e = .returned (.bool b) ∧ DrAt w' sb (K + 2) ∧ Chg (fun k => k = sb) w w' := by
 go_enter Try.func96,Try.ntmps96;go_wp2_with fail;refine (jbp sb K m w h hK hm).mono ?_;rintro e w1 ⟨x,rfl,hx,hx2,s1,c1⟩
 have S1 := hid s1;clear s1;go_wp2;go_ret;exact ⟨_,rfl,S1.out,c1⟩
theorem drAmong_any (sb K : Nat) (p : Option Addr) (n c : Nat) (zs : List Int) (w : World) (h : DrAt w sb K) (hK : K ≤ 900000000) (hc : Cs w p (zs.map (Value.int .i64))) (hl : zs.length = n) (h1 : 1 ≤ n) (hn : n ≤ 1000) (hp : ∀ a,p = some a → sb < a.block) :
 Calls Try.prog 118 #[.pointer (some ⟨sb,0,none⟩),.slice p n c] w fun e w' => ∃ z : Int,z ∈ zs ∧ e = .returned (.int .i64 z) ∧ DrAt w' sb (K + 2) ∧ Chg (fun k => k = sb) w w' := by
 have hlen : (zs.map (Value.int .i64)).length = n := by simp [hl]
 go_enter Try.func118,Try.ntmps118;go_wp2_with fail;refine (jbp sb K n w h hK (by omega)).mono ?_;rintro e w1 ⟨x,rfl,hx,hx2,s1,c1⟩
 have S1 := hid s1;have hxn : x < n := by have := hx (by omega);omega
 have hcs : Cs w1 p (zs.map (Value.int .i64)) := hc.keep fun hne => by
  have hp1 := hc.isS hne;obtain ⟨q,rfl⟩ := Option.isSome_iff_exists.1 hp1;have hb := hp q rfl;have hbl := hc.blk hne;have ha : (adr (some q) 0).block = q.block := by rw [jcu];unfold Addr.add;split <;> rfl
  rw [ha] at hbl ⊢;exact c1.block _ hbl (by omega)
 have hxz : x < zs.length := by omega
 have hv : (zs.map (Value.int .i64))[x]? = some (.int .i64 zs[x]) := by simp [hxz]
 have hmem : zs[x] ∈ zs := by simp
 generalize zs[x] = z at *;have Hv := hid hv;have Hl := hid hlen;clear s1 hx hv hlen hl;go_wp2_with ((with_reducible show gx2);refine jbl rfl rfl rfl rfl (fun _ => rfl) rfl rfl hcs Hl.out (by omega) (by omega) ?_;intro u hu;rw [Int.toNat_natCast,Hv.out] at hu;cases hu);go_ret;exact ⟨z,hmem,rfl,S1.out,c1⟩
def GotF (sb K : Nat) (w : World) (e : Ending) (w' : World) : Prop := ∃ b : Nat,e = .returned (.float .f32 b) ∧ cn .f32 b < 4294967296 ∧ DrAt w' sb K ∧ Chg (fun k => k = sb) w w'
theorem drPlain_any (sb K : Nat) (w : World) (h : DrAt w sb K) (hK : K ≤ 800000000) : Calls Try.prog 89 #[.pointer (some ⟨sb,0,none⟩)] w (GotF sb (K + 4) w) := by
 go_enter Try.func89,Try.ntmps89;go_wp2_with fail;refine (jbp sb K 129 w h (by omega) (by omega)).mono ?_;rintro e w1 ⟨x,rfl,hx,hx2,s1,c1⟩
 have S1 := hid s1;clear s1;go_wp2_with fail;refine (drOne_any sb (K + 2) 4 w1 S1.out (by omega) (by omega)).mono ?_;rintro e w2 ⟨b,rfl,s2,c2⟩
 have S2 := hid s2;clear s2
 cases b
 · go_wp2_with ((with_reducible show gx3);refine jcm rfl rfl rfl rfl rfl ?_;intro r0 w0 e0 g0;have G0 := hid g0;clear g0)
   go_ret;exact ⟨_,rfl,by rw [G0.out];exact fop_lt _ _ _,S2.out.ext e0,(c1.trans c2).trans (.of_ext e0)⟩
 · go_wp2_with ((with_reducible show gx3);refine jcm rfl rfl rfl rfl rfl ?_;intro r0 w0 e0 g0;have G0 := hid g0;clear g0)
   go_ret;exact ⟨_,rfl,by rw [G0.out];exact fop_lt _ _ _,S2.out.ext e0,(c1.trans c2).trans (.of_ext e0)⟩
theorem l01From_any (n : Int) (w : World) : Calls Try.prog 158 #[.int .i64 n] w fun e w' => (∃ b : Nat,e = .returned (.float .f32 b) ∧ cn .f32 b < 4294967296) ∧ Ext w w' := by
 have hxf := fun k => run_f32from k
 have hbd := wrap_u32_bd n;go_enter Try.func158,Try.ntmps158;go_wp2;go_ret;exact ⟨⟨_,rfl,cn_lt (by omega)⟩,Ext.refl _⟩
section
variable {P : Program} {w : World} {o : Oper} {a : Act}
theorem run_build1 {t e s b : Nat} {z : Value} [T : SlTy P t e s z b] {x1 : Operand} {u : Value} (ho1 : o.op = .buildSlice t 1 #[(0,x1)]) (hx : a.eval x1 = u) (hu : u.cells.size = s) (w : World) :
 (execOp a.eval o).run P w = .ok (.value (.slice (some ⟨w.heap.size,0,none⟩) 1 1)) (w.alloc (.cells u.cells e)) := by
 obtain ⟨ti,hi,hzz⟩ := Option.map_eq_some_iff.1 T.inf;simp only [Prod.mk.injEq] at hzz;have hund := T.und;have hpos := T.pos;have hs24 := T.few
 have hfill : Instr.fill (fun i => some (i * s,s)) ((Array.range (1 * s)).map (z.cells[· % z.cells.size]!)) [(0,u)] = some u.cells := by
  simp only [Instr.fill,hu,Array.size_map,Array.size_range,Nat.zero_mul,Nat.zero_add,Nat.one_mul,Nat.lt_irrefl,ne_eq,not_true_eq_false,decide_false,Bool.or_self,gt_iff_lt,Bool.false_eq_true,if_false]
  congr 1
  exact wl_app1.fill_all (w := w) (s := s) (b := b) (u := u) (B := 0) (n := 0) _ _ (by simp [hu])
 simp [execOp,ho1,hx,Instr.buildSlice,run_underlying hund,sizeOf,typeInfo,hi,hzz.2.1,zeroValue,hzz.1,show ¬ 16777216 < s by omega,show ¬ s = 0 by omega,newRow];rw [show (Array.map (fun x => z.cells[x % z.cells.size]!) (Array.range s)) = (Array.range (1 * s)).map (z.cells[· % z.cells.size]!) by rw [Nat.one_mul],hfill];simp
end
theorem cs_heap {w : World} {b : Nat} {Z : Array Value} {t : TypeId} (h : w.heap[b]? = some (.cells Z t)) : Cs w (some ⟨b,0,none⟩) Z.toList := by
 refine ⟨fun i u hu => ?_,fun _ => rfl⟩;rw [jbn];unfold World.cell?;rw [h]
 simpa using hu
section
variable {P : Program} {w wf : World} {ops : Array Oper} {rest : List Oper} {o : Oper} {a : Act} {Q : Act → Prop} {F : Option Tmp → World → World → Value → Prop}
theorem x_build1 {t e s b : Nat} {z : Value} [T : SlTy P t e s z b] {x1 : Operand} {u : Value} (hw : Region.wanted o (yielded ops a.tmps) = true) (ho1 : o.op = .buildSlice t 1 #[(0,x1)]) (hx : a.eval x1 = u) (hu : u.cells.size = s)
 (h : ∀ g,w.heap.size ≤ g → g < wf.heap.size → Cs wf (some ⟨g,0,none⟩) u.cells.toList → wpX P ops F w wf Q rest (a.put o.dst (.slice (some ⟨g,0,none⟩) 1 1))) : wpX P ops F w wf Q (o :: rest) a :=
 x_made (V := fun wf v => ∃ g,v = .slice (some ⟨g,0,none⟩) 1 1 ∧ w.heap.size ≤ g ∧ g < wf.heap.size ∧ Cs wf (some ⟨g,0,none⟩) u.cells.toList) hw
  (fun w1 e1 => ⟨_,_,run_build1 ho1 hx hu w1,Ext.alloc _ _,fun wf hf => ⟨w1.heap.size,rfl,e1.size,Nat.lt_of_lt_of_le (by simp) hf.size,cs_heap (by rw [hf.block _ (by simp)];exact heap_alloc_new w1 _)⟩⟩)
  (fun v ⟨g,h1,h2,h3,h4⟩ => by subst h1;exact h g h2 h3 h4)
end
section
variable {P : Program} {w : World} {ops : Array Oper} {rest : List Oper} {o : Oper} {a : Act} {Q : Exit → Act → World → Prop}
theorem wl_app1s {t e s b : Nat} {z : Value} [T : SlTy P t e s z b] {x1 x2 : Operand} {v : Value} {B n c : Nat} {vs us : List Value} {q : Addr}
 (hg : o.guard = none) (ho : o.op = .call { callee := .builtin .append,args := #[x1,x2],argTypes := #[t,t] }) (hx1 : a.eval x1 = v) (hx2 : a.eval x2 = .slice (some q) 1 c) (how : w.ownsRow B e s v n vs) (hc : Cs w (some q) us) (hm : us.length = s) (h1 : ∀ u ∈ us,u.oneCell' = true)
 (hn : n + 1 ≤ maxLen) (hb : (n + 1) * b ≤ 140737488355328) (hB : B ≤ w.heap.size)
 (h : ∀ g c w',w'.ownsRow B e s (.slice (some ⟨g,0,none⟩) (n + 1) c) (n + 1) (vs ++ us) → w.grownBy w' v.ownBlock → (v.ownBlock = some g ∨ w.heap.size ≤ g) →
  wpList P ops Q rest (a.put o.dst (.slice (some ⟨g,0,none⟩) (n + 1) c)) w') : wpList P ops Q (o :: rest) a w := by
 obtain ⟨ti,hi,hzz⟩ := Option.map_eq_some_iff.1 T.inf;simp only [Prod.mk.injEq] at hzz;have hund := T.und;have hpos := T.pos;refine wpList_append_own_at _ hg x1 x2 t ho B e ti z s b hund hi hzz.1 hzz.2.1 hzz.2.2 T.zs hpos v n vs hx1 how q 1 c us hx2 (by omega) (fun j u hj => hc.cell j u hj) h1 hn hb hB ?_;intro v' w' h1 h2 h3 h4;rcases h1.2 with ⟨_,h5⟩ | ⟨g,cap,cur,rfl,_⟩
 · omega
 · refine h g cap w' h1 h2 ?_
   rcases h4 with h4 | h4
   · left;rw [← h4];rfl
   · right;simp [Value.ownBlock] at h4;omega
end
end Go.Proofs.Ytmbckkcgiafagaa
