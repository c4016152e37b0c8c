/- A part of the proofs: Tab, CpyM, Red, GrowX, RedA. -/
import Derived.Test.YtmbckkcgiafagaaZ07FnRedu
import Derived.Test.YtmbckkcgiafagaaZ06FnRedu
import Derived.Test.YtmbckkcgiafagaaZ09FnRedu
import Derived.Test.YtmbckkcgiafagaaZ03FnRedu
set_option linter.unusedSimpArgs false
set_option linter.unusedVariables false
set_option maxRecDepth 100000
set_option maxHeartbeats 16000000
namespace Go.Proofs.Ytmbckkcgiafagaa
open Go.RowKit
def IsOwn (B : Nat) (s : Sh) (w : World) (cs : List Value) (d : s.T) : Prop := ∃ bs,Own w s cs d bs ∧ bs.Nodup ∧ ∀ b ∈ bs,B ≤ b
theorem IsOwn.ext {B : Nat} {s : Sh} {w w' : World} {cs : List Value} {d : s.T} (h : IsOwn B s w cs d) (e : Ext w w') : IsOwn B s w' cs d := by
 obtain ⟨bs,h1,h2,h3⟩ := h;exact ⟨bs,h1.ext e,h2,h3⟩
theorem IsOwn.base {B B' : Nat} {s : Sh} {w : World} {cs : List Value} {d : s.T} (h : IsOwn B s w cs d) (hB : B' ≤ B) : IsOwn B' s w cs d := by
 obtain ⟨bs,h1,h2,h3⟩ := h;exact ⟨bs,h1,h2,fun b hb => Nat.le_trans hB (h3 b hb)⟩
theorem IsOwn.rep {B : Nat} {s : Sh} {w : World} {cs : List Value} {d : s.T} (h : IsOwn B s w cs d) : Rep w s cs d := by
 obtain ⟨bs,h1,_⟩ := h;exact h1.rep
theorem IsOwn.chg {B : Nat} {s : Sh} {w w' : World} {cs : List Value} {d : s.T} (h : IsOwn B s w cs d) {S : Nat → Prop} (k : Chg S w w') (hS : ∀ b,S b → b < B) : IsOwn B s w' cs d := by
 obtain ⟨bs,h1,h2,h3⟩ := h;exact ⟨bs,h1.chg k (fun b hb hs => by have := h3 b hb;have := hS b hs;omega),h2,h3⟩
structure Tb (B : Nat) (E : Sh) (w : World) (p : Option Addr) (n c : Nat) (l : List E.T) (css : List (List Value)) (bss : List (List Nat)) : Prop where
 row : ja7 w p n c css.flatten
 els : OwnEs w E css bss l
 nodup : (jac p ++ bss.flatten).Nodup
 lo : ∀ b ∈ jac p ++ bss.flatten,B ≤ b
 len : l.length = n
 cap : n ≤ c ∧ c ≤ maxLen
theorem Tb.cnt {B : Nat} {E : Sh} {w : World} {p : Option Addr} {n c : Nat} {l : List E.T} {css : List (List Value)} {bss : List (List Nat)} (h : Tb B E w p n c l css bss) : css.length = n := by rw [h.els.1,h.len]
theorem Tb.all {B : Nat} {E : Sh} {w : World} {p : Option Addr} {n c : Nat} {l : List E.T} {css : List (List Value)} {bss : List (List Nat)} (h : Tb B E w p n c l css bss) : ∀ x ∈ css,x.length = E.sz := h.els.all
theorem Tb.ext {B : Nat} {E : Sh} {w w' : World} {p : Option Addr} {n c : Nat} {l : List E.T} {css : List (List Value)} {bss : List (List Nat)} (h : Tb B E w p n c l css bss) (e : Ext w w') : Tb B E w' p n c l css bss :=
 ⟨h.row.chg (.of_ext e (S := fun _ => False)) (fun _ _ h => h),h.els.chg (.of_ext e) (S := fun _ => False) (fun _ _ h => h),h.nodup,h.lo,h.len,h.cap⟩
theorem Tb.lt {B : Nat} {E : Sh} {w : World} {p : Option Addr} {n c : Nat} {l : List E.T} {css : List (List Value)} {bss : List (List Nat)} (h : Tb B E w p n c l css bss) : ∀ b ∈ jac p ++ bss.flatten,b < w.heap.size := by
 intro b hb;rcases List.mem_append.1 hb with hb | hb
 · exact h.row.lt b hb
 · exact h.els.lt b hb
theorem Tb.at {B : Nat} {E : Sh} {w : World} {p : Option Addr} {n c : Nat} {l : List E.T} {css : List (List Value)} {bss : List (List Nat)} (h : Tb B E w p n c l css bss) {i : Nat} (hi : i < n) : ∃ cs bs d,css[i]? = some cs ∧ bss[i]? = some bs ∧ l[i]? = some d ∧ Own w E cs d bs := by
 have h1 := h.els.1;have h2 := h.els.2.1;have h3 := h.len;exact ⟨css[i],bss[i],l[i],by simp,by simp,by simp,h.els.2.2 i _ _ _ (by simp) (by simp) (by simp)⟩
theorem set_flat_sub : ∀ {bss : List (List Nat)} {i : Nat} {bs : List Nat},∀ b ∈ (bss.set i bs).flatten,b ∈ bss.flatten ∨ b ∈ bs
 | [],_,_,b,hb => by simp at hb
 | x :: bss,0,bs,b,hb => by
   simp only [List.set_cons_zero,List.flatten_cons,List.mem_append] at hb ⊢;rcases hb with h | h
   · exact .inr h
   · exact .inl (.inr h)
 | x :: bss,i + 1,bs,b,hb => by
   simp only [List.set_cons_succ,List.flatten_cons,List.mem_append] at hb ⊢;rcases hb with h | h
   · exact .inl (.inl h)
   · rcases set_flat_sub b h with h | h
     · exact .inl (.inr h)
     · exact .inr h
theorem set_flat_nodup : ∀ {bss : List (List Nat)} {i : Nat} {bs : List Nat},bss.flatten.Nodup → bs.Nodup → (∀ b ∈ bs,b ∉ bss.flatten) → (bss.set i bs).flatten.Nodup
 | [],_,_,_,_,_ => by simp
 | x :: bss,0,bs,h,hb,hd => by
   rw [List.flatten_cons,List.nodup_append] at h;rw [List.set_cons_zero,List.flatten_cons,List.nodup_append];refine ⟨hb,h.2.1,fun a ha b hb' he => ?_⟩;subst he;exact hd a ha (by rw [List.flatten_cons];exact List.mem_append_right _ hb')
 | x :: bss,i + 1,bs,h,hb,hd => by
   rw [List.flatten_cons,List.nodup_append] at h;rw [List.set_cons_succ,List.flatten_cons,List.nodup_append];refine ⟨h.1,set_flat_nodup h.2.1 hb (fun b hb' hm => hd b hb' (by rw [List.flatten_cons];exact List.mem_append_right _ hm)),fun a ha b hb' he => ?_⟩;subst he;rcases set_flat_sub a hb' with h' | h'
   · exact h.2.2 a ha a h' rfl
   · exact hd a h' (by rw [List.flatten_cons];exact List.mem_append_left _ ha)
theorem Tb.put {B : Nat} {E : Sh} {w0 w w' : World} {p : Option Addr} {n c : Nat} {l : List E.T} {css : List (List Value)} {bss : List (List Nat)} (h : Tb B E w0 p n c l css bss) (e : Ext w0 w) {i : Nat} (hi : i < n) {cs : List Value} {d : E.T} {bs : List Nat}
 (ho : Own w E cs d bs) (hn : bs.Nodup) (hf : ∀ b ∈ bs,w0.heap.size ≤ b) (hB : B ≤ w0.heap.size) (hr : ja7 w' p n c (css.set i cs).flatten) (k : Chg (fun b => b ∈ jac p) w w') : Tb B E w' p n c (l.set i d) (css.set i cs) (bss.set i bs) := by
 have lt0 := h.lt;have h1 := h.els.1;have h2 := h.els.2.1;have h3 := h.len;obtain ⟨n1,n2,n3,n4⟩ := nodup_split h.nodup;have hels := (h.ext e).els;refine ⟨hr,⟨by simp [h1],by simp [h2],fun j cs' bs' d' g1 g2 g3 => ?_⟩,?_,?_,by rw [List.length_set];exact h3,h.cap⟩
 · by_cases hj : i = j
   · subst hj
     rw [List.getElem?_set_self (by omega)] at g1 g2 g3
     cases g1;cases g2;cases g3
     exact ho.chg k fun b hb hs => by have := hf b hb;have := lt0 b (List.mem_append_left _ hs);omega
   · rw [List.getElem?_set_ne hj] at g1 g2 g3
     exact (hels.2.2 j cs' bs' d' g1 g2 g3).chg k fun b hb hs => n3 b hs (List.mem_flatten.2 ⟨bs',List.mem_of_getElem? g2,hb⟩)
 · rw [List.nodup_append]
   refine ⟨n1,set_flat_nodup n2 hn (fun b hb hm => by have := hf b hb;have := lt0 b (List.mem_append_right _ hm);omega),fun a ha b hb he => ?_⟩;subst he;rcases set_flat_sub a hb with h' | h'
   · exact n3 a ha h'
   · have := hf a h';have := lt0 a (List.mem_append_left _ ha);omega
 · intro b hb
   rcases List.mem_append.1 hb with hb | hb
   · exact h.lo b (List.mem_append_left _ hb)
   · rcases set_flat_sub b hb with h' | h'
     · exact h.lo b (List.mem_append_right _ h')
     · have := hf b h';omega
section
variable {P : Program} {w : World} {ops : Array Oper} {rest : List Oper} {o : Oper} {a : Act} {Q : Exit → Act → World → Prop}
theorem wl_store1 {t : TypeId} [Cell1 P t] {x y : Operand} (hg : o.guard = none) (ho : o.op = .store t x y) {q : Addr} {u v : Value} (hx : a.eval x = .pointer (some q)) (hy : a.eval y = u) (hu : u.oneCell' = true) (hc : w.cell? q = some v) (hf : w.frozen? q = false)
 (h : wpList P ops Q rest (a.put o.dst undef) (w.setCell q u)) : wpList P ops Q (o :: rest) a w :=
 wl_skip hg (w' := w.setCell q u) (by simp [execOp,ho,hx,hy,run_store1 hc hf hu]) h
end
instance c1SlLay : Cell1 Try.prog 36 := ⟨by kernel_rfl,by kernel_rfl⟩
def HB (w : World) (b : Nat) (Z : Array Value) (t : TypeId) : Prop := w.heap[b]? = some (.cells Z t)
theorem HB.cell {w : World} {b : Nat} {Z : Array Value} {t : TypeId} (h : HB w b Z t) (j : Nat) {v : Value} (hv : Z[j]? = some v) : w.cell? ⟨b,j,none⟩ = some v := jad h hv
theorem HB.froz {w : World} {b : Nat} {Z : Array Value} {t : TypeId} (h : HB w b Z t) (j : Nat) : w.frozen? ⟨b,j,none⟩ = false := frozen_of_heap h
theorem HB.ext {w w' : World} {b : Nat} {Z : Array Value} {t : TypeId} (h : HB w b Z t) (e : Ext w w') : HB w' b Z t := by
 have hb : b < w.heap.size := by
  rcases Nat.lt_or_ge b w.heap.size with h' | h'
  · exact h'
  · unfold HB at h;simp [Array.getElem?_eq_none h'] at h
 unfold HB at *;rw [e.block b hb];exact h
theorem HB.lt {w : World} {b : Nat} {Z : Array Value} {t : TypeId} (h : HB w b Z t) : b < w.heap.size := by
 rcases Nat.lt_or_ge b w.heap.size with h' | h'
 · exact h'
 · unfold HB at h;simp [Array.getElem?_eq_none h'] at h
theorem HB.chg {S : Nat → Prop} {w w' : World} {b : Nat} {Z : Array Value} {t : TypeId} (h : HB w b Z t) (k : Chg S w w') (hS : ¬ S b) : HB w' b Z t := by
 have hb := h.lt;unfold HB at *;rw [k.block b hb hS];exact h
theorem HB.set {w : World} {b : Nat} {Z : Array Value} {t : TypeId} (h : HB w b Z t) (j : Nat) (v : Value) : HB (w.setCell ⟨b,j,none⟩ v) b (Z.setIfInBounds j v) t := by
 unfold HB at *;simp [World.setCell,Array.getElem?_modify,h]
theorem HB.new (w : World) (Z : Array Value) (t : TypeId) : HB (w.alloc (.cells Z t)) w.heap.size Z t := heap_alloc_new w _
theorem jaw (w : World) (b j : Nat) (u : Value) : Chg (fun k => k = b) w (w.setCell ⟨b,j,none⟩ u) := ⟨rfl,rfl,rfl,by simp [World.setCell],fun k hk hn => Below.heap_setCell _ _ _ _ (fun h => hn h)⟩
section
variable {P : Program} {w : World} {ops : Array Oper} {rest : List Oper} {o : Oper} {a : Act} {Q : Exit → Act → World → Prop}
theorem wl_stHB {t : TypeId} [Cell1 P t] {x y : Operand} (hg : o.guard = none) (ho : o.op = .store t x y) {b j : Nat} {Z : Array Value} {te : TypeId} {u v : Value} (hb : HB w b Z te) (hj : Z[j]? = some v) (hx : a.eval x = .pointer (some ⟨b,j,none⟩)) (hy : a.eval y = u) (hu : u.oneCell' = true)
 (h : ∀ w',HB w' b (Z.setIfInBounds j u) te → Chg (fun k => k = b) w w' → wpList P ops Q rest (a.put o.dst undef) w') : wpList P ops Q (o :: rest) a w :=
 wl_store1 hg ho hx hy hu (hb.cell j hj) (hb.froz j) (h _ (hb.set j u) ⟨rfl,rfl,rfl,by simp [World.setCell],fun k hk hn => Below.heap_setCell _ _ _ _ (fun h => hn h)⟩)
end
section
variable {P : Program} {w wf : World} {ops : Array Oper} {rest : List Oper} {o : Oper} {a : Act} {Q : Act → Prop} {F : Option Tmp → World → World → Value → Prop}
theorem x_sliceTo {t e s b : Nat} {z : Value} [T : SlTy P t e s z b] {x hi : Operand} (hw : Region.wanted o (yielded ops a.tmps) = true) (ho : o.op = .slice t x none (some hi) none) {p : Option Addr} {n c : Nat} {k2 : IntKind} {ui : Int} {u : Nat}
 (hx : a.eval x = .slice p n c) (hhi : a.eval hi = .int k2 ui) (h2 : ui = u) (h4 : u ≤ c)
 (h : wpX P ops F w wf Q rest (a.put o.dst (.slice (subp p s 0 c) (u - 0) (c - 0)))) : wpX P ops F w wf Q (o :: rest) a := by
 subst h2;exact x_pure hw (fun w1 _ => by simp [execOp,ho,hx,hhi,run_sliceTo h4]) h
theorem x_sliceFrom {t e s b : Nat} {z : Value} [T : SlTy P t e s z b] {x lo : Operand} (hw : Region.wanted o (yielded ops a.tmps) = true) (ho : o.op = .slice t x (some lo) none none) {p : Option Addr} {n c : Nat} {k1 : IntKind} {li : Int} {l : Nat}
 (hx : a.eval x = .slice p n c) (hlo : a.eval lo = .int k1 li) (h1 : li = l) (h3 : l ≤ n) (h4 : n ≤ c)
 (h : wpX P ops F w wf Q rest (a.put o.dst (.slice (subp p s l c) (n - l) (c - l)))) : wpX P ops F w wf Q (o :: rest) a := by
 subst h1;exact x_pure hw (fun w1 _ => by simp [execOp,ho,hx,hlo,run_sliceFrom h3 h4]) h
end
def Tys (w : World) (ts : List TypeId) (bs : List Nat) : Prop := ∀ b ∈ bs,∃ Z T m,T ∈ ts ∧ w.heap[b]? = some (.cells Z T m)
theorem heap_lt {w : World} {b : Nat} {o : Obj} (h : w.heap[b]? = some o) : b < w.heap.size := by
 rcases Nat.lt_or_ge b w.heap.size with h' | h'
 · exact h'
 · simp [Array.getElem?_eq_none h'] at h
theorem Tys.ext {w w' : World} {ts : List TypeId} {bs : List Nat} (h : Tys w ts bs) (e : Ext w w') : Tys w' ts bs := by
 intro b hb;obtain ⟨Z,T,m,h1,h2⟩ := h b hb;exact ⟨Z,T,m,h1,by rw [e.block b (heap_lt h2)];exact h2⟩
theorem Tys.chg {S : Nat → Prop} {w w' : World} {ts : List TypeId} {bs : List Nat} (h : Tys w ts bs) (k : Chg S w w') (hS : ∀ b ∈ bs,¬ S b) : Tys w' ts bs := by
 intro b hb;obtain ⟨Z,T,m,h1,h2⟩ := h b hb;exact ⟨Z,T,m,h1,by rw [k.block b (heap_lt h2) (hS b hb)];exact h2⟩
theorem Tys.app {w : World} {ts : List TypeId} {a b : List Nat} (h : Tys w ts a) (k : Tys w ts b) : Tys w ts (a ++ b) := fun x hx => by
 rcases List.mem_append.1 hx with hx | hx
 · exact h x hx
 · exact k x hx
theorem Tys.mono {w : World} {ts us : List TypeId} {a : List Nat} (h : Tys w ts a) (k : ∀ t ∈ ts,t ∈ us) : Tys w us a := fun x hx => by
 obtain ⟨Z,T,m,h1,h2⟩ := h x hx;exact ⟨Z,T,m,k T h1,h2⟩
theorem own_tys {w : World} {B te s n c : Nat} {q : Option Addr} {vs : List Value} (h : w.ownsRow B te s (.slice q n c) n vs) : Tys w [te] (jac q) := by
 intro b hb;rcases h.2 with ⟨hv,h0⟩ | ⟨g,cap,cur,hv,hg,hh,hr⟩
 · cases hv;simp [jac] at hb
 · cases hv
   simp [jac] at hb;subst hb;exact ⟨_,_,_,by simp,hh⟩
def IsOwnY (ts : List TypeId) (B : Nat) (s : Sh) (w : World) (cs : List Value) (d : s.T) : Prop := ∃ bs,Own w s cs d bs ∧ bs.Nodup ∧ (∀ b ∈ bs,B ≤ b) ∧ Tys w ts bs
theorem IsOwnY.is {ts : List TypeId} {B : Nat} {s : Sh} {w : World} {cs : List Value} {d : s.T} (h : IsOwnY ts B s w cs d) : IsOwn B s w cs d := by
 obtain ⟨bs,h1,h2,h3,_⟩ := h;exact ⟨bs,h1,h2,h3⟩
theorem IsOwnY.ext {ts : List TypeId} {B : Nat} {s : Sh} {w w' : World} {cs : List Value} {d : s.T} (h : IsOwnY ts B s w cs d) (e : Ext w w') : IsOwnY ts B s w' cs d := by
 obtain ⟨bs,h1,h2,h3,h4⟩ := h;exact ⟨bs,h1.ext e,h2,h3,h4.ext e⟩
theorem IsOwnY.base {ts : List TypeId} {B B' : Nat} {s : Sh} {w : World} {cs : List Value} {d : s.T} (h : IsOwnY ts B s w cs d) (hB : B' ≤ B) : IsOwnY ts B' s w cs d := by
 obtain ⟨bs,h1,h2,h3,h4⟩ := h;exact ⟨bs,h1,h2,fun b hb => Nat.le_trans hB (h3 b hb),h4⟩
theorem IsOwnY.chg {ts : List TypeId} {B : Nat} {s : Sh} {w w' : World} {cs : List Value} {d : s.T} (h : IsOwnY ts B s w cs d) {S : Nat → Prop} (k : Chg S w w') (hS : ∀ b,S b → b < B) : IsOwnY ts B s w' cs d := by
 obtain ⟨bs,h1,h2,h3,h4⟩ := h;have hn : ∀ b ∈ bs,¬ S b := fun b hb hs => by have := h3 b hb;have := hS b hs;omega
 exact ⟨bs,h1.chg k hn,h2,h3,h4.chg k hn⟩
theorem jaq.ownY {w : World} {B : Nat} {te : TypeId} {E : Sh} {v : Value} {l : List E.T} {css : List (List Value)} {bss : List (List Nat)} (h : jaq w B te E v l css bss) {ts : List TypeId} (ht : Tys w ts bss.flatten) (hte : te ∈ ts) : IsOwnY ts B (.sl E) w [v] l := by
 obtain ⟨h1,h2,h3,h4⟩ := h;have hrow := h1;obtain ⟨hl,hr⟩ := h1;rcases hr with ⟨rfl,h0⟩ | ⟨g,cap,cur,rfl,hg,hh,hnc,hm,hsz,ht'⟩
 · have hl0 : l = [] := List.eq_nil_of_length_eq_zero h0
   subst hl0;exact ⟨[],own_nil,by simp,by simp,fun b hb => by simp at hb⟩
 · refine ⟨g :: bss.flatten,own_sl.2 ⟨some ⟨g,0,none⟩,cap,css,bss,rfl,ownRow_of hrow,hnc,hm,h2,rfl⟩,?_,?_,?_⟩
   · rw [List.nodup_cons];exact ⟨fun hb => (h4 g hb).2 rfl,h3⟩
   · intro b hb
     rcases List.mem_cons.1 hb with rfl | hb
     · exact hg
     · exact (h4 b hb).1
   · intro b hb
     rcases List.mem_cons.1 hb with rfl | hb
     · exact ⟨_,_,_,hte,hh⟩
     · exact ht b hb
theorem retFl_thing3 {w w' : World} {xs : List Nat} {e : Ending} {n : Nat} (hn : xs.length = n) (h : RetFl w xs e w') : ∃ q c bs,e = .returned (.slice q n c) ∧ Own w' (.sl .flt) [.slice q n c] xs bs ∧ bs.Nodup ∧ (∀ b ∈ bs,w.heap.size ≤ b) ∧ Ext w w' ∧ Tys w' [33] bs := by
 subst hn;obtain ⟨q,c,vs,he,ho,hf,hx⟩ := h;refine ⟨q,c,jac q,he,own_flts.2 ⟨q,c,vs,rfl,ownRow_of ho,hf,(jas ho).1,(jas ho).2,rfl⟩,?_,?_,hx,own_tys ho⟩
 · cases q <;> simp [jac]
 · intro b hb
   cases q with
   | none => simp [jac] at hb
   | some a => simp [jac] at hb;subst hb;exact jak ho _ rfl
def Small (L : List jaa.T) : Prop := L.length ≤ 12 ∧ ∀ d ∈ L,(d.2.2.2.1 : List Nat).length ≤ 64 ∧ (d.2.2.2.2.1 : List Nat).length ≤ 64
theorem lay_full {w : World} {cs : List Value} {d : jaa.T} (h : Rep w jaa cs d) : ∃ pw cw pb cb uw ub,cs = [.int .i64 d.1,.int .i64 d.2.1,.int .i64 d.2.2.1,.slice pw (d.2.2.2.1 : List Nat).length cw,.slice pb (d.2.2.2.2.1 : List Nat).length cb] ∧
 (Cs w pw uw ∧ F32s uw d.2.2.2.1 ∧ (d.2.2.2.1 : List Nat).length ≤ cw) ∧ (Cs w pb ub ∧ F32s ub d.2.2.2.2.1 ∧ (d.2.2.2.2.1 : List Nat).length ≤ cb) := by
 obtain ⟨a1,a2,a3,a4,a5,au⟩ := d;obtain ⟨_,_,rfl,rfl,_,_,rfl,rfl,_,_,rfl,rfl,_,_,rfl,h4,_,_,rfl,h5,rfl⟩ := h;obtain ⟨p4,c4,u4,rfl,g1,g2,g3,_⟩ := jbh.1 h4;obtain ⟨p5,c5,u5,rfl,k1,k2,k3,_⟩ := jbh.1 h5;exact ⟨p4,c4,p5,c5,u4,u5,rfl,⟨g1,g2,g3⟩,⟨k1,k2,k3⟩⟩
theorem own_lay {w : World} {d : jaa.T} {qw qb : Option Addr} {lw kw lb kb : Nat} {bw bb : List Nat} (h1 : Own w (.sl .flt) [.slice qw lw kw] d.2.2.2.1 bw) (h2 : Own w (.sl .flt) [.slice qb lb kb] d.2.2.2.2.1 bb) :
 Own w jaa [.int .i64 d.1,.int .i64 d.2.1,.int .i64 d.2.2.1,.slice qw lw kw,.slice qb lb kb] d (bw ++ bb) := by
 obtain ⟨a1,a2,a3,a4,a5,au⟩ := d
 exact ⟨[.int .i64 a1],[.int .i64 a2,.int .i64 a3,.slice qw lw kw,.slice qb lb kb],[],bw ++ bb,rfl,⟨rfl,rfl⟩,⟨[.int .i64 a2],[.int .i64 a3,.slice qw lw kw,.slice qb lb kb],[],bw ++ bb,rfl,⟨rfl,rfl⟩,⟨[.int .i64 a3],[.slice qw lw kw,.slice qb lb kb],[],bw ++ bb,rfl,⟨rfl,rfl⟩,
  ⟨[.slice qw lw kw],[.slice qb lb kb],bw,bb,rfl,h1,⟨[.slice qb lb kb],[],bb,[],rfl,h2,⟨rfl,rfl⟩,by simp⟩,rfl⟩,rfl⟩,rfl⟩,rfl⟩
theorem take_snoc {A : Type} {l : List A} {i : Nat} {d : A} (h : l[i]? = some d) : l.take i ++ [d] = l.take (i + 1) := by
 rw [List.take_add_one,h];rfl
theorem jaq.chgB {S : Nat → Prop} {w w' : World} {B : Nat} {te : TypeId} {E : Sh} {v : Value} {l : List E.T} {css : List (List Value)} {bss : List (List Nat)} (h : jaq w B te E v l css bss) (k : Chg S w w') (hS : ∀ b,S b → b < B) : jaq w' B te E v l css bss :=
 ⟨own_chgB h.row k hS,h.els.chg k (fun b hb hs => by have := (h.lo b hb).1;have := hS b hs;omega),h.nodup,h.lo⟩
theorem copyModel_any (p : Option Addr) (n c : Nat) (css : List (List Value)) (L : List jaa.T) (w : World) (hL : Lays w p n css L) (hS : Small L) :
 Calls Try.prog 87 #[.agg #[.slice p n c]] w fun e w' => ∃ q k,e = .returned (.agg #[.slice q n k]) ∧ IsOwnY [41,33] w.heap.size (.sl jaa) w' [.slice q n k] L ∧ Ext w w' := by
 have hn : n ≤ 12 := by have := hS.1;rw [hL.len] at this;exact this
 have HS := hid hS.2;have HL := hid hL.len;have l1 := hL.cs;have l2 := hL.all;have l3 := hL.size;have l5 := hid hL.cnt;obtain ⟨W0,hW0⟩ : ∃ W0,W0 = ((w.alloc (.cells #[.slice p n c] 38)).alloc (.cells #[.slice none 0 0] 38)).alloc (.cells #[.slice none 0 0] 38) := ⟨_,rfl⟩;obtain ⟨E0,s0,_,b1,b2⟩ := box3 hW0;have b1 : HB W0 (w.heap.size + 1) #[.slice none 0 0] 38 := b1;have b2 : HB W0 (w.heap.size + 1 + 1) #[.slice none 0 0] 38 := b2;have hst : W0.ownsRow W0.heap.size 41 jaa.sz (.slice none 0 0) 0 [] := ⟨rfl,.inl ⟨rfl,rfl⟩⟩;clear hL hS;go_enter Try.func87,Try.ntmps87;go_wp2_with fail;rw [← hW0];clear hW0;go_loopw [10] (fun iv wr => ∃ (i k : Nat) (q : Option Addr) (cs : List (List Value)) (bss : List (List Nat)),i ≤ n ∧ iv = .int .i64 i ∧ HB wr (w.heap.size + 1 + 1) #[.slice q i k] 38 ∧ HB wr (w.heap.size + 1) #[.slice none 0 0] 38 ∧ Hid (jaq wr W0.heap.size 41 jaa (.slice q i k) (L.take i) cs bss) ∧ Hid (Tys wr [33] bss.flatten) ∧ Ext w wr ∧ W0.heap.size ≤ wr.heap.size) (fun iv _ => n - (intOf iv).toNat)
 case atStart => exact ⟨0,0,none,[],[],by omega,rfl,b2,b1,jaq.empty hst,fun b hb => by simp at hb,E0,Nat.le_refl _⟩
 case round =>
  clear b1 b2 hst E0;obtain ⟨i,k,q,cs,bss,hi,rfl,B2,B1,HG,HT,he,hsz⟩ := hrel
  by_cases hlt : i < n
  · have hil : i < L.length := by rw [HL.out];exact hlt
    obtain ⟨ci,hci,ri⟩ := l2.get i L[i] (by simp);have hs1 : p.isSome = true := l1.some_of l3 (by decide) (show 0 < css.length by rw [l5.out];omega);have hp := l1.ext he;have one := ri.one;obtain ⟨hw1,hw2⟩ := HS.out L[i] (by simp);obtain ⟨pw,cw,pb,cb,uw,ub,rfl,⟨x1,x2,x3⟩,⟨y1,y2,y3⟩⟩ := lay_full ri;have C1 := hid (fun W (h : Ext w W) => cloneF_any pw _ cw uw _ W rfl (by omega) x3 (x1.ext h) x2);have C2 := hid (fun W (h : Ext w W) => cloneF_any pb _ cb ub _ W rfl (by omega) y3 (y1.ext h) y2);have HD := hid (show L[i]? = some L[i] by simp);generalize L[i] = d at *;obtain ⟨d1,d2,d3,ws,bs,du⟩ := d;dsimp only at hci one C1 C2 HD hw1 hw2;have HH := hid (And.intro hw1 hw2);have hlw := hid (rfl : ws.length = ws.length);generalize hlw0 : ws.length = lw at *;generalize hlb0 : bs.length = lb at *;have Hlw := hid hlw0;have Hlb := hid hlb0;clear hlw0 hlb0 x1 x2 x3 y1 y2 y3 ri hw1 hw2 hlw;have g2 : wr.cell? ⟨w.heap.size + 1 + 1,0,none⟩ = some (.slice q i k) := B2.cell 0 rfl;have hB2 := B2.lt;have b5 := HB.new wr #[.int .i64 d1,.int .i64 d2,.int .i64 d3,.slice pw lw cw,.slice pb lb cb] 41;obtain ⟨W1,hW1⟩ : ∃ W1,W1 = wr.alloc (.cells #[.int .i64 d1,.int .i64 d2,.int .i64 d3,.slice pw lw cw,.slice pb lb cb] 41) := ⟨_,rfl⟩;have E1 : Ext wr W1 := by subst hW1;exact Ext.alloc _ _
    rw [← hW1] at b5;go_wp2_with ((with_reducible show gx0);refine wl_idxloadE (s := jaa) (j := i) rfl rfl rfl rfl (fun _ => rfl) rfl rfl rfl hp l3 l5.out hlt hs1 hci ?_;simp only [ofCs,Sh.agg,if_true]);rw [← hW1];clear hW1;refine (C1.out _ (he.trans E1)).mono ?_;intro e w2 h2;obtain ⟨qw,kw,bw,rfl,ow,ndw,low,e2,tw⟩ := retFl_thing3 Hlw.out h2;have E2 := E1.trans e2;have b6 := b5.ext e2;have m3 : w2.cell? ⟨wr.heap.size,3,none⟩ = some (.slice pw lw cw) := b6.cell 3 rfl;have hW1s := b5.lt;clear h2 b5;go_wp2_with ((with_reducible show gx9);refine wl_stHB (j := 3) rfl rfl b6 rfl rfl rfl rfl ?_;intro w3 b7 ch3;have E3 := E2.chg ch3 (fun b hb => by omega);have m4 : w3.cell? ⟨wr.heap.size,4,none⟩ = some (.slice pb lb cb) := b7.cell 4 rfl);refine (C2.out _ (he.trans E3)).mono ?_;intro e w4 h4;obtain ⟨qb,kb,bb,rfl,ob,ndb,lob,e4,tb⟩ := retFl_thing3 Hlb.out h4;have E4 := E3.trans e4;have b8 := b7.ext e4;clear h4 b7;have hrow := HG.out.row;rw [List.length_take,HL.out,Nat.min_eq_left (by omega)] at hrow;go_wp2_with (first | ((with_reducible show gx9);refine wl_stHB (j := 4) rfl rfl b8 rfl rfl rfl rfl ?_;intro w5 b9 ch5;have E5 := E4.chg ch5 (fun b hb => by omega);have k0 : w5.cell? ⟨wr.heap.size,0,none⟩ = some (.int .i64 d1) := b9.cell 0 rfl;have k1 : w5.cell? ⟨wr.heap.size,1,none⟩ = some (.int .i64 d2) := b9.cell 1 rfl;have k2 : w5.cell? ⟨wr.heap.size,2,none⟩ = some (.int .i64 d3) := b9.cell 2 rfl;have k3 : w5.cell? ⟨wr.heap.size,3,none⟩ = some (.slice qw lw kw) := b9.cell 3 rfl;have k4 : w5.cell? ⟨wr.heap.size,4,none⟩ = some (.slice qb lb kb) := b9.cell 4 rfl;have g5 := E5.cell g2) | ((with_reducible show gx6);refine ja5 (u := .agg #[.int .i64 d1,.int .i64 d2,.int .i64 d3,.slice qw lw kw,.slice qb lb kb]) rfl rfl rfl rfl rfl (by rfl) (by rfl) (fun _ => rfl) (fun _ => rfl) (jaj hrow E5) (by unfold maxLen;omega) (by omega) (by have := E5.size;omega) ?_;intro g9 c9 w9 own9 gr9 hw9;have hg9 : HB w9 (w.heap.size + 1 + 1) #[.slice q i k] 38 := (B2.ext E5).chg (.of_grown gr9) (fun h => by have := jak hrow _ h.symm;omega)) | ((with_reducible show gx9);refine wl_stHB (j := 0) rfl rfl hg9 rfl rfl rfl rfl ?_;intro w10 b10 ch10));go_roundw
    case rel =>
     have tw5 := ((tw.chg ch3 (fun b hb h => by have h : b = _ := h;have := low b hb;omega)).ext e4).chg ch5 (fun b hb h => by have h : b = _ := h;have := low b hb;omega);have tb5 := tb.chg ch5 (fun b hb h => by have h : b = _ := h;have := lob b hb;have := e2.size;have := ch3.size;omega)
     have T9 : Tys w10 [33] (bss ++ [bw ++ bb]).flatten := by
      have hh : (bss ++ [bw ++ bb]).flatten = bss.flatten ++ (bw ++ bb) := by simp
      rw [hh];refine ((((HT.out.ext E5).app (tw5.app tb5)).chg (.of_grown gr9) (fun b hb h => ?_)).chg ch10 (fun b hb h => ?_))
      · rcases List.mem_append.1 hb with hb | hb
        · exact (HG.out.lo b hb).2 h.symm
        · have hlt2 := own_lt hrow b h.symm
          rcases List.mem_append.1 hb with hb | hb
          · have := low b hb;omega
          · have := lob b hb;have := e2.size;have := ch3.size;omega
      · have h : b = _ := h
        rcases List.mem_append.1 hb with hb | hb
        · have := (HG.out.lo b hb).1;omega
        · rcases List.mem_append.1 hb with hb | hb
          · have := low b hb;omega
          · have := lob b hb;have := e2.size;have := ch3.size;omega
     have ow3 := ow.chg ch3 (fun b hb h => by have := low b hb;omega);have ow5 : Own w5 (.sl .flt) [.slice qw lw kw] ws bw := (ow3.ext e4).chg ch5 (fun b hb h => by have := low b hb;omega);have hs3 := ch3.size;have hs2 := e2.size;have ob5 : Own w5 (.sl .flt) [.slice qb lb kb] bs bb := ob.chg ch5 (fun b hb h => by have := lob b hb;omega)
     have H9 := HG.out.snoc E5 (own_lay (d := (d1,d2,d3,ws,bs,du)) ow5 ob5) (nodup_app ndw ndb (fun x hx => by have := ow.lt x hx;have := e2.size;omega) (fun x hx => lob x hx)) (fun b hb => by
      rcases List.mem_append.1 hb with h | h
      · have := low b h;omega
      · have := lob b h;omega) hsz (n := i) (by rw [List.length_take,HL.out,Nat.min_eq_left (by omega)]) own9 gr9 hw9
     rw [take_snoc HD.out] at H9;exact ⟨i + 1,c9,some ⟨g9,0,none⟩,_,_,by omega,by go_num,b10,((B1.ext E5).chg (.of_grown gr9) (fun h => by have := jak hrow _ h.symm;omega)).chg ch10 (fun h => by omega),H9.chgB ch10 (fun b hb => by omega),T9,((he.trans E5).grown gr9 (fun kk hk => by have := jak hrow kk hk;omega)).chg ch10 (fun b hb => by omega),by have := E5.size;have := gr9.size;have := ch10.size;omega⟩
    case measure => simp [intOf];omega
  · obtain rfl : i = n := by omega
    have HG2 := HG.out;rw [List.take_of_length_le (by rw [HL.out];exact Nat.le_refl _)] at HG2;have HG3 := hid (HG2.ownY (ts := [41,33]) (HT.out.mono (by simp)) (by simp));have hB1 := B1.lt;have g2 : wr.cell? ⟨w.heap.size + 1 + 1,0,none⟩ = some (.slice q i k) := B2.cell 0 rfl;have g1 : wr.cell? ⟨w.heap.size + 1,0,none⟩ = some (.slice none 0 0) := B1.cell 0 rfl;have g3 := B1.froz 0;clear HG HG2;go_wp2;refine bodyPost_ret (v := .agg #[.slice q i k]) (by simp [results,Try.results87,go_sem,g1,g3]) rfl ?_;have ch := jaw wr (w.heap.size + 1) 0 (.slice q i k);exact ⟨q,k,rfl,(IsOwnY.chg HG3.out ch (fun b hb => by omega)).base (by omega),he.chg ch (fun b hb => by omega)⟩
theorem tab_selfR (xs : List Nat) : tab xs.length (fun i => xs.getD i 0) = xs := by
 apply List.ext_getElem?;intro j;unfold tab
 by_cases hj : j < xs.length
 · simp [hj]
 · simp [show xs.length ≤ j by omega]
def addF (a b : List Nat) : List Nat := tab a.length fun i => fop .add .f32 (a.getD i 0) (b.getD i 0)
theorem addF_len (a b : List Nat) : (addF a b).length = a.length := jay _ _
def sumK (l : List (List Nat)) (f j : Nat) : Nat → Nat
 | 0 => (l.getD f []).getD j 0
 | i + 1 => fop .add .f32 (sumK l f j i) ((l.getD ((f + i + 1) % l.length) []).getD j 0)
def fstR (k : Int) (n j : Nat) : Nat := if k = 2 then j % n else 0
def ringF (k : Int) (l : List (List Nat)) : List Nat := tab (l.getD 0 []).length fun j => sumK l (fstR k l.length j) j (l.length - 1)
def prF (l : List (List Nat)) (j : Nat) : List Nat := if 2 * j + 1 < l.length then addF (l.getD (2 * j) []) (l.getD (2 * j + 1) []) else l.getD (2 * j) []
def ltab (n : Nat) (f : Nat → List Nat) : List (List Nat) := (List.range n).map f
theorem ltab_len (n : Nat) (f : Nat → List Nat) : (ltab n f).length = n := by simp [ltab]
theorem ltab_get {n i : Nat} (f : Nat → List Nat) (h : i < n) : (ltab n f).getD i [] = f i := by simp [ltab,h]
theorem ltab_succ (n : Nat) (f : Nat → List Nat) : ltab (n + 1) f = ltab n f ++ [f n] := by simp [ltab,List.range_succ]
def pairF (l : List (List Nat)) : List (List Nat) := ltab ((l.length + 1) / 2) (prF l)
theorem pairF_len (l : List (List Nat)) : (pairF l).length = (l.length + 1) / 2 := ltab_len _ _
def treeN : Nat → List (List Nat) → List Nat
 | 0,l => l.getD 0 []
 | n + 1,l => if l.length ≤ 1 then l.getD 0 [] else treeN n (pairF l)
theorem treeN_eq : ∀ (n m : Nat) (l : List (List Nat)),l.length ≤ n → l.length ≤ m → treeN n l = treeN m l
 | 0,0,_,_,_ => rfl
 | 0,m + 1,l,h,_ => by show l.getD 0 [] = treeN (m + 1) l;unfold treeN;rw [if_pos (by omega)]
 | n + 1,0,l,_,h => by show treeN (n + 1) l = l.getD 0 [];unfold treeN;rw [if_pos (by omega)]
 | n + 1,m + 1,l,h1,h2 => by
   unfold treeN
   by_cases h : l.length ≤ 1
   · rw [if_pos h,if_pos h]
   · rw [if_neg h,if_neg h]
     exact treeN_eq n m (pairF l) (by rw [pairF_len];omega) (by rw [pairF_len];omega)
def treeF (l : List (List Nat)) : List Nat := treeN l.length l
theorem treeF_one {l : List (List Nat)} (h : l.length ≤ 1) : treeF l = l.getD 0 [] := by
 unfold treeF
 cases hl : l.length with
 | zero => rfl
 | succ n => unfold treeN;rw [if_pos (by omega)]
theorem treeF_pair {l : List (List Nat)} (h : 1 < l.length) : treeF l = treeF (pairF l) := by
 obtain ⟨n,hn⟩ : ∃ n,l.length = n + 1 := ⟨l.length - 1,by omega⟩;unfold treeF;rw [hn];show (if l.length ≤ 1 then l.getD 0 [] else treeN n (pairF l)) = _;rw [if_neg (by omega)];exact treeN_eq _ _ _ (by rw [pairF_len];omega) (Nat.le_refl _)
def redF (k : Int) (l : List (List Nat)) : List Nat := if k = 1 then treeF l else ringF k l
def EvenL (l : List (List Nat)) (N : Nat) : Prop := ∀ i,i < l.length → (l.getD i []).length = N
theorem EvenL.pair {l : List (List Nat)} {N : Nat} (h : EvenL l N) : EvenL (pairF l) N := by
 intro i hi;rw [pairF_len] at hi;unfold pairF;rw [ltab_get _ hi];unfold prF
 by_cases h1 : 2 * i + 1 < l.length
 · rw [if_pos h1,addF_len];exact h _ (by omega)
 · rw [if_neg h1];exact h _ (by omega)
theorem EvenL.tree : ∀ {n : Nat} {l : List (List Nat)} {N : Nat},l.length = n → 1 ≤ n → EvenL l N → (treeF l).length = N := by
 intro n
 induction n using Nat.strongRecOn with
 | _ n ih =>
   intro l N hl h1 h
   by_cases h2 : l.length ≤ 1
   · rw [treeF_one h2];exact h 0 (by omega)
   · rw [treeF_pair (by omega)]
     exact ih _ (by rw [← hl];omega) (pairF_len l) (by omega) h.pair
theorem EvenL.red {l : List (List Nat)} {N : Nat} (h : EvenL l N) (h1 : 1 ≤ l.length) (k : Int) : (redF k l).length = N := by
 unfold redF
 split
 · exact h.tree rfl h1
 · unfold ringF;rw [jay];exact h 0 (by omega)
def lineF (l : List (List Nat)) (t : Nat) : List Nat := tab (l.getD 0 []).length fun j => sumK l 0 j t
theorem lineF_zero (l : List (List Nat)) : lineF l 0 = l.getD 0 [] := by
 unfold lineF
 apply List.ext_getElem?;intro j;unfold tab sumK
 by_cases hj : j < (l.getD 0 []).length
 · simp only [List.getElem?_map,List.getElem?_range hj,Option.map_some]
   rw [List.getD_eq_getElem?_getD (l := l.getD 0 []) (i := j),List.getElem?_eq_getElem hj];rfl
 · rw [List.getElem?_eq_none (by rw [List.length_map,List.length_range];omega),List.getElem?_eq_none (by omega)]
theorem lineF_succ (l : List (List Nat)) {t : Nat} (h : t + 1 < l.length) : lineF l (t + 1) = addF (lineF l t) (l.getD (t + 1) []) := by
 unfold addF;have e : (lineF l t).length = (l.getD 0 []).length := jay _ _;rw [e];unfold lineF tab
 apply List.map_congr_left;intro j hj;rw [List.mem_range] at hj;show sumK l 0 j (t + 1) = _;rw [show (List.getD ((List.range (l.getD 0 []).length).map fun j => sumK l 0 j t) j 0) = sumK l 0 j t from jba (fun j => sumK l 0 j t) hj];show fop .add .f32 (sumK l 0 j t) ((l.getD ((0 + t + 1) % l.length) []).getD j 0) = _;rw [Nat.zero_add,Nat.mod_eq_of_lt h]
theorem lineF_last {l : List (List Nat)} {k : Int} (h : k ≠ 1) (h2 : k ≠ 2) : redF k l = lineF l (l.length - 1) := by
 unfold redF;rw [if_neg h];unfold ringF fstR lineF;simp only [if_neg h2]
structure Fls (w : World) (p : Option Addr) (n : Nat) (us : List Value) (l : List (List Nat)) : Prop where
 cs : Cs w p us
 at' : ∀ i,i < n → ∃ q c vs,us[i]? = some (.slice q (l.getD i []).length c) ∧ Cs w q vs ∧ F32s vs (l.getD i []) ∧ (l.getD i []).length ≤ c
 len : l.length = n
 cnt : us.length = n
theorem Fls.ext {w w' : World} {p : Option Addr} {n : Nat} {us : List Value} {l : List (List Nat)} (h : Fls w p n us l) (e : Ext w w') : Fls w' p n us l :=
 ⟨h.cs.ext e,fun i hi => by obtain ⟨q,c,vs,h1,h2,h3,h4⟩ := h.at' i hi;exact ⟨q,c,vs,h1,h2.ext e,h3,h4⟩,h.len,h.cnt⟩
theorem fls_of {w : World} {v : Value} {l : List (List Nat)} (h : Rep w (.sl (.sl .flt)) [v] l) : ∃ p c us,v = .slice p l.length c ∧ Fls w p l.length us l ∧ l.length ≤ c ∧ c ≤ maxLen ∧ ∀ i,i < l.length → (l.getD i []).length ≤ maxLen := by
 obtain ⟨p,c,css,h1,a2,a3,a4,a5⟩ := h
 cases h1
 have a6 : ∀ c ∈ css,c.length = 1 := fun c hc => by obtain ⟨i,hi,rfl⟩ := List.mem_iff_getElem.1 hc;obtain ⟨_,h⟩ := a5.get' i (by rw [← a5.length];exact hi);exact h.size
 have hget : ∀ i (hi : i < l.length),∃ q c vs,css.flatten[i]? = some (.slice q (l.getD i []).length c) ∧ Cs w q vs ∧ F32s vs (l.getD i []) ∧ (l.getD i []).length ≤ c ∧ c ≤ maxLen := by
  intro i hi;obtain ⟨h1,h2⟩ := a5.get' i hi;obtain ⟨q,c,vs,g1,k1,k2,k3,k4⟩ := jbh.1 h2;have e : l.getD i [] = l[i] := by simp [hi]
  rw [e];refine ⟨q,c,vs,?_,k1,k2,k3,k4⟩;have := flat_get' (j := 0) a6 h1 (by decide);rw [Nat.mul_one,Nat.add_zero,g1] at this
  simpa using this
 refine ⟨p,c,css.flatten,rfl,⟨a2,fun i hi => ?_,rfl,?_⟩,a3,a4,fun i hi => ?_⟩
 · obtain ⟨q,c,vs,k1,k2,k3,k4,_⟩ := hget i hi;exact ⟨q,c,vs,k1,k2,k3,k4⟩
 · rw [flat_len' a6,Nat.mul_one,a5.length]
 · obtain ⟨q,c,vs,k1,k2,k3,k4,k5⟩ := hget i hi;exact Nat.le_trans k4 k5
section
variable {P : Program} {w : World} {o : Oper} {a : Act}
theorem run_build1 {t e s b : Nat} {z : Value} [T : SlTy P t e s z b] {x1 : Operand} {u : Value} (ho1 : o.op = .buildSlice t 1 #[(0,x1)]) (hx : a.eval x1 = u) (hu : u.cells.size = s) (w : World) :
 (execOp a.eval o).run P w = .ok (.value (.slice (some ⟨w.heap.size,0,none⟩) 1 1)) (w.alloc (.cells u.cells e)) := by
 obtain ⟨ti,hi,hzz⟩ := Option.map_eq_some_iff.1 T.inf;simp only [Prod.mk.injEq] at hzz;have hund := T.und;have hpos := T.pos;have hs24 := T.few
 have hfill : Instr.fill (fun i => some (i * s,s)) ((Array.range (1 * s)).map (z.cells[· % z.cells.size]!)) [(0,u)] = some u.cells := by
  simp only [Instr.fill,hu,Array.size_map,Array.size_range,Nat.zero_mul,Nat.zero_add,Nat.one_mul,Nat.lt_irrefl,ne_eq,not_true_eq_false,decide_false,Bool.or_self,gt_iff_lt,Bool.false_eq_true,if_false]
  congr 1
  exact wl_app1.fill_all (w := w) (s := s) (b := b) (u := u) (B := 0) (n := 0) _ _ (by simp [hu])
 simp [execOp,ho1,hx,Instr.buildSlice,run_underlying hund,sizeOf,typeInfo,hi,hzz.2.1,zeroValue,hzz.1,show ¬ 16777216 < s by omega,show ¬ s = 0 by omega,newRow];rw [show (Array.map (fun x => z.cells[x % z.cells.size]!) (Array.range s)) = (Array.range (1 * s)).map (z.cells[· % z.cells.size]!) by rw [Nat.one_mul],hfill];simp
end
theorem cs_heap {w : World} {b : Nat} {Z : Array Value} {t : TypeId} (h : w.heap[b]? = some (.cells Z t)) : Cs w (some ⟨b,0,none⟩) Z.toList := by
 refine ⟨fun i u hu => ?_,fun _ => rfl⟩;rw [ja2];unfold World.cell?;rw [h]
 simpa using hu
section
variable {P : Program} {w wf : World} {ops : Array Oper} {rest : List Oper} {o : Oper} {a : Act} {Q : Act → Prop} {F : Option Tmp → World → World → Value → Prop}
theorem x_build1 {t e s b : Nat} {z : Value} [T : SlTy P t e s z b] {x1 : Operand} {u : Value} (hw : Region.wanted o (yielded ops a.tmps) = true) (ho1 : o.op = .buildSlice t 1 #[(0,x1)]) (hx : a.eval x1 = u) (hu : u.cells.size = s)
 (h : ∀ g,w.heap.size ≤ g → g < wf.heap.size → Cs wf (some ⟨g,0,none⟩) u.cells.toList → wpX P ops F w wf Q rest (a.put o.dst (.slice (some ⟨g,0,none⟩) 1 1))) : wpX P ops F w wf Q (o :: rest) a :=
 x_made (V := fun wf v => ∃ g,v = .slice (some ⟨g,0,none⟩) 1 1 ∧ w.heap.size ≤ g ∧ g < wf.heap.size ∧ Cs wf (some ⟨g,0,none⟩) u.cells.toList) hw
  (fun w1 e1 => ⟨_,_,run_build1 ho1 hx hu w1,Ext.alloc _ _,fun wf hf => ⟨w1.heap.size,rfl,e1.size,Nat.lt_of_lt_of_le (by simp) hf.size,cs_heap (by rw [hf.block _ (by simp)];exact heap_alloc_new w1 _)⟩⟩)
  (fun v ⟨g,h1,h2,h3,h4⟩ => by subst h1;exact h g h2 h3 h4)
end
section
variable {P : Program} {w : World} {ops : Array Oper} {rest : List Oper} {o : Oper} {a : Act} {Q : Exit → Act → World → Prop}
theorem wl_app1s {t e s b : Nat} {z : Value} [T : SlTy P t e s z b] {x1 x2 : Operand} {v : Value} {B n c : Nat} {vs us : List Value} {q : Addr}
 (hg : o.guard = none) (ho : o.op = .call { callee := .builtin .append,args := #[x1,x2],argTypes := #[t,t] }) (hx1 : a.eval x1 = v) (hx2 : a.eval x2 = .slice (some q) 1 c) (how : w.ownsRow B e s v n vs) (hc : Cs w (some q) us) (hm : us.length = s) (h1 : ∀ u ∈ us,u.oneCell' = true)
 (hn : n + 1 ≤ maxLen) (hb : (n + 1) * b ≤ 140737488355328) (hB : B ≤ w.heap.size)
 (h : ∀ g c w',w'.ownsRow B e s (.slice (some ⟨g,0,none⟩) (n + 1) c) (n + 1) (vs ++ us) → w.grownBy w' v.ownBlock → (v.ownBlock = some g ∨ w.heap.size ≤ g) →
  wpList P ops Q rest (a.put o.dst (.slice (some ⟨g,0,none⟩) (n + 1) c)) w') : wpList P ops Q (o :: rest) a w := by
 obtain ⟨ti,hi,hzz⟩ := Option.map_eq_some_iff.1 T.inf;simp only [Prod.mk.injEq] at hzz;have hund := T.und;have hpos := T.pos;refine wpList_append_own_at _ hg x1 x2 t ho B e ti z s b hund hi hzz.1 hzz.2.1 hzz.2.2 T.zs hpos v n vs hx1 how q 1 c us hx2 (by omega) (fun j u hj => hc.cell j u hj) h1 hn hb hB ?_;intro v' w' h1 h2 h3 h4;rcases h1.2 with ⟨_,h5⟩ | ⟨g,cap,cur,rfl,_⟩
 · omega
 · refine h g cap w' h1 h2 ?_
   rcases h4 with h4 | h4
   · left;rw [← h4];rfl
   · right;simp [Value.ownBlock] at h4;omega
end
theorem addLists_any (p q : Option Addr) (n c d : Nat) (us vs : List Value) (xs ys : List Nat) (w : World) (hx : xs.length = n) (hy : ys.length = n) (hn : n ≤ 1048576) (hc : n ≤ c) (hp : Cs w p us) (hf : F32s us xs) (hq : Cs w q vs) (hg : F32s vs ys) :
 Calls Try.prog 94 #[.slice p n c,.slice q n d] w (RetFl w (addF xs ys)) := by
 have HY := hid hy;have HX := hid hx;have C := hid (cloneF_any p n c us xs w hx (by omega) hc hp hf);have Hd := hid (show addF xs ys = tab n (fun i => fop .add .f32 (xs.getD i 0) (ys.getD i 0)) from by unfold addF;rw [hx]);have Hs := hid (show tab n (fun i => xs.getD i 0) = xs from by rw [← hx];exact tab_selfR xs);obtain ⟨o,ho⟩ : ∃ o : Nat → Nat,o = fun i => fop .add .f32 (xs.getD i 0) (ys.getD i 0) := ⟨_,rfl⟩
 obtain ⟨e',he'⟩ : ∃ e : Nat → Nat,e = fun i => xs.getD i 0 := ⟨_,rfl⟩
 rw [← ho] at Hd;rw [← he'] at Hs;have HO := hid (fun i => show o i = fop .add .f32 (e' i) (ys.getD i 0) from by rw [ho,he']);clear hx hy hp hf ho he';go_enter Try.func94,Try.ntmps94;go_wp2_with fail;refine C.out.mono ?_;rintro e w1 ⟨q1,c1,ws,rfl,own0,hF,e0⟩
 rw [HX.out] at own0 ⊢;have HF := hid hF;clear hF;go_wp2_with fail;go_loopw [12] (fun iv wr => ∃ (i : Nat) (vs' : List Value),i ≤ n ∧ iv = .int .i64 i ∧ wr.ownsRow w.heap.size 33 1 (.slice q1 n c1) n vs' ∧ Hid (F32s vs' (tab n (mix o e' i))) ∧ Ext w wr) (fun iv _ => n - (intOf iv).toNat)
 case atStart => exact ⟨0,ws,by omega,rfl,own0,by rw [tab_mix0,Hs.out];exact HF.out,e0⟩
 case round =>
  clear own0 e0 HF;obtain ⟨i,vs',hi,rfl,own0,HF,he⟩ := hrel;have hB := he.size
  by_cases hlt : i < n
  · have k1 := jbi own0
    have k2 := hq.ext he;have HL := hid (jay n (mix o e' i));have HG := hid (show (tab n (mix o e' i)).getD i 0 = e' i from by rw [jba _ hlt];unfold mix;rw [if_neg (by omega)]);go_wp2_with (first | ((with_reducible show gx0);first | (refine wl_ldF rfl rfl rfl rfl (fun _ => rfl) rfl rfl k2 hg HY.out (by omega) (by omega) ?_;intro r1 g1;have G1 := hid g1;clear g1) | (refine wl_ldF rfl rfl rfl rfl (fun _ => rfl) rfl rfl k1 HF.out HL.out (by omega) (by omega) ?_;intro r2 g2;have G2 := hid g2;clear g2)) | ((with_reducible show gx3);refine wl_fop rfl rfl rfl rfl rfl ?_;intro r3 w3 e3 g3;have G3 := hid g3;clear g3;replace own0 := jaj own0 e3;replace he := he.trans e3) | ((with_reducible show gx7);refine wl_idxstore (u := .float .f32 r3) rfl rfl rfl rfl (fun _ => rfl) rfl rfl (fun _ => rfl) rfl own0 (by omega) (by omega) ?_;intro w4 own4 g4));go_roundw
    case rel =>
     refine ⟨i + 1,_,by omega,by go_num,own4,?_,he.grown g4 (fun k hk => jak own0 k hk)⟩;rw [Int.toNat_natCast];have q1 := G1.out;have q2 := G2.out;rw [Int.toNat_natCast] at q1 q2;rw [HG.out] at q2;exact HF.out.put hlt (by rw [G3.out,q1,q2,HO.out])
    case measure => simp [intOf];omega
  · obtain rfl : i = n := by omega
    rw [tab_mixn] at HF;go_wp2;go_ret;rw [Hd.out];exact retFl_own (jay _ _) own0 HF.out rfl he
end Go.Proofs.Ytmbckkcgiafagaa
