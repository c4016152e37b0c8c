/- A part of the proofs: Cont2, Lbl, HExamples, Exa, CCor, Tab, ConfD, HInt64SS, Conf, CLab, CpyM. -/
import Derived.Test.YtmbckkcgiafagaaZ08FnWork
import Derived.Test.YtmbckkcgiafagaaZ03FnWork
import Derived.Test.YtmbckkcgiafagaaZ10FnWork
import Derived.Test.YtmbckkcgiafagaaZ07FnWork
import Derived.Test.YtmbckkcgiafagaaZ06FnWork
import Derived.Test.YtmbckkcgiafagaaZ09FnWork
set_option linter.unusedSimpArgs false
set_option linter.unusedVariables false
set_option maxRecDepth 100000
set_option maxHeartbeats 16000000
namespace Go.Proofs.Ytmbckkcgiafagaa
open Go.RowKit
theorem indexFuncSl_any (fn : Nat) (cap : Array Value) (eg : ∀ args w,(callFunc fn args).run Try.prog w = .ok (.enter fn args) w) (p : Option Addr) (n c : Nat) (vs : List Value) (q : Nat → Bool) (w : World) (hv : vs.length = n) (hn : n ≤ maxLen) (hc : Cs w p vs) (hq : PredOk fn cap vs q w) :
 Calls Try.prog 92 #[.slice p n c,.func (.func fn) #[] cap] w fun e w' => ∃ z : Int,e = .returned (.int .i64 z) ∧ (0 ≤ z ↔ anyTo q n = true) ∧ Ext w w' := by
 have Hv := hid hv;have Hq := hid hq;clear hv hq;unfold maxLen at hn;go_enter Try.func92,Try.ntmps92;go_wp2;go_loopw [8] (fun iv wr => ∃ i : Nat,i ≤ n ∧ iv = .int .i64 i ∧ Hid (∀ j,j < i → q j = false) ∧ Ext w wr) (fun iv _ => n - (intOf iv).toNat)
 case atStart => exact ⟨0,by omega,rfl,fun j hj => by omega,Ext.refl w⟩
 case round =>
  obtain ⟨i,hi,rfl,Hall,he⟩ := hrel
  by_cases hlt : i < n
  · have hp' := hc.ext he
    have hvi : i < vs.length := by rw [Hv.out];exact hlt
    have hu : vs[i]? = some vs[i] := by simp
    have hcall := Hq.out i vs[i] wr hu he
    cases hqi : q i with
    | true =>
      have Hqi := hid hqi;clear hqi;rw [Hqi.out] at hcall;go_wp2_with (first | (go_at_fn fn;refine hcall.mono ?_;rintro e w1 ⟨rfl,e1⟩) | ((with_reducible show gx2);refine jar rfl rfl rfl rfl (fun _ => rfl) rfl rfl hp' Hv.out (by omega) (by omega) ?_;intro u hu';rw [Int.toNat_natCast,hu] at hu';cases hu'));go_ret;refine ⟨i,rfl,⟨fun _ => jbx.2 ⟨i,hlt,Hqi.out⟩,fun _ => by omega⟩,he.trans e1⟩
    | false =>
      have Hqi := hid hqi;clear hqi;rw [Hqi.out] at hcall;go_wp2_with (first | (go_at_fn fn;refine hcall.mono ?_;rintro e w1 ⟨rfl,e1⟩) | ((with_reducible show gx2);refine jar rfl rfl rfl rfl (fun _ => rfl) rfl rfl hp' Hv.out (by omega) (by omega) ?_;intro u hu';rw [Int.toNat_natCast,hu] at hu';cases hu'));go_roundw
      case rel =>
       refine ⟨i + 1,by omega,by go_num,fun j hj => ?_,he.trans e1⟩
       by_cases hji : j = i
       · subst hji;exact Hqi.out
       · exact Hall j (by omega)
      case measure => simp [intOf];omega
  · obtain rfl : i = n := by omega
    go_wp2;go_ret;exact ⟨-1,rfl,by rw [anyTo_false Hall.out];simp,he⟩
theorem containsFuncSl_any (fn : Nat) (cap : Array Value) (eg : ∀ args w,(callFunc fn args).run Try.prog w = .ok (.enter fn args) w) (p : Option Addr) (n c : Nat) (vs : List Value) (q : Nat → Bool) (w : World) (hv : vs.length = n) (hn : n ≤ maxLen) (hc : Cs w p vs) (hq : PredOk fn cap vs q w) :
 Calls Try.prog 51 #[.slice p n c,.func (.func fn) #[] cap] w fun e w' => e = .returned (.bool (anyTo q n)) ∧ Ext w w' := by
 have hcall := indexFuncSl_any fn cap eg p n c vs q w hv hn hc hq;generalize anyTo q n = b at *;clear hv hc hq eg;go_enter Try.func51,Try.ntmps51;go_wp2_with fail;refine hcall.mono ?_;rintro e w1 ⟨z,rfl,hz,he⟩
 have Hz := hid hz;clear hz;go_wp2;go_ret;refine ⟨ret_bool ?_,he⟩;have := Hz.out
 cases b <;> simp at this <;> simp <;> omega
def lblB (O : Int) (l : List Int) : Bool := l.all fun n => inB n 0 (O - 1)
abbrev shExamples : Sh := .pr jaa (.pr jaa (.un))
def exaB (r1 c1 : Int) (n1 : Nat) (r2 c2 : Int) (n2 : Nat) : Bool := tenB r1 c1 n1 && (tenB r2 c2 n2 && decide (r1 = r2))
end Go.Proofs.Ytmbckkcgiafagaa
namespace Go.Proofs.Ytmbckkcgiafagaa.lCountCorrect
open Go.RowKit
def agr (f g : Nat → Nat) : Nat → Nat
 | 0 => 0
 | r + 1 => agr f g r + if f r = g r then 1 else 0
def hitF (l : List jab.T) (xs : List Nat) (C m r : Nat) : Nat := gi (curF l (rowT xs C r) l.length) m
def hitG (ys : List Nat) (m r : Nat) : Nat := gi (rowT ys m r) m
def okD (d : jaq.T) (x : shExamples.T) : Prop := exaB x.1.1 x.1.2.1 (x.1.2.2.1 : List Nat).length x.2.1.1 x.2.1.2.1 (x.2.1.2.2.1 : List Nat).length = true ∧ modB d.1 = true ∧ x.1.2.1 = inL d.1 0 ∧ x.2.1.2.1 = outL d.1
instance (d : jaq.T) (x : shExamples.T) : Decidable (okD d x) := by unfold okD;infer_instance
def res (d : jaq.T) (x : shExamples.T) : Int × Bool :=
 if okD d x then ((agr (hitF d.1 x.1.2.2.1 x.1.2.1.toNat (outL d.1).toNat) (hitG x.2.1.2.2.1 (outL d.1).toNat) x.1.1.toNat : Nat),true) else (0,false)
theorem res_no {d : jaq.T} {x : shExamples.T} (h : ¬ okD d x) : res d x = (0,false) := by unfold res;rw [if_neg h]
end Go.Proofs.Ytmbckkcgiafagaa.lCountCorrect
namespace Go.Proofs.Ytmbckkcgiafagaa
open Go.RowKit
def IsOwn (B : Nat) (s : Sh) (w : World) (cs : List Value) (d : s.T) : Prop := ∃ bs,Own w s cs d bs ∧ bs.Nodup ∧ ∀ b ∈ bs,B ≤ b
theorem IsOwn.ext {B : Nat} {s : Sh} {w w' : World} {cs : List Value} {d : s.T} (h : IsOwn B s w cs d) (e : Ext w w') : IsOwn B s w' cs d := by
 obtain ⟨bs,h1,h2,h3⟩ := h;exact ⟨bs,h1.ext e,h2,h3⟩
theorem IsOwn.base {B B' : Nat} {s : Sh} {w : World} {cs : List Value} {d : s.T} (h : IsOwn B s w cs d) (hB : B' ≤ B) : IsOwn B' s w cs d := by
 obtain ⟨bs,h1,h2,h3⟩ := h;exact ⟨bs,h1,h2,fun b hb => Nat.le_trans hB (h3 b hb)⟩
theorem IsOwn.rep {B : Nat} {s : Sh} {w : World} {cs : List Value} {d : s.T} (h : IsOwn B s w cs d) : Rep w s cs d := by
 obtain ⟨bs,h1,_⟩ := h;exact h1.rep
theorem IsOwn.chg {B : Nat} {s : Sh} {w w' : World} {cs : List Value} {d : s.T} (h : IsOwn B s w cs d) {S : Nat → Prop} (k : Chg S w w') (hS : ∀ b,S b → b < B) : IsOwn B s w' cs d := by
 obtain ⟨bs,h1,h2,h3⟩ := h;exact ⟨bs,h1.chg k (fun b hb hs => by have := h3 b hb;have := hS b hs;omega),h2,h3⟩
structure Tb (B : Nat) (E : Sh) (w : World) (p : Option Addr) (n c : Nat) (l : List E.T) (css : List (List Value)) (bss : List (List Nat)) : Prop where
 row : jb0 w p n c css.flatten
 els : OwnEs w E css bss l
 nodup : (jaf p ++ bss.flatten).Nodup
 lo : ∀ b ∈ jaf p ++ bss.flatten,B ≤ b
 len : l.length = n
 cap : n ≤ c ∧ c ≤ maxLen
theorem Tb.own {B : Nat} {E : Sh} {w : World} {p : Option Addr} {n c : Nat} {l : List E.T} {css : List (List Value)} {bss : List (List Nat)} (h : Tb B E w p n c l css bss) : IsOwn B (.sl E) w [.slice p n c] l := by
 obtain ⟨h1,h2,h3,h4,h5,h6,h7⟩ := h;subst h5;exact ⟨jaf p ++ bss.flatten,own_sl.2 ⟨p,c,css,bss,rfl,h1,h6,h7,h2,rfl⟩,h3,h4⟩
theorem Tb.cnt {B : Nat} {E : Sh} {w : World} {p : Option Addr} {n c : Nat} {l : List E.T} {css : List (List Value)} {bss : List (List Nat)} (h : Tb B E w p n c l css bss) : css.length = n := by rw [h.els.1,h.len]
theorem Tb.all {B : Nat} {E : Sh} {w : World} {p : Option Addr} {n c : Nat} {l : List E.T} {css : List (List Value)} {bss : List (List Nat)} (h : Tb B E w p n c l css bss) : ∀ x ∈ css,x.length = E.sz := h.els.all
theorem Tb.ext {B : Nat} {E : Sh} {w w' : World} {p : Option Addr} {n c : Nat} {l : List E.T} {css : List (List Value)} {bss : List (List Nat)} (h : Tb B E w p n c l css bss) (e : Ext w w') : Tb B E w' p n c l css bss :=
 ⟨h.row.chg (.of_ext e (S := fun _ => False)) (fun _ _ h => h),h.els.chg (.of_ext e) (S := fun _ => False) (fun _ _ h => h),h.nodup,h.lo,h.len,h.cap⟩
theorem Tb.lt {B : Nat} {E : Sh} {w : World} {p : Option Addr} {n c : Nat} {l : List E.T} {css : List (List Value)} {bss : List (List Nat)} (h : Tb B E w p n c l css bss) : ∀ b ∈ jaf p ++ bss.flatten,b < w.heap.size := by
 intro b hb;rcases List.mem_append.1 hb with hb | hb
 · exact h.row.lt b hb
 · exact h.els.lt b hb
theorem Tb.at {B : Nat} {E : Sh} {w : World} {p : Option Addr} {n c : Nat} {l : List E.T} {css : List (List Value)} {bss : List (List Nat)} (h : Tb B E w p n c l css bss) {i : Nat} (hi : i < n) : ∃ cs bs d,css[i]? = some cs ∧ bss[i]? = some bs ∧ l[i]? = some d ∧ Own w E cs d bs := by
 have h1 := h.els.1;have h2 := h.els.2.1;have h3 := h.len;exact ⟨css[i],bss[i],l[i],by simp,by simp,by simp,h.els.2.2 i _ _ _ (by simp) (by simp) (by simp)⟩
theorem set_flat_sub : ∀ {bss : List (List Nat)} {i : Nat} {bs : List Nat},∀ b ∈ (bss.set i bs).flatten,b ∈ bss.flatten ∨ b ∈ bs
 | [],_,_,b,hb => by simp at hb
 | x :: bss,0,bs,b,hb => by
   simp only [List.set_cons_zero,List.flatten_cons,List.mem_append] at hb ⊢;rcases hb with h | h
   · exact .inr h
   · exact .inl (.inr h)
 | x :: bss,i + 1,bs,b,hb => by
   simp only [List.set_cons_succ,List.flatten_cons,List.mem_append] at hb ⊢;rcases hb with h | h
   · exact .inl (.inl h)
   · rcases set_flat_sub b h with h | h
     · exact .inl (.inr h)
     · exact .inr h
theorem set_flat_nodup : ∀ {bss : List (List Nat)} {i : Nat} {bs : List Nat},bss.flatten.Nodup → bs.Nodup → (∀ b ∈ bs,b ∉ bss.flatten) → (bss.set i bs).flatten.Nodup
 | [],_,_,_,_,_ => by simp
 | x :: bss,0,bs,h,hb,hd => by
   rw [List.flatten_cons,List.nodup_append] at h;rw [List.set_cons_zero,List.flatten_cons,List.nodup_append];refine ⟨hb,h.2.1,fun a ha b hb' he => ?_⟩;subst he;exact hd a ha (by rw [List.flatten_cons];exact List.mem_append_right _ hb')
 | x :: bss,i + 1,bs,h,hb,hd => by
   rw [List.flatten_cons,List.nodup_append] at h;rw [List.set_cons_succ,List.flatten_cons,List.nodup_append];refine ⟨h.1,set_flat_nodup h.2.1 hb (fun b hb' hm => hd b hb' (by rw [List.flatten_cons];exact List.mem_append_right _ hm)),fun a ha b hb' he => ?_⟩;subst he;rcases set_flat_sub a hb' with h' | h'
   · exact h.2.2 a ha a h' rfl
   · exact hd a h' (by rw [List.flatten_cons];exact List.mem_append_left _ ha)
theorem Tb.put {B : Nat} {E : Sh} {w0 w w' : World} {p : Option Addr} {n c : Nat} {l : List E.T} {css : List (List Value)} {bss : List (List Nat)} (h : Tb B E w0 p n c l css bss) (e : Ext w0 w) {i : Nat} (hi : i < n) {cs : List Value} {d : E.T} {bs : List Nat}
 (ho : Own w E cs d bs) (hn : bs.Nodup) (hf : ∀ b ∈ bs,w0.heap.size ≤ b) (hB : B ≤ w0.heap.size) (hr : jb0 w' p n c (css.set i cs).flatten) (k : Chg (fun b => b ∈ jaf p) w w') : Tb B E w' p n c (l.set i d) (css.set i cs) (bss.set i bs) := by
 have lt0 := h.lt;have h1 := h.els.1;have h2 := h.els.2.1;have h3 := h.len;obtain ⟨n1,n2,n3,n4⟩ := nodup_split h.nodup;have hels := (h.ext e).els;refine ⟨hr,⟨by simp [h1],by simp [h2],fun j cs' bs' d' g1 g2 g3 => ?_⟩,?_,?_,by rw [List.length_set];exact h3,h.cap⟩
 · by_cases hj : i = j
   · subst hj
     rw [List.getElem?_set_self (by omega)] at g1 g2 g3
     cases g1;cases g2;cases g3
     exact ho.chg k fun b hb hs => by have := hf b hb;have := lt0 b (List.mem_append_left _ hs);omega
   · rw [List.getElem?_set_ne hj] at g1 g2 g3
     exact (hels.2.2 j cs' bs' d' g1 g2 g3).chg k fun b hb hs => n3 b hs (List.mem_flatten.2 ⟨bs',List.mem_of_getElem? g2,hb⟩)
 · rw [List.nodup_append]
   refine ⟨n1,set_flat_nodup n2 hn (fun b hb hm => by have := hf b hb;have := lt0 b (List.mem_append_right _ hm);omega),fun a ha b hb he => ?_⟩;subst he;rcases set_flat_sub a hb with h' | h'
   · exact n3 a ha h'
   · have := hf a h';have := lt0 a (List.mem_append_left _ ha);omega
 · intro b hb
   rcases List.mem_append.1 hb with hb | hb
   · exact h.lo b (List.mem_append_left _ hb)
   · rcases set_flat_sub b hb with h' | h'
     · exact h.lo b (List.mem_append_right _ h')
     · have := hf b h';omega
section
variable {P : Program} {w : World} {ops : Array Oper} {rest : List Oper} {o : Oper} {a : Act} {Q : Exit → Act → World → Prop}
theorem wl_store1 {t : TypeId} [Cell1 P t] {x y : Operand} (hg : o.guard = none) (ho : o.op = .store t x y) {q : Addr} {u v : Value} (hx : a.eval x = .pointer (some q)) (hy : a.eval y = u) (hu : u.oneCell' = true) (hc : w.cell? q = some v) (hf : w.frozen? q = false)
 (h : wpList P ops Q rest (a.put o.dst undef) (w.setCell q u)) : wpList P ops Q (o :: rest) a w :=
 ja6 hg (w' := w.setCell q u) (by simp [execOp,ho,hx,hy,run_store1 hc hf hu]) h
end
def incT (T : List (List Int)) (a b : Nat) : List (List Int) := T.set a ((T.getD a []).set b ((T.getD a []).getD b 0 + 1))
def tabF (O : Nat) (l : List Int) (g : Nat → Nat) : Nat → List (List Int)
 | 0 => List.replicate O (List.replicate O 0)
 | r + 1 => incT (tabF O l g r) (l.getD r 0).toNat (g r)
def hits (l : List Int) (g : Nat → Nat) : Nat → Int
 | 0 => 0
 | r + 1 => hits l g r + if ((g r : Nat) : Int) = l.getD r 0 then 1 else 0
def bestF (L : List jab.T) (xs : List Nat) (C m r : Nat) : Nat := gi (curF L (rowT xs C r) L.length) m
def okL (d : jaq.T) (x : jaa.T) (l : List Int) : Prop := (modB d.1 = true ∧ tenB x.1 x.2.1 (x.2.2.1 : List Nat).length = true ∧ x.2.1 = inL d.1 0) ∧ (l.length : Int) = x.1 ∧ lblB (outL d.1) l = true
instance (d : jaq.T) (x : jaa.T) (l : List Int) : Decidable (okL d x l) := by unfold okL;infer_instance
-- the slice type is an instance of Ty
instance elInt64SS : ElTy Try.prog 45 (.sl .int) := ⟨by kernel_rfl,by kernel_rfl⟩
end Go.Proofs.Ytmbckkcgiafagaa
namespace Go.Proofs.Ytmbckkcgiafagaa.lConfusionOf
open Go.RowKit
def res (d : jaq.T) (x : jaa.T) (l : List Int) : List (List Int) × Bool := if okL d x l then (tabF (outL d.1).toNat l (bestF d.1 x.2.2.1 x.2.1.toNat (outL d.1).toNat) l.length,true) else ([],false)
theorem res_no {d : jaq.T} {x : jaa.T} {l : List Int} (h : ¬ okL d x l) : res d x l = ([],false) := by unfold res;rw [if_neg h]
end Go.Proofs.Ytmbckkcgiafagaa.lConfusionOf
namespace Go.Proofs.Ytmbckkcgiafagaa.lCountLabels
open Go.RowKit
def res (d : jaq.T) (x : jaa.T) (l : List Int) : Int × Bool := if okL d x l then (hits l (bestF d.1 x.2.2.1 x.2.1.toNat (outL d.1).toNat) l.length,true) else (0,false)
theorem res_no {d : jaq.T} {x : jaa.T} {l : List Int} (h : ¬ okL d x l) : res d x l = (0,false) := by unfold res;rw [if_neg h]
end Go.Proofs.Ytmbckkcgiafagaa.lCountLabels
namespace Go.Proofs.Ytmbckkcgiafagaa
open Go.RowKit
instance c1SlLay : Cell1 Try.prog 36 := ⟨by kernel_rfl,by kernel_rfl⟩
def HB (w : World) (b : Nat) (Z : Array Value) (t : TypeId) : Prop := w.heap[b]? = some (.cells Z t)
theorem HB.cell {w : World} {b : Nat} {Z : Array Value} {t : TypeId} (h : HB w b Z t) (j : Nat) {v : Value} (hv : Z[j]? = some v) : w.cell? ⟨b,j,none⟩ = some v := jav h hv
theorem HB.froz {w : World} {b : Nat} {Z : Array Value} {t : TypeId} (h : HB w b Z t) (j : Nat) : w.frozen? ⟨b,j,none⟩ = false := frozen_of_heap h
theorem HB.ext {w w' : World} {b : Nat} {Z : Array Value} {t : TypeId} (h : HB w b Z t) (e : Ext w w') : HB w' b Z t := by
 have hb : b < w.heap.size := by
  rcases Nat.lt_or_ge b w.heap.size with h' | h'
  · exact h'
  · unfold HB at h;simp [Array.getElem?_eq_none h'] at h
 unfold HB at *;rw [e.block b hb];exact h
theorem HB.lt {w : World} {b : Nat} {Z : Array Value} {t : TypeId} (h : HB w b Z t) : b < w.heap.size := by
 rcases Nat.lt_or_ge b w.heap.size with h' | h'
 · exact h'
 · unfold HB at h;simp [Array.getElem?_eq_none h'] at h
theorem HB.chg {S : Nat → Prop} {w w' : World} {b : Nat} {Z : Array Value} {t : TypeId} (h : HB w b Z t) (k : Chg S w w') (hS : ¬ S b) : HB w' b Z t := by
 have hb := h.lt;unfold HB at *;rw [k.block b hb hS];exact h
theorem HB.set {w : World} {b : Nat} {Z : Array Value} {t : TypeId} (h : HB w b Z t) (j : Nat) (v : Value) : HB (w.setCell ⟨b,j,none⟩ v) b (Z.setIfInBounds j v) t := by
 unfold HB at *;simp [World.setCell,Array.getElem?_modify,h]
theorem HB.new (w : World) (Z : Array Value) (t : TypeId) : HB (w.alloc (.cells Z t)) w.heap.size Z t := heap_alloc_new w _
theorem ja3 (w : World) (b j : Nat) (u : Value) : Chg (fun k => k = b) w (w.setCell ⟨b,j,none⟩ u) := ⟨rfl,rfl,rfl,by simp [World.setCell],fun k hk hn => Below.heap_setCell _ _ _ _ (fun h => hn h)⟩
section
variable {P : Program} {w : World} {ops : Array Oper} {rest : List Oper} {o : Oper} {a : Act} {Q : Exit → Act → World → Prop}
theorem jcc {t : TypeId} [Cell1 P t] {x y : Operand} (hg : o.guard = none) (ho : o.op = .store t x y) {b j : Nat} {Z : Array Value} {te : TypeId} {u v : Value} (hb : HB w b Z te) (hj : Z[j]? = some v) (hx : a.eval x = .pointer (some ⟨b,j,none⟩)) (hy : a.eval y = u) (hu : u.oneCell' = true)
 (h : ∀ w',HB w' b (Z.setIfInBounds j u) te → Chg (fun k => k = b) w w' → wpList P ops Q rest (a.put o.dst undef) w') : wpList P ops Q (o :: rest) a w :=
 wl_store1 hg ho hx hy hu (hb.cell j hj) (hb.froz j) (h _ (hb.set j u) ⟨rfl,rfl,rfl,by simp [World.setCell],fun k hk hn => Below.heap_setCell _ _ _ _ (fun h => hn h)⟩)
end
section
variable {P : Program} {w wf : World} {ops : Array Oper} {rest : List Oper} {o : Oper} {a : Act} {Q : Act → Prop} {F : Option Tmp → World → World → Value → Prop}
theorem x_sliceTo {t e s b : Nat} {z : Value} [T : SlTy P t e s z b] {x hi : Operand} (hw : Region.wanted o (yielded ops a.tmps) = true) (ho : o.op = .slice t x none (some hi) none) {p : Option Addr} {n c : Nat} {k2 : IntKind} {ui : Int} {u : Nat}
 (hx : a.eval x = .slice p n c) (hhi : a.eval hi = .int k2 ui) (h2 : ui = u) (h4 : u ≤ c)
 (h : wpX P ops F w wf Q rest (a.put o.dst (.slice (subp p s 0 c) (u - 0) (c - 0)))) : wpX P ops F w wf Q (o :: rest) a := by
 subst h2;exact x_pure hw (fun w1 _ => by simp [execOp,ho,hx,hhi,run_sliceTo h4]) h
theorem x_sliceFrom {t e s b : Nat} {z : Value} [T : SlTy P t e s z b] {x lo : Operand} (hw : Region.wanted o (yielded ops a.tmps) = true) (ho : o.op = .slice t x (some lo) none none) {p : Option Addr} {n c : Nat} {k1 : IntKind} {li : Int} {l : Nat}
 (hx : a.eval x = .slice p n c) (hlo : a.eval lo = .int k1 li) (h1 : li = l) (h3 : l ≤ n) (h4 : n ≤ c)
 (h : wpX P ops F w wf Q rest (a.put o.dst (.slice (subp p s l c) (n - l) (c - l)))) : wpX P ops F w wf Q (o :: rest) a := by
 subst h1;exact x_pure hw (fun w1 _ => by simp [execOp,ho,hx,hlo,run_sliceFrom h3 h4]) h
end
def Tys (w : World) (ts : List TypeId) (bs : List Nat) : Prop := ∀ b ∈ bs,∃ Z T m,T ∈ ts ∧ w.heap[b]? = some (.cells Z T m)
theorem heap_lt {w : World} {b : Nat} {o : Obj} (h : w.heap[b]? = some o) : b < w.heap.size := by
 rcases Nat.lt_or_ge b w.heap.size with h' | h'
 · exact h'
 · simp [Array.getElem?_eq_none h'] at h
theorem Tys.ext {w w' : World} {ts : List TypeId} {bs : List Nat} (h : Tys w ts bs) (e : Ext w w') : Tys w' ts bs := by
 intro b hb;obtain ⟨Z,T,m,h1,h2⟩ := h b hb;exact ⟨Z,T,m,h1,by rw [e.block b (heap_lt h2)];exact h2⟩
theorem Tys.chg {S : Nat → Prop} {w w' : World} {ts : List TypeId} {bs : List Nat} (h : Tys w ts bs) (k : Chg S w w') (hS : ∀ b ∈ bs,¬ S b) : Tys w' ts bs := by
 intro b hb;obtain ⟨Z,T,m,h1,h2⟩ := h b hb;exact ⟨Z,T,m,h1,by rw [k.block b (heap_lt h2) (hS b hb)];exact h2⟩
theorem Tys.app {w : World} {ts : List TypeId} {a b : List Nat} (h : Tys w ts a) (k : Tys w ts b) : Tys w ts (a ++ b) := fun x hx => by
 rcases List.mem_append.1 hx with hx | hx
 · exact h x hx
 · exact k x hx
theorem Tys.mono {w : World} {ts us : List TypeId} {a : List Nat} (h : Tys w ts a) (k : ∀ t ∈ ts,t ∈ us) : Tys w us a := fun x hx => by
 obtain ⟨Z,T,m,h1,h2⟩ := h x hx;exact ⟨Z,T,m,k T h1,h2⟩
theorem own_tys {w : World} {B te s n c : Nat} {q : Option Addr} {vs : List Value} (h : w.ownsRow B te s (.slice q n c) n vs) : Tys w [te] (jaf q) := by
 intro b hb;rcases h.2 with ⟨hv,h0⟩ | ⟨g,cap,cur,hv,hg,hh,hr⟩
 · cases hv;simp [jaf] at hb
 · cases hv
   simp [jaf] at hb;subst hb;exact ⟨_,_,_,by simp,hh⟩
def jca (ts : List TypeId) (B : Nat) (s : Sh) (w : World) (cs : List Value) (d : s.T) : Prop := ∃ bs,Own w s cs d bs ∧ bs.Nodup ∧ (∀ b ∈ bs,B ≤ b) ∧ Tys w ts bs
theorem jca.is {ts : List TypeId} {B : Nat} {s : Sh} {w : World} {cs : List Value} {d : s.T} (h : jca ts B s w cs d) : IsOwn B s w cs d := by
 obtain ⟨bs,h1,h2,h3,_⟩ := h;exact ⟨bs,h1,h2,h3⟩
theorem jca.ext {ts : List TypeId} {B : Nat} {s : Sh} {w w' : World} {cs : List Value} {d : s.T} (h : jca ts B s w cs d) (e : Ext w w') : jca ts B s w' cs d := by
 obtain ⟨bs,h1,h2,h3,h4⟩ := h;exact ⟨bs,h1.ext e,h2,h3,h4.ext e⟩
theorem jca.base {ts : List TypeId} {B B' : Nat} {s : Sh} {w : World} {cs : List Value} {d : s.T} (h : jca ts B s w cs d) (hB : B' ≤ B) : jca ts B' s w cs d := by
 obtain ⟨bs,h1,h2,h3,h4⟩ := h;exact ⟨bs,h1,h2,fun b hb => Nat.le_trans hB (h3 b hb),h4⟩
theorem jca.chg {ts : List TypeId} {B : Nat} {s : Sh} {w w' : World} {cs : List Value} {d : s.T} (h : jca ts B s w cs d) {S : Nat → Prop} (k : Chg S w w') (hS : ∀ b,S b → b < B) : jca ts B s w' cs d := by
 obtain ⟨bs,h1,h2,h3,h4⟩ := h;have hn : ∀ b ∈ bs,¬ S b := fun b hb hs => by have := h3 b hb;have := hS b hs;omega
 exact ⟨bs,h1.chg k hn,h2,h3,h4.chg k hn⟩
theorem jaj.ownY {w : World} {B : Nat} {te : TypeId} {E : Sh} {v : Value} {l : List E.T} {css : List (List Value)} {bss : List (List Nat)} (h : jaj w B te E v l css bss) {ts : List TypeId} (ht : Tys w ts bss.flatten) (hte : te ∈ ts) : jca ts B (.sl E) w [v] l := by
 obtain ⟨h1,h2,h3,h4⟩ := h;have hrow := h1;obtain ⟨hl,hr⟩ := h1;rcases hr with ⟨rfl,h0⟩ | ⟨g,cap,cur,rfl,hg,hh,hnc,hm,hsz,ht'⟩
 · have hl0 : l = [] := List.eq_nil_of_length_eq_zero h0
   subst hl0;exact ⟨[],own_nil,by simp,by simp,fun b hb => by simp at hb⟩
 · refine ⟨g :: bss.flatten,own_sl.2 ⟨some ⟨g,0,none⟩,cap,css,bss,rfl,jcg hrow,hnc,hm,h2,rfl⟩,?_,?_,?_⟩
   · rw [List.nodup_cons];exact ⟨fun hb => (h4 g hb).2 rfl,h3⟩
   · intro b hb
     rcases List.mem_cons.1 hb with rfl | hb
     · exact hg
     · exact (h4 b hb).1
   · intro b hb
     rcases List.mem_cons.1 hb with rfl | hb
     · exact ⟨_,_,_,hte,hh⟩
     · exact ht b hb
theorem retFl_thing3 {w w' : World} {xs : List Nat} {e : Ending} {n : Nat} (hn : xs.length = n) (h : RetFl w xs e w') : ∃ q c bs,e = .returned (.slice q n c) ∧ Own w' (.sl .flt) [.slice q n c] xs bs ∧ bs.Nodup ∧ (∀ b ∈ bs,w.heap.size ≤ b) ∧ Ext w w' ∧ Tys w' [33] bs := by
 subst hn;obtain ⟨q,c,vs,he,ho,hf,hx⟩ := h;refine ⟨q,c,jaf q,he,own_flts.2 ⟨q,c,vs,rfl,jcg ho,hf,(ja1 ho).1,(ja1 ho).2,rfl⟩,?_,?_,hx,own_tys ho⟩
 · cases q <;> simp [jaf]
 · intro b hb
   cases q with
   | none => simp [jaf] at hb
   | some a => simp [jaf] at hb;subst hb;exact jap ho _ rfl
def Small (L : List jab.T) : Prop := L.length ≤ 12 ∧ ∀ d ∈ L,(d.2.2.2.1 : List Nat).length ≤ 64 ∧ (d.2.2.2.2.1 : List Nat).length ≤ 64
theorem lay_full {w : World} {cs : List Value} {d : jab.T} (h : Rep w jab cs d) : ∃ pw cw pb cb uw ub,cs = [.int .i64 d.1,.int .i64 d.2.1,.int .i64 d.2.2.1,.slice pw (d.2.2.2.1 : List Nat).length cw,.slice pb (d.2.2.2.2.1 : List Nat).length cb] ∧
 (Cs w pw uw ∧ F32s uw d.2.2.2.1 ∧ (d.2.2.2.1 : List Nat).length ≤ cw) ∧ (Cs w pb ub ∧ F32s ub d.2.2.2.2.1 ∧ (d.2.2.2.2.1 : List Nat).length ≤ cb) := by
 obtain ⟨a1,a2,a3,a4,a5,au⟩ := d;obtain ⟨_,_,rfl,rfl,_,_,rfl,rfl,_,_,rfl,rfl,_,_,rfl,h4,_,_,rfl,h5,rfl⟩ := h;obtain ⟨p4,c4,u4,rfl,g1,g2,g3,_⟩ := jcj.1 h4;obtain ⟨p5,c5,u5,rfl,k1,k2,k3,_⟩ := jcj.1 h5;exact ⟨p4,c4,p5,c5,u4,u5,rfl,⟨g1,g2,g3⟩,⟨k1,k2,k3⟩⟩
theorem own_lay {w : World} {d : jab.T} {qw qb : Option Addr} {lw kw lb kb : Nat} {bw bb : List Nat} (h1 : Own w (.sl .flt) [.slice qw lw kw] d.2.2.2.1 bw) (h2 : Own w (.sl .flt) [.slice qb lb kb] d.2.2.2.2.1 bb) :
 Own w jab [.int .i64 d.1,.int .i64 d.2.1,.int .i64 d.2.2.1,.slice qw lw kw,.slice qb lb kb] d (bw ++ bb) := by
 obtain ⟨a1,a2,a3,a4,a5,au⟩ := d
 exact ⟨[.int .i64 a1],[.int .i64 a2,.int .i64 a3,.slice qw lw kw,.slice qb lb kb],[],bw ++ bb,rfl,⟨rfl,rfl⟩,⟨[.int .i64 a2],[.int .i64 a3,.slice qw lw kw,.slice qb lb kb],[],bw ++ bb,rfl,⟨rfl,rfl⟩,⟨[.int .i64 a3],[.slice qw lw kw,.slice qb lb kb],[],bw ++ bb,rfl,⟨rfl,rfl⟩,
  ⟨[.slice qw lw kw],[.slice qb lb kb],bw,bb,rfl,h1,⟨[.slice qb lb kb],[],bb,[],rfl,h2,⟨rfl,rfl⟩,by simp⟩,rfl⟩,rfl⟩,rfl⟩,rfl⟩
theorem take_snoc {A : Type} {l : List A} {i : Nat} {d : A} (h : l[i]? = some d) : l.take i ++ [d] = l.take (i + 1) := by
 rw [List.take_add_one,h];rfl
theorem jaj.chgB {S : Nat → Prop} {w w' : World} {B : Nat} {te : TypeId} {E : Sh} {v : Value} {l : List E.T} {css : List (List Value)} {bss : List (List Nat)} (h : jaj w B te E v l css bss) (k : Chg S w w') (hS : ∀ b,S b → b < B) : jaj w' B te E v l css bss :=
 ⟨jag h.row k hS,h.els.chg k (fun b hb hs => by have := (h.lo b hb).1;have := hS b hs;omega),h.nodup,h.lo⟩
theorem copyModel_any (p : Option Addr) (n c : Nat) (css : List (List Value)) (L : List jab.T) (w : World) (hL : Lays w p n css L) (hS : Small L) :
 Calls Try.prog 87 #[.agg #[.slice p n c]] w fun e w' => ∃ q k,e = .returned (.agg #[.slice q n k]) ∧ jca [41,33] w.heap.size (.sl jab) w' [.slice q n k] L ∧ Ext w w' := by
 have hn : n ≤ 12 := by have := hS.1;rw [hL.len] at this;exact this
 have HS := hid hS.2;have HL := hid hL.len;have l1 := hL.cs;have l2 := hL.all;have l3 := hL.size;have l5 := hid hL.cnt;obtain ⟨W0,hW0⟩ : ∃ W0,W0 = ((w.alloc (.cells #[.slice p n c] 38)).alloc (.cells #[.slice none 0 0] 38)).alloc (.cells #[.slice none 0 0] 38) := ⟨_,rfl⟩;obtain ⟨E0,s0,_,b1,b2⟩ := box3 hW0;have b1 : HB W0 (w.heap.size + 1) #[.slice none 0 0] 38 := b1;have b2 : HB W0 (w.heap.size + 1 + 1) #[.slice none 0 0] 38 := b2;have hst : W0.ownsRow W0.heap.size 41 jab.sz (.slice none 0 0) 0 [] := ⟨rfl,.inl ⟨rfl,rfl⟩⟩;clear hL hS;go_enter Try.func87,Try.ntmps87;go_wp2_with fail;rw [← hW0];clear hW0;go_loopw [10] (fun iv wr => ∃ (i k : Nat) (q : Option Addr) (cs : List (List Value)) (bss : List (List Nat)),i ≤ n ∧ iv = .int .i64 i ∧ HB wr (w.heap.size + 1 + 1) #[.slice q i k] 38 ∧ HB wr (w.heap.size + 1) #[.slice none 0 0] 38 ∧ Hid (jaj wr W0.heap.size 41 jab (.slice q i k) (L.take i) cs bss) ∧ Hid (Tys wr [33] bss.flatten) ∧ Ext w wr ∧ W0.heap.size ≤ wr.heap.size) (fun iv _ => n - (intOf iv).toNat)
 case atStart => exact ⟨0,0,none,[],[],by omega,rfl,b2,b1,jaj.empty hst,fun b hb => by simp at hb,E0,Nat.le_refl _⟩
 case round =>
  clear b1 b2 hst E0;obtain ⟨i,k,q,cs,bss,hi,rfl,B2,B1,HG,HT,he,hsz⟩ := hrel
  by_cases hlt : i < n
  · have hil : i < L.length := by rw [HL.out];exact hlt
    obtain ⟨ci,hci,ri⟩ := l2.get i L[i] (by simp);have hs1 : p.isSome = true := l1.some_of l3 (by decide) (show 0 < css.length by rw [l5.out];omega);have hp := l1.ext he;have one := ri.one;obtain ⟨hw1,hw2⟩ := HS.out L[i] (by simp);obtain ⟨pw,cw,pb,cb,uw,ub,rfl,⟨x1,x2,x3⟩,⟨y1,y2,y3⟩⟩ := lay_full ri;have C1 := hid (fun W (h : Ext w W) => jct pw _ cw uw _ W rfl (by omega) x3 (x1.ext h) x2);have C2 := hid (fun W (h : Ext w W) => jct pb _ cb ub _ W rfl (by omega) y3 (y1.ext h) y2);have HD := hid (show L[i]? = some L[i] by simp);generalize L[i] = d at *;obtain ⟨d1,d2,d3,ws,bs,du⟩ := d;dsimp only at hci one C1 C2 HD hw1 hw2;have HH := hid (And.intro hw1 hw2);have hlw := hid (rfl : ws.length = ws.length);generalize hlw0 : ws.length = lw at *;generalize hlb0 : bs.length = lb at *;have Hlw := hid hlw0;have Hlb := hid hlb0;clear hlw0 hlb0 x1 x2 x3 y1 y2 y3 ri hw1 hw2 hlw;have g2 : wr.cell? ⟨w.heap.size + 1 + 1,0,none⟩ = some (.slice q i k) := B2.cell 0 rfl;have hB2 := B2.lt;have b5 := HB.new wr #[.int .i64 d1,.int .i64 d2,.int .i64 d3,.slice pw lw cw,.slice pb lb cb] 41;obtain ⟨W1,hW1⟩ : ∃ W1,W1 = wr.alloc (.cells #[.int .i64 d1,.int .i64 d2,.int .i64 d3,.slice pw lw cw,.slice pb lb cb] 41) := ⟨_,rfl⟩;have E1 : Ext wr W1 := by subst hW1;exact Ext.alloc _ _
    rw [← hW1] at b5;go_wp2_with ((with_reducible show gx2);refine jau (s := jab) (j := i) rfl rfl rfl rfl (fun _ => rfl) rfl rfl rfl hp l3 l5.out hlt hs1 hci ?_;simp only [ofCs,Sh.agg,if_true]);rw [← hW1];clear hW1;refine (C1.out _ (he.trans E1)).mono ?_;intro e w2 h2;obtain ⟨qw,kw,bw,rfl,ow,ndw,low,e2,tw⟩ := retFl_thing3 Hlw.out h2;have E2 := E1.trans e2;have b6 := b5.ext e2;have m3 : w2.cell? ⟨wr.heap.size,3,none⟩ = some (.slice pw lw cw) := b6.cell 3 rfl;have hW1s := b5.lt;clear h2 b5;go_wp2_with ((with_reducible show gx9);refine jcc (j := 3) rfl rfl b6 rfl rfl rfl rfl ?_;intro w3 b7 ch3;have E3 := E2.chg ch3 (fun b hb => by omega);have m4 : w3.cell? ⟨wr.heap.size,4,none⟩ = some (.slice pb lb cb) := b7.cell 4 rfl);refine (C2.out _ (he.trans E3)).mono ?_;intro e w4 h4;obtain ⟨qb,kb,bb,rfl,ob,ndb,lob,e4,tb⟩ := retFl_thing3 Hlb.out h4;have E4 := E3.trans e4;have b8 := b7.ext e4;clear h4 b7;have hrow := HG.out.row;rw [List.length_take,HL.out,Nat.min_eq_left (by omega)] at hrow;go_wp2_with (first | ((with_reducible show gx9);refine jcc (j := 4) rfl rfl b8 rfl rfl rfl rfl ?_;intro w5 b9 ch5;have E5 := E4.chg ch5 (fun b hb => by omega);have k0 : w5.cell? ⟨wr.heap.size,0,none⟩ = some (.int .i64 d1) := b9.cell 0 rfl;have k1 : w5.cell? ⟨wr.heap.size,1,none⟩ = some (.int .i64 d2) := b9.cell 1 rfl;have k2 : w5.cell? ⟨wr.heap.size,2,none⟩ = some (.int .i64 d3) := b9.cell 2 rfl;have k3 : w5.cell? ⟨wr.heap.size,3,none⟩ = some (.slice qw lw kw) := b9.cell 3 rfl;have k4 : w5.cell? ⟨wr.heap.size,4,none⟩ = some (.slice qb lb kb) := b9.cell 4 rfl;have g5 := E5.cell g2) | ((with_reducible show gx6);refine jbj (u := .agg #[.int .i64 d1,.int .i64 d2,.int .i64 d3,.slice qw lw kw,.slice qb lb kb]) rfl rfl rfl rfl rfl (by rfl) (by rfl) (fun _ => rfl) (fun _ => rfl) (jai hrow E5) (by unfold maxLen;omega) (by omega) (by have := E5.size;omega) ?_;intro g9 c9 w9 own9 gr9 hw9;have hg9 : HB w9 (w.heap.size + 1 + 1) #[.slice q i k] 38 := (B2.ext E5).chg (.of_grown gr9) (fun h => by have := jap hrow _ h.symm;omega)) | ((with_reducible show gx9);refine jcc (j := 0) rfl rfl hg9 rfl rfl rfl rfl ?_;intro w10 b10 ch10));go_roundw
    case rel =>
     have tw5 := ((tw.chg ch3 (fun b hb h => by have h : b = _ := h;have := low b hb;omega)).ext e4).chg ch5 (fun b hb h => by have h : b = _ := h;have := low b hb;omega);have tb5 := tb.chg ch5 (fun b hb h => by have h : b = _ := h;have := lob b hb;have := e2.size;have := ch3.size;omega)
     have T9 : Tys w10 [33] (bss ++ [bw ++ bb]).flatten := by
      have hh : (bss ++ [bw ++ bb]).flatten = bss.flatten ++ (bw ++ bb) := by simp
      rw [hh];refine ((((HT.out.ext E5).app (tw5.app tb5)).chg (.of_grown gr9) (fun b hb h => ?_)).chg ch10 (fun b hb h => ?_))
      · rcases List.mem_append.1 hb with hb | hb
        · exact (HG.out.lo b hb).2 h.symm
        · have hlt2 := jcw hrow b h.symm
          rcases List.mem_append.1 hb with hb | hb
          · have := low b hb;omega
          · have := lob b hb;have := e2.size;have := ch3.size;omega
      · have h : b = _ := h
        rcases List.mem_append.1 hb with hb | hb
        · have := (HG.out.lo b hb).1;omega
        · rcases List.mem_append.1 hb with hb | hb
          · have := low b hb;omega
          · have := lob b hb;have := e2.size;have := ch3.size;omega
     have ow3 := ow.chg ch3 (fun b hb h => by have := low b hb;omega);have ow5 : Own w5 (.sl .flt) [.slice qw lw kw] ws bw := (ow3.ext e4).chg ch5 (fun b hb h => by have := low b hb;omega);have hs3 := ch3.size;have hs2 := e2.size;have ob5 : Own w5 (.sl .flt) [.slice qb lb kb] bs bb := ob.chg ch5 (fun b hb h => by have := lob b hb;omega)
     have H9 := HG.out.snoc E5 (own_lay (d := (d1,d2,d3,ws,bs,du)) ow5 ob5) (nodup_app ndw ndb (fun x hx => by have := ow.lt x hx;have := e2.size;omega) (fun x hx => lob x hx)) (fun b hb => by
      rcases List.mem_append.1 hb with h | h
      · have := low b h;omega
      · have := lob b h;omega) hsz (n := i) (by rw [List.length_take,HL.out,Nat.min_eq_left (by omega)]) own9 gr9 hw9
     rw [take_snoc HD.out] at H9;exact ⟨i + 1,c9,some ⟨g9,0,none⟩,_,_,by omega,by go_num,b10,((B1.ext E5).chg (.of_grown gr9) (fun h => by have := jap hrow _ h.symm;omega)).chg ch10 (fun h => by omega),H9.chgB ch10 (fun b hb => by omega),T9,((he.trans E5).grown gr9 (fun kk hk => by have := jap hrow kk hk;omega)).chg ch10 (fun b hb => by omega),by have := E5.size;have := gr9.size;have := ch10.size;omega⟩
    case measure => simp [intOf];omega
  · obtain rfl : i = n := by omega
    have HG2 := HG.out;rw [List.take_of_length_le (by rw [HL.out];exact Nat.le_refl _)] at HG2;have HG3 := hid (HG2.ownY (ts := [41,33]) (HT.out.mono (by simp)) (by simp));have hB1 := B1.lt;have g2 : wr.cell? ⟨w.heap.size + 1 + 1,0,none⟩ = some (.slice q i k) := B2.cell 0 rfl;have g1 : wr.cell? ⟨w.heap.size + 1,0,none⟩ = some (.slice none 0 0) := B1.cell 0 rfl;have g3 := B1.froz 0;clear HG HG2;go_wp2;refine bodyPost_ret (v := .agg #[.slice q i k]) (by simp [results,Try.results87,go_sem,g1,g3]) rfl ?_;have ch := ja3 wr (w.heap.size + 1) 0 (.slice q i k);exact ⟨q,k,rfl,(jca.chg HG3.out ch (fun b hb => by omega)).base (by omega),he.chg ch (fun b hb => by omega)⟩
end Go.Proofs.Ytmbckkcgiafagaa
