/- A part of the proofs: CpyM, Red, Ex, Ex2, RedP. -/
import Derived.Test.YtmbckkcgiafagaaZ10FnFuse
import Derived.Test.YtmbckkcgiafagaaZ02FnFuse
import Derived.Test.YtmbckkcgiafagaaZ03FnFuse
import Derived.Test.YtmbckkcgiafagaaZ08FnFuse
import Derived.Test.YtmbckkcgiafagaaZ01FnFuse
set_option linter.unusedSimpArgs false
set_option linter.unusedVariables false
set_option maxRecDepth 100000
set_option maxHeartbeats 16000000
namespace Go.Proofs.Ytmbckkcgiafagaa
open Go.RowKit
instance c1SlLay : Cell1 Try.prog 36 := ⟨by kernel_rfl,by kernel_rfl⟩
def HB (w : World) (b : Nat) (Z : Array Value) (t : TypeId) : Prop := w.heap[b]? = some (.cells Z t)
theorem HB.cell {w : World} {b : Nat} {Z : Array Value} {t : TypeId} (h : HB w b Z t) (j : Nat) {v : Value} (hv : Z[j]? = some v) : w.cell? ⟨b,j,none⟩ = some v := jai h hv
theorem HB.froz {w : World} {b : Nat} {Z : Array Value} {t : TypeId} (h : HB w b Z t) (j : Nat) : w.frozen? ⟨b,j,none⟩ = false := frozen_of_heap h
theorem HB.ext {w w' : World} {b : Nat} {Z : Array Value} {t : TypeId} (h : HB w b Z t) (e : Ext w w') : HB w' b Z t := by
 have hb : b < w.heap.size := by
  rcases Nat.lt_or_ge b w.heap.size with h' | h'
  · exact h'
  · unfold HB at h;simp [Array.getElem?_eq_none h'] at h
 unfold HB at *;rw [e.block b hb];exact h
theorem HB.lt {w : World} {b : Nat} {Z : Array Value} {t : TypeId} (h : HB w b Z t) : b < w.heap.size := by
 rcases Nat.lt_or_ge b w.heap.size with h' | h'
 · exact h'
 · unfold HB at h;simp [Array.getElem?_eq_none h'] at h
theorem HB.chg {S : Nat → Prop} {w w' : World} {b : Nat} {Z : Array Value} {t : TypeId} (h : HB w b Z t) (k : Chg S w w') (hS : ¬ S b) : HB w' b Z t := by
 have hb := h.lt;unfold HB at *;rw [k.block b hb hS];exact h
theorem HB.set {w : World} {b : Nat} {Z : Array Value} {t : TypeId} (h : HB w b Z t) (j : Nat) (v : Value) : HB (w.setCell ⟨b,j,none⟩ v) b (Z.setIfInBounds j v) t := by
 unfold HB at *;simp [World.setCell,Array.getElem?_modify,h]
theorem HB.new (w : World) (Z : Array Value) (t : TypeId) : HB (w.alloc (.cells Z t)) w.heap.size Z t := heap_alloc_new w _
theorem jaj (w : World) (b j : Nat) (u : Value) : Chg (fun k => k = b) w (w.setCell ⟨b,j,none⟩ u) := ⟨rfl,rfl,rfl,by simp [World.setCell],fun k hk hn => Below.heap_setCell _ _ _ _ (fun h => hn h)⟩
section
variable {P : Program} {w : World} {ops : Array Oper} {rest : List Oper} {o : Oper} {a : Act} {Q : Exit → Act → World → Prop}
theorem jbp {t : TypeId} [Cell1 P t] {x y : Operand} (hg : o.guard = none) (ho : o.op = .store t x y) {b j : Nat} {Z : Array Value} {te : TypeId} {u v : Value} (hb : HB w b Z te) (hj : Z[j]? = some v) (hx : a.eval x = .pointer (some ⟨b,j,none⟩)) (hy : a.eval y = u) (hu : u.oneCell' = true)
 (h : ∀ w',HB w' b (Z.setIfInBounds j u) te → Chg (fun k => k = b) w w' → wpList P ops Q rest (a.put o.dst undef) w') : wpList P ops Q (o :: rest) a w :=
 wl_store1 hg ho hx hy hu (hb.cell j hj) (hb.froz j) (h _ (hb.set j u) ⟨rfl,rfl,rfl,by simp [World.setCell],fun k hk hn => Below.heap_setCell _ _ _ _ (fun h => hn h)⟩)
end
section
variable {P : Program} {w wf : World} {ops : Array Oper} {rest : List Oper} {o : Oper} {a : Act} {Q : Act → Prop} {F : Option Tmp → World → World → Value → Prop}
theorem x_sliceTo {t e s b : Nat} {z : Value} [T : SlTy P t e s z b] {x hi : Operand} (hw : Region.wanted o (yielded ops a.tmps) = true) (ho : o.op = .slice t x none (some hi) none) {p : Option Addr} {n c : Nat} {k2 : IntKind} {ui : Int} {u : Nat}
 (hx : a.eval x = .slice p n c) (hhi : a.eval hi = .int k2 ui) (h2 : ui = u) (h4 : u ≤ c)
 (h : wpX P ops F w wf Q rest (a.put o.dst (.slice (subp p s 0 c) (u - 0) (c - 0)))) : wpX P ops F w wf Q (o :: rest) a := by
 subst h2;exact x_pure hw (fun w1 _ => by simp [execOp,ho,hx,hhi,run_sliceTo h4]) h
theorem x_sliceFrom {t e s b : Nat} {z : Value} [T : SlTy P t e s z b] {x lo : Operand} (hw : Region.wanted o (yielded ops a.tmps) = true) (ho : o.op = .slice t x (some lo) none none) {p : Option Addr} {n c : Nat} {k1 : IntKind} {li : Int} {l : Nat}
 (hx : a.eval x = .slice p n c) (hlo : a.eval lo = .int k1 li) (h1 : li = l) (h3 : l ≤ n) (h4 : n ≤ c)
 (h : wpX P ops F w wf Q rest (a.put o.dst (.slice (subp p s l c) (n - l) (c - l)))) : wpX P ops F w wf Q (o :: rest) a := by
 subst h1;exact x_pure hw (fun w1 _ => by simp [execOp,ho,hx,hlo,run_sliceFrom h3 h4]) h
end
def Tys (w : World) (ts : List TypeId) (bs : List Nat) : Prop := ∀ b ∈ bs,∃ Z T m,T ∈ ts ∧ w.heap[b]? = some (.cells Z T m)
theorem heap_lt {w : World} {b : Nat} {o : Obj} (h : w.heap[b]? = some o) : b < w.heap.size := by
 rcases Nat.lt_or_ge b w.heap.size with h' | h'
 · exact h'
 · simp [Array.getElem?_eq_none h'] at h
theorem Tys.ext {w w' : World} {ts : List TypeId} {bs : List Nat} (h : Tys w ts bs) (e : Ext w w') : Tys w' ts bs := by
 intro b hb;obtain ⟨Z,T,m,h1,h2⟩ := h b hb;exact ⟨Z,T,m,h1,by rw [e.block b (heap_lt h2)];exact h2⟩
theorem Tys.chg {S : Nat → Prop} {w w' : World} {ts : List TypeId} {bs : List Nat} (h : Tys w ts bs) (k : Chg S w w') (hS : ∀ b ∈ bs,¬ S b) : Tys w' ts bs := by
 intro b hb;obtain ⟨Z,T,m,h1,h2⟩ := h b hb;exact ⟨Z,T,m,h1,by rw [k.block b (heap_lt h2) (hS b hb)];exact h2⟩
theorem Tys.app {w : World} {ts : List TypeId} {a b : List Nat} (h : Tys w ts a) (k : Tys w ts b) : Tys w ts (a ++ b) := fun x hx => by
 rcases List.mem_append.1 hx with hx | hx
 · exact h x hx
 · exact k x hx
theorem Tys.mono {w : World} {ts us : List TypeId} {a : List Nat} (h : Tys w ts a) (k : ∀ t ∈ ts,t ∈ us) : Tys w us a := fun x hx => by
 obtain ⟨Z,T,m,h1,h2⟩ := h x hx;exact ⟨Z,T,m,k T h1,h2⟩
theorem Tys.no {w : World} {ts : List TypeId} {bs : List Nat} (h : Tys w ts bs) {t : TypeId} (ht : ¬ t ∈ ts) : ∀ b ∈ bs,∀ Z,w.heap[b]? ≠ some (.cells Z t) := by
 intro b hb Z he;obtain ⟨Z',T,m,h1,h2⟩ := h b hb;rw [h2] at he
 injection he with he
 injection he with _ he
 exact ht (he ▸ h1)
theorem own_tys {w : World} {B te s n c : Nat} {q : Option Addr} {vs : List Value} (h : w.ownsRow B te s (.slice q n c) n vs) : Tys w [te] (jac q) := by
 intro b hb;rcases h.2 with ⟨hv,h0⟩ | ⟨g,cap,cur,hv,hg,hh,hr⟩
 · cases hv;simp [jac] at hb
 · cases hv
   simp [jac] at hb;subst hb;exact ⟨_,_,_,by simp,hh⟩
def jbu (ts : List TypeId) (B : Nat) (s : Sh) (w : World) (cs : List Value) (d : s.T) : Prop := ∃ bs,Own w s cs d bs ∧ bs.Nodup ∧ (∀ b ∈ bs,B ≤ b) ∧ Tys w ts bs
theorem jbu.ext {ts : List TypeId} {B : Nat} {s : Sh} {w w' : World} {cs : List Value} {d : s.T} (h : jbu ts B s w cs d) (e : Ext w w') : jbu ts B s w' cs d := by
 obtain ⟨bs,h1,h2,h3,h4⟩ := h;exact ⟨bs,h1.ext e,h2,h3,h4.ext e⟩
theorem jbu.base {ts : List TypeId} {B B' : Nat} {s : Sh} {w : World} {cs : List Value} {d : s.T} (h : jbu ts B s w cs d) (hB : B' ≤ B) : jbu ts B' s w cs d := by
 obtain ⟨bs,h1,h2,h3,h4⟩ := h;exact ⟨bs,h1,h2,fun b hb => Nat.le_trans hB (h3 b hb),h4⟩
theorem jbu.chg {ts : List TypeId} {B : Nat} {s : Sh} {w w' : World} {cs : List Value} {d : s.T} (h : jbu ts B s w cs d) {S : Nat → Prop} (k : Chg S w w') (hS : ∀ b,S b → b < B) : jbu ts B s w' cs d := by
 obtain ⟨bs,h1,h2,h3,h4⟩ := h;have hn : ∀ b ∈ bs,¬ S b := fun b hb hs => by have := h3 b hb;have := hS b hs;omega
 exact ⟨bs,h1.chg k hn,h2,h3,h4.chg k hn⟩
theorem GrowOwn.ownY {w : World} {B : Nat} {te : TypeId} {E : Sh} {v : Value} {l : List E.T} {css : List (List Value)} {bss : List (List Nat)} (h : GrowOwn w B te E v l css bss) {ts : List TypeId} (ht : Tys w ts bss.flatten) (hte : te ∈ ts) : jbu ts B (.sl E) w [v] l := by
 obtain ⟨h1,h2,h3,h4⟩ := h;have hrow := h1;obtain ⟨hl,hr⟩ := h1;rcases hr with ⟨rfl,h0⟩ | ⟨g,cap,cur,rfl,hg,hh,hnc,hm,hsz,ht'⟩
 · have hl0 : l = [] := List.eq_nil_of_length_eq_zero h0
   subst hl0;exact ⟨[],own_nil,by simp,by simp,fun b hb => by simp at hb⟩
 · refine ⟨g :: bss.flatten,own_sl.2 ⟨some ⟨g,0,none⟩,cap,css,bss,rfl,jbl hrow,hnc,hm,h2,rfl⟩,?_,?_,?_⟩
   · rw [List.nodup_cons];exact ⟨fun hb => (h4 g hb).2 rfl,h3⟩
   · intro b hb
     rcases List.mem_cons.1 hb with rfl | hb
     · exact hg
     · exact (h4 b hb).1
   · intro b hb
     rcases List.mem_cons.1 hb with rfl | hb
     · exact ⟨_,_,_,hte,hh⟩
     · exact ht b hb
theorem retFl_thing3 {w w' : World} {xs : List Nat} {e : Ending} {n : Nat} (hn : xs.length = n) (h : RetFl w xs e w') : ∃ q c bs,e = .returned (.slice q n c) ∧ Own w' (.sl .flt) [.slice q n c] xs bs ∧ bs.Nodup ∧ (∀ b ∈ bs,w.heap.size ≤ b) ∧ Ext w w' ∧ Tys w' [33] bs := by
 subst hn;obtain ⟨q,c,vs,he,ho,hf,hx⟩ := h;refine ⟨q,c,jac q,he,jbv.2 ⟨q,c,vs,rfl,jbl ho,hf,(jat ho).1,(jat ho).2,rfl⟩,?_,?_,hx,own_tys ho⟩
 · cases q <;> simp [jac]
 · intro b hb
   cases q with
   | none => simp [jac] at hb
   | some a => simp [jac] at hb;subst hb;exact jah ho _ rfl
def Small (L : List jaa.T) : Prop := L.length ≤ 12 ∧ ∀ d ∈ L,(d.2.2.2.1 : List Nat).length ≤ 64 ∧ (d.2.2.2.2.1 : List Nat).length ≤ 64
theorem lay_full {w : World} {cs : List Value} {d : jaa.T} (h : Rep w jaa cs d) : ∃ pw cw pb cb uw ub,cs = [.int .i64 d.1,.int .i64 d.2.1,.int .i64 d.2.2.1,.slice pw (d.2.2.2.1 : List Nat).length cw,.slice pb (d.2.2.2.2.1 : List Nat).length cb] ∧
 (Cs w pw uw ∧ F32s uw d.2.2.2.1 ∧ (d.2.2.2.1 : List Nat).length ≤ cw) ∧ (Cs w pb ub ∧ F32s ub d.2.2.2.2.1 ∧ (d.2.2.2.2.1 : List Nat).length ≤ cb) := by
 obtain ⟨a1,a2,a3,a4,a5,au⟩ := d;obtain ⟨_,_,rfl,rfl,_,_,rfl,rfl,_,_,rfl,rfl,_,_,rfl,h4,_,_,rfl,h5,rfl⟩ := h;obtain ⟨p4,c4,u4,rfl,g1,g2,g3,_⟩ := ja5.1 h4;obtain ⟨p5,c5,u5,rfl,k1,k2,k3,_⟩ := ja5.1 h5;exact ⟨p4,c4,p5,c5,u4,u5,rfl,⟨g1,g2,g3⟩,⟨k1,k2,k3⟩⟩
theorem own_lay {w : World} {d : jaa.T} {qw qb : Option Addr} {lw kw lb kb : Nat} {bw bb : List Nat} (h1 : Own w (.sl .flt) [.slice qw lw kw] d.2.2.2.1 bw) (h2 : Own w (.sl .flt) [.slice qb lb kb] d.2.2.2.2.1 bb) :
 Own w jaa [.int .i64 d.1,.int .i64 d.2.1,.int .i64 d.2.2.1,.slice qw lw kw,.slice qb lb kb] d (bw ++ bb) := by
 obtain ⟨a1,a2,a3,a4,a5,au⟩ := d
 exact ⟨[.int .i64 a1],[.int .i64 a2,.int .i64 a3,.slice qw lw kw,.slice qb lb kb],[],bw ++ bb,rfl,⟨rfl,rfl⟩,⟨[.int .i64 a2],[.int .i64 a3,.slice qw lw kw,.slice qb lb kb],[],bw ++ bb,rfl,⟨rfl,rfl⟩,⟨[.int .i64 a3],[.slice qw lw kw,.slice qb lb kb],[],bw ++ bb,rfl,⟨rfl,rfl⟩,
  ⟨[.slice qw lw kw],[.slice qb lb kb],bw,bb,rfl,h1,⟨[.slice qb lb kb],[],bb,[],rfl,h2,⟨rfl,rfl⟩,by simp⟩,rfl⟩,rfl⟩,rfl⟩,rfl⟩
theorem take_snoc {A : Type} {l : List A} {i : Nat} {d : A} (h : l[i]? = some d) : l.take i ++ [d] = l.take (i + 1) := by
 rw [List.take_add_one,h];rfl
theorem GrowOwn.chgB {S : Nat → Prop} {w w' : World} {B : Nat} {te : TypeId} {E : Sh} {v : Value} {l : List E.T} {css : List (List Value)} {bss : List (List Nat)} (h : GrowOwn w B te E v l css bss) (k : Chg S w w') (hS : ∀ b,S b → b < B) : GrowOwn w' B te E v l css bss :=
 ⟨ja3 h.row k hS,h.els.chg k (fun b hb hs => by have := (h.lo b hb).1;have := hS b hs;omega),h.nodup,h.lo⟩
theorem copyModel_any (p : Option Addr) (n c : Nat) (css : List (List Value)) (L : List jaa.T) (w : World) (hL : Lays w p n css L) (hS : Small L) :
 Calls Try.prog 87 #[.agg #[.slice p n c]] w fun e w' => ∃ q k,e = .returned (.agg #[.slice q n k]) ∧ jbu [41,33] w.heap.size (.sl jaa) w' [.slice q n k] L ∧ Ext w w' := by
 have hn : n ≤ 12 := by have := hS.1;rw [hL.len] at this;exact this
 have HS := hid hS.2;have HL := hid hL.len;have l1 := hL.cs;have l2 := hL.all;have l3 := hL.size;have l5 := hid hL.cnt;obtain ⟨W0,hW0⟩ : ∃ W0,W0 = ((w.alloc (.cells #[.slice p n c] 38)).alloc (.cells #[.slice none 0 0] 38)).alloc (.cells #[.slice none 0 0] 38) := ⟨_,rfl⟩;obtain ⟨E0,s0,_,b1,b2⟩ := box3 hW0;have b1 : HB W0 (w.heap.size + 1) #[.slice none 0 0] 38 := b1;have b2 : HB W0 (w.heap.size + 1 + 1) #[.slice none 0 0] 38 := b2;have hst : W0.ownsRow W0.heap.size 41 jaa.sz (.slice none 0 0) 0 [] := ⟨rfl,.inl ⟨rfl,rfl⟩⟩;clear hL hS;go_enter Try.func87,Try.ntmps87;go_wp2_with fail;rw [← hW0];clear hW0;go_loopw [10] (fun iv wr => ∃ (i k : Nat) (q : Option Addr) (cs : List (List Value)) (bss : List (List Nat)),i ≤ n ∧ iv = .int .i64 i ∧ HB wr (w.heap.size + 1 + 1) #[.slice q i k] 38 ∧ HB wr (w.heap.size + 1) #[.slice none 0 0] 38 ∧ Hid (GrowOwn wr W0.heap.size 41 jaa (.slice q i k) (L.take i) cs bss) ∧ Hid (Tys wr [33] bss.flatten) ∧ Ext w wr ∧ W0.heap.size ≤ wr.heap.size) (fun iv _ => n - (intOf iv).toNat)
 case atStart => exact ⟨0,0,none,[],[],by omega,rfl,b2,b1,GrowOwn.empty hst,fun b hb => by simp at hb,E0,Nat.le_refl _⟩
 case round =>
  clear b1 b2 hst E0;obtain ⟨i,k,q,cs,bss,hi,rfl,B2,B1,HG,HT,he,hsz⟩ := hrel
  by_cases hlt : i < n
  · have hil : i < L.length := by rw [HL.out];exact hlt
    obtain ⟨ci,hci,ri⟩ := l2.get i L[i] (by simp);have hs1 : p.isSome = true := l1.some_of l3 (by decide) (show 0 < css.length by rw [l5.out];omega);have hp := l1.ext he;have one := ri.one;obtain ⟨hw1,hw2⟩ := HS.out L[i] (by simp);obtain ⟨pw,cw,pb,cb,uw,ub,rfl,⟨x1,x2,x3⟩,⟨y1,y2,y3⟩⟩ := lay_full ri;have C1 := hid (fun W (h : Ext w W) => cloneF_any pw _ cw uw _ W rfl (by omega) x3 (x1.ext h) x2);have C2 := hid (fun W (h : Ext w W) => cloneF_any pb _ cb ub _ W rfl (by omega) y3 (y1.ext h) y2);have HD := hid (show L[i]? = some L[i] by simp);generalize L[i] = d at *;obtain ⟨d1,d2,d3,ws,bs,du⟩ := d;dsimp only at hci one C1 C2 HD hw1 hw2;have HH := hid (And.intro hw1 hw2);have hlw := hid (rfl : ws.length = ws.length);generalize hlw0 : ws.length = lw at *;generalize hlb0 : bs.length = lb at *;have Hlw := hid hlw0;have Hlb := hid hlb0;clear hlw0 hlb0 x1 x2 x3 y1 y2 y3 ri hw1 hw2 hlw;have g2 : wr.cell? ⟨w.heap.size + 1 + 1,0,none⟩ = some (.slice q i k) := B2.cell 0 rfl;have hB2 := B2.lt;have b5 := HB.new wr #[.int .i64 d1,.int .i64 d2,.int .i64 d3,.slice pw lw cw,.slice pb lb cb] 41;obtain ⟨W1,hW1⟩ : ∃ W1,W1 = wr.alloc (.cells #[.int .i64 d1,.int .i64 d2,.int .i64 d3,.slice pw lw cw,.slice pb lb cb] 41) := ⟨_,rfl⟩;have E1 : Ext wr W1 := by subst hW1;exact Ext.alloc _ _
    rw [← hW1] at b5;go_wp2_with ((with_reducible show gx2);refine wl_idxloadE (s := jaa) (j := i) rfl rfl rfl rfl (fun _ => rfl) rfl rfl rfl hp l3 l5.out hlt hs1 hci ?_;simp only [ofCs,Sh.agg,if_true]);rw [← hW1];clear hW1;refine (C1.out _ (he.trans E1)).mono ?_;intro e w2 h2;obtain ⟨qw,kw,bw,rfl,ow,ndw,low,e2,tw⟩ := retFl_thing3 Hlw.out h2;have E2 := E1.trans e2;have b6 := b5.ext e2;have m3 : w2.cell? ⟨wr.heap.size,3,none⟩ = some (.slice pw lw cw) := b6.cell 3 rfl;have hW1s := b5.lt;clear h2 b5;go_wp2_with ((with_reducible show gx11);refine jbp (j := 3) rfl rfl b6 rfl rfl rfl rfl ?_;intro w3 b7 ch3;have E3 := E2.chg ch3 (fun b hb => by omega);have m4 : w3.cell? ⟨wr.heap.size,4,none⟩ = some (.slice pb lb cb) := b7.cell 4 rfl);refine (C2.out _ (he.trans E3)).mono ?_;intro e w4 h4;obtain ⟨qb,kb,bb,rfl,ob,ndb,lob,e4,tb⟩ := retFl_thing3 Hlb.out h4;have E4 := E3.trans e4;have b8 := b7.ext e4;clear h4 b7;have hrow := HG.out.row;rw [List.length_take,HL.out,Nat.min_eq_left (by omega)] at hrow;go_wp2_with (first | ((with_reducible show gx11);refine jbp (j := 4) rfl rfl b8 rfl rfl rfl rfl ?_;intro w5 b9 ch5;have E5 := E4.chg ch5 (fun b hb => by omega);have k0 : w5.cell? ⟨wr.heap.size,0,none⟩ = some (.int .i64 d1) := b9.cell 0 rfl;have k1 : w5.cell? ⟨wr.heap.size,1,none⟩ = some (.int .i64 d2) := b9.cell 1 rfl;have k2 : w5.cell? ⟨wr.heap.size,2,none⟩ = some (.int .i64 d3) := b9.cell 2 rfl;have k3 : w5.cell? ⟨wr.heap.size,3,none⟩ = some (.slice qw lw kw) := b9.cell 3 rfl;have k4 : w5.cell? ⟨wr.heap.size,4,none⟩ = some (.slice qb lb kb) := b9.cell 4 rfl;have g5 := E5.cell g2) | ((with_reducible show gx9);refine ja4 (u := .agg #[.int .i64 d1,.int .i64 d2,.int .i64 d3,.slice qw lw kw,.slice qb lb kb]) rfl rfl rfl rfl rfl (by rfl) (by rfl) (fun _ => rfl) (fun _ => rfl) (jak hrow E5) (by unfold maxLen;omega) (by omega) (by have := E5.size;omega) ?_;intro g9 c9 w9 own9 gr9 hw9;have hg9 : HB w9 (w.heap.size + 1 + 1) #[.slice q i k] 38 := (B2.ext E5).chg (.of_grown gr9) (fun h => by have := jah hrow _ h.symm;omega)) | ((with_reducible show gx11);refine jbp (j := 0) rfl rfl hg9 rfl rfl rfl rfl ?_;intro w10 b10 ch10));go_roundw
    case rel =>
     have tw5 := ((tw.chg ch3 (fun b hb h => by have h : b = _ := h;have := low b hb;omega)).ext e4).chg ch5 (fun b hb h => by have h : b = _ := h;have := low b hb;omega);have tb5 := tb.chg ch5 (fun b hb h => by have h : b = _ := h;have := lob b hb;have := e2.size;have := ch3.size;omega)
     have T9 : Tys w10 [33] (bss ++ [bw ++ bb]).flatten := by
      have hh : (bss ++ [bw ++ bb]).flatten = bss.flatten ++ (bw ++ bb) := by simp
      rw [hh];refine ((((HT.out.ext E5).app (tw5.app tb5)).chg (.of_grown gr9) (fun b hb h => ?_)).chg ch10 (fun b hb h => ?_))
      · rcases List.mem_append.1 hb with hb | hb
        · exact (HG.out.lo b hb).2 h.symm
        · have hlt2 := own_lt hrow b h.symm
          rcases List.mem_append.1 hb with hb | hb
          · have := low b hb;omega
          · have := lob b hb;have := e2.size;have := ch3.size;omega
      · have h : b = _ := h
        rcases List.mem_append.1 hb with hb | hb
        · have := (HG.out.lo b hb).1;omega
        · rcases List.mem_append.1 hb with hb | hb
          · have := low b hb;omega
          · have := lob b hb;have := e2.size;have := ch3.size;omega
     have ow3 := ow.chg ch3 (fun b hb h => by have := low b hb;omega);have ow5 : Own w5 (.sl .flt) [.slice qw lw kw] ws bw := (ow3.ext e4).chg ch5 (fun b hb h => by have := low b hb;omega);have hs3 := ch3.size;have hs2 := e2.size;have ob5 : Own w5 (.sl .flt) [.slice qb lb kb] bs bb := ob.chg ch5 (fun b hb h => by have := lob b hb;omega)
     have H9 := HG.out.snoc E5 (own_lay (d := (d1,d2,d3,ws,bs,du)) ow5 ob5) (nodup_app ndw ndb (fun x hx => by have := ow.lt x hx;have := e2.size;omega) (fun x hx => lob x hx)) (fun b hb => by
      rcases List.mem_append.1 hb with h | h
      · have := low b h;omega
      · have := lob b h;omega) hsz (n := i) (by rw [List.length_take,HL.out,Nat.min_eq_left (by omega)]) own9 gr9 hw9
     rw [take_snoc HD.out] at H9;exact ⟨i + 1,c9,some ⟨g9,0,none⟩,_,_,by omega,by go_num,b10,((B1.ext E5).chg (.of_grown gr9) (fun h => by have := jah hrow _ h.symm;omega)).chg ch10 (fun h => by omega),H9.chgB ch10 (fun b hb => by omega),T9,((he.trans E5).grown gr9 (fun kk hk => by have := jah hrow kk hk;omega)).chg ch10 (fun b hb => by omega),by have := E5.size;have := gr9.size;have := ch10.size;omega⟩
    case measure => simp [intOf];omega
  · obtain rfl : i = n := by omega
    have HG2 := HG.out;rw [List.take_of_length_le (by rw [HL.out];exact Nat.le_refl _)] at HG2;have HG3 := hid (HG2.ownY (ts := [41,33]) (HT.out.mono (by simp)) (by simp));have hB1 := B1.lt;have g2 : wr.cell? ⟨w.heap.size + 1 + 1,0,none⟩ = some (.slice q i k) := B2.cell 0 rfl;have g1 : wr.cell? ⟨w.heap.size + 1,0,none⟩ = some (.slice none 0 0) := B1.cell 0 rfl;have g3 := B1.froz 0;clear HG HG2;go_wp2;refine bodyPost_ret (v := .agg #[.slice q i k]) (by simp [results,Try.results87,go_sem,g1,g3]) rfl ?_;have ch := jaj wr (w.heap.size + 1) 0 (.slice q i k);exact ⟨q,k,rfl,(jbu.chg HG3.out ch (fun b hb => by omega)).base (by omega),he.chg ch (fun b hb => by omega)⟩
structure Fls (w : World) (p : Option Addr) (n : Nat) (us : List Value) (l : List (List Nat)) : Prop where
 cs : Cs w p us
 at' : ∀ i,i < n → ∃ q c vs,us[i]? = some (.slice q (l.getD i []).length c) ∧ Cs w q vs ∧ F32s vs (l.getD i []) ∧ (l.getD i []).length ≤ c
 len : l.length = n
 cnt : us.length = n
theorem Fls.ext {w w' : World} {p : Option Addr} {n : Nat} {us : List Value} {l : List (List Nat)} (h : Fls w p n us l) (e : Ext w w') : Fls w' p n us l :=
 ⟨h.cs.ext e,fun i hi => by obtain ⟨q,c,vs,h1,h2,h3,h4⟩ := h.at' i hi;exact ⟨q,c,vs,h1,h2.ext e,h3,h4⟩,h.len,h.cnt⟩
namespace Ex
open Ieee
theorem read_word (f : Format) (s : Bool) {r : Nat} (hr : r < f.infRung) :
 f.read (f.word s r) = if r < f.binade then .number s r f.leastPlace else .number s (f.binade + r % f.binade) (f.leastPlace + (r / f.binade - 1 : Nat)) := by
 have h1 := f.infRung_lt;have hs : 0 < f.signWeight := by omega
 have hw : f.word s r / f.signWeight % 2 = s.toNat ∧ f.word s r % f.signWeight = r := by
  unfold Format.word
  cases s
  · simp only [Bool.false_eq_true,if_false]
    exact ⟨by rw [Nat.div_eq_of_lt (by omega)];rfl,Nat.mod_eq_of_lt (by omega)⟩
  · simp only [if_true]
    exact ⟨by rw [Nat.add_div_left _ hs,Nat.div_eq_of_lt (by omega)];rfl,by rw [Nat.add_mod_left,Nat.mod_eq_of_lt (by omega)]⟩
 unfold Format.read;simp only [hw.1,hw.2];rw [show ((s.toNat == 1) : Bool) = s from by cases s <;> rfl];rw [if_pos hr]
theorem log2_lt (m : Nat) : m < 2 ^ (m.log2 + 1) := Nat.lt_log2_self
theorem cut_exact (s : Bool) (n q d : Nat) (hn : n = q * 2 ^ d) (hq : q ≠ 0) : Toward.even.cut s n d = q := by
 subst hn
 have hl : d ≤ (q * 2 ^ d).log2 := (Nat.le_log2 (by have := Nat.two_pow_pos d;exact Nat.mul_ne_zero hq (by omega))).2 (by
  have : 1 ≤ q := Nat.one_le_iff_ne_zero.2 hq
  calc 2 ^ d = 1 * 2 ^ d := by omega
   _ ≤ q * 2 ^ d := Nat.mul_le_mul_right _ this)
 have hg : 1 <<< min d ((q * 2 ^ d).log2 + 2) = 2 ^ d := by
  rw [Nat.min_eq_left (by omega),Nat.one_shiftLeft]
 unfold Toward.cut;simp only [hg];rw [Nat.mul_div_left _ (Nat.two_pow_pos d),Nat.mul_mod_left];have h2 := Nat.two_pow_pos d;have h3 : ¬ (2 ^ d < 2 * 0) := by omega
 have h4 : (2 ^ d == 2 * 0) = false := by simp
 simp [h4]
theorem near_exact (f : Format) (s : Bool) (m : Nat) (p last : Int) (hl : last = max (p + m.log2 - f.fractionBits) f.leastPlace) (hm : m ≠ 0) (hd : 2 ^ (last - p).toNat ∣ m) (hr : (last - f.leastPlace).toNat + 2 < 2 ^ f.exponentBits) :
 ∃ k,f.read (f.nearest s m p) = .number s k last ∧ k * 2 ^ (last - p).toNat = m * 2 ^ (p - last).toNat ∧ k ≠ 0 ∧ k < 2 ^ (f.fractionBits + 1) := by
 obtain ⟨q,hq⟩ := hd;have hq0 : q ≠ 0 := by intro h;subst h;simp at hq;exact hm hq
 have hL := log2_lt m;have hG := Nat.log2_self_le hm;have hlast := hl
 have hk : Toward.even.cut s (m <<< (p - last).toNat) (last - p).toNat = q * 2 ^ (p - last).toNat := by
  refine cut_exact s _ _ _ ?_ ?_
  · rw [Nat.shiftLeft_eq,hq];ac_rfl
  · exact Nat.mul_ne_zero hq0 (by have := Nat.two_pow_pos (p - last).toNat;omega)
 have hqm : q * 2 ^ (p - last).toNat * 2 ^ (last - p).toNat = m * 2 ^ (p - last).toNat := by rw [hq];ac_rfl
 have hle : f.leastPlace ≤ last := by omega
 -- the digits that are kept
 have hub : q * 2 ^ (p - last).toNat < 2 ^ (f.fractionBits + 1) := by
  have h1 : q * 2 ^ (p - last).toNat * 2 ^ (last - p).toNat < 2 ^ (f.fractionBits + 1) * 2 ^ (last - p).toNat := by
   rw [hqm,← Nat.pow_add]
   calc m * 2 ^ (p - last).toNat < 2 ^ (m.log2 + 1) * 2 ^ (p - last).toNat := Nat.mul_lt_mul_of_pos_right hL (Nat.two_pow_pos _)
    _ = 2 ^ (m.log2 + 1 + (p - last).toNat) := (Nat.pow_add ..).symm
    _ ≤ 2 ^ (f.fractionBits + 1 + (last - p).toNat) := Nat.pow_le_pow_right (by omega) (by omega)
  exact Nat.lt_of_mul_lt_mul_right h1
 have hlb : f.leastPlace < last → 2 ^ f.fractionBits ≤ q * 2 ^ (p - last).toNat := by
  intro hlt
  have h1 : 2 ^ f.fractionBits * 2 ^ (last - p).toNat ≤ q * 2 ^ (p - last).toNat * 2 ^ (last - p).toNat := by
   rw [hqm,← Nat.pow_add]
   calc 2 ^ (f.fractionBits + (last - p).toNat) ≤ 2 ^ (m.log2 + (p - last).toNat) := Nat.pow_le_pow_right (by omega) (by omega)
    _ = 2 ^ m.log2 * 2 ^ (p - last).toNat := Nat.pow_add ..
    _ ≤ m * 2 ^ (p - last).toNat := Nat.mul_le_mul_right _ hG
  exact Nat.le_of_mul_le_mul_right h1 (Nat.two_pow_pos _)
 refine ⟨q * 2 ^ (p - last).toNat,?_,hqm,Nat.mul_ne_zero hq0 (by have := Nat.two_pow_pos (p - last).toNat;omega),hub⟩;unfold Format.nearest;rw [if_neg hm];simp only [← hlast,hk];generalize q * 2 ^ (p - last).toNat = k at hub hlb ⊢;have hB : f.binade = 2 ^ f.fractionBits := rfl;have hI : f.infRung = (2 ^ f.exponentBits - 1) * f.binade := rfl;rw [Nat.pow_succ,← hB] at hub;rw [← hB] at hlb;have hBp : 0 < f.binade := by rw [hB];exact Nat.two_pow_pos _
 obtain ⟨u,hu⟩ : ∃ u,(last - f.leastPlace).toNat = u := ⟨_,rfl⟩;rw [hu] at hr ⊢
 have hlt : u * f.binade + k < f.infRung := by
  rw [hI]
  calc u * f.binade + k < u * f.binade + 2 * f.binade := by omega
   _ = (u + 2) * f.binade := by rw [Nat.add_mul]
   _ ≤ (2 ^ f.exponentBits - 1) * f.binade := Nat.mul_le_mul_right _ (by omega)
 rw [Nat.min_eq_left (Nat.le_of_lt hlt),read_word f s hlt];rcases Nat.eq_zero_or_pos u with h0 | h0
 · subst h0
   have he : last = f.leastPlace := by omega
   rw [Nat.zero_mul,Nat.zero_add]
   split
   · rw [he]
   · rename_i hge
     have h1 : k / f.binade = 1 := by
      rw [Nat.div_eq_iff hBp];omega
     have h2 : k % f.binade = k - f.binade := by rw [Nat.mod_eq_sub_mod (by omega),Nat.mod_eq_of_lt (by omega)]
     rw [h1,h2,he];simp;omega
 · have hk1 := hlb (by omega)
   have h3 : ¬ (u * f.binade + k < f.binade) := by omega
   rw [if_neg h3]
   have h1 : (u * f.binade + k) / f.binade = u + 1 := by
    rw [Nat.mul_comm,Nat.mul_add_div hBp];have : k / f.binade = 1 := by rw [Nat.div_eq_iff hBp];omega
    omega
   have h2 : (u * f.binade + k) % f.binade = k - f.binade := by
    rw [Nat.mul_comm,Nat.mul_add_mod,Nat.mod_eq_sub_mod (by omega),Nat.mod_eq_of_lt (by omega)]
   rw [h1,h2];have e1 : f.binade + (k - f.binade) = k := by omega
   have e2 : f.leastPlace + ((u + 1 - 1 : Nat) : Int) = last := by omega
   rw [e1,e2]
def vm (m : Nat) (p : Int) : Nat := m * 2 ^ (p + 1074).toNat
def vs (s : Bool) (m : Nat) (p : Int) : Int := if s then -(vm m p : Int) else (vm m p : Int)
def U : Nat := 2 ^ ((0 : Int) + 1074).toNat
theorem U_pos : 0 < U := Nat.two_pow_pos _
theorem vm_zero (p : Int) : vm 0 p = 0 := Nat.zero_mul _
theorem vm_int (n : Nat) : vm n 0 = n * U := rfl
theorem vm_eq_zero {m : Nat} {p : Int} (h : vm m p = 0) : m = 0 := by
 unfold vm at h;rcases Nat.mul_eq_zero.1 h with h | h
 · exact h
 · have := Nat.two_pow_pos (p + 1074).toNat;omega
theorem vm_shift {m : Nat} {p b : Int} (hb : -1074 ≤ b) (hp : b ≤ p) : vm m p = m * 2 ^ (p - b).toNat * 2 ^ (b + 1074).toNat := by
 unfold vm;rw [Nat.mul_assoc,← Nat.pow_add,show (p - b).toNat + (b + 1074).toNat = (p + 1074).toNat by omega]
theorem cmp_mul {a b c : Int} (hc : 0 < c) : compare (a * c) (b * c) = compare a b := by
 show compareOfLessAndEq (a * c) (b * c) = compareOfLessAndEq a b;unfold compareOfLessAndEq;have h1 : a * c < b * c ↔ a < b := ⟨fun h => Int.lt_of_mul_lt_mul_right h (Int.le_of_lt hc),fun h => Int.mul_lt_mul_of_pos_right h hc⟩;have h2 : a * c = b * c ↔ a = b := ⟨fun h => Int.eq_of_mul_eq_mul_right (by omega) h,fun h => by rw [h]⟩;simp only [h1,h2]
theorem order_val {s t : Bool} {m n : Nat} {i j : Int} (hi : -1074 ≤ i) (hj : -1074 ≤ j) : (Datum.number s m i).order (.number t n j) = some (compare (vs s m i) (vs t n j)) := by
 have hb : -1074 ≤ min i j := by omega
 have hc : (0 : Int) < ((2 ^ (min i j + 1074).toNat : Nat) : Int) := by have := Nat.two_pow_pos (min i j + 1074).toNat;omega
 have key : ∀ (s : Bool) (m : Nat) (i' : Int),min i j ≤ i' → vs s m i' = signed s m (i' - min i j).toNat * ((2 ^ (min i j + 1074).toNat : Nat) : Int) := by
  intro s m i' hle;unfold vs signed;rw [vm_shift hb hle,Nat.shiftLeft_eq]
  cases s
  · simp
  · simp only [if_true];rw [Int.neg_mul];simp
 show some (compare (signed s m (i - min i j).toNat) (signed t n (j - min i j).toNat)) = _;rw [key s m i (by omega),key t n j (by omega),cmp_mul hc]
theorem log2_mul {k : Nat} (hk : k ≠ 0) (n : Nat) : (k * 2 ^ n).log2 = k.log2 + n := by
 have hp := Nat.two_pow_pos n;rw [Nat.log2_eq_iff (Nat.mul_ne_zero hk (by omega)),Nat.pow_add,show 2 ^ (k.log2 + n + 1) = 2 ^ (k.log2 + 1) * 2 ^ n by rw [← Nat.pow_add];congr 1;omega];exact ⟨Nat.mul_le_mul_right _ (Nat.log2_self_le hk),Nat.mul_lt_mul_of_pos_right (log2_lt k) hp⟩
theorem write_rep (f : Format) (s : Bool) {k m : Nat} {p e : Int} (hp : -1074 ≤ p) (hl : -1074 ≤ f.leastPlace) (he : f.leastPlace ≤ e) (hm : m < 2 ^ (f.fractionBits + 1)) (hv : vm k p = vm m e) (hE : (e - f.leastPlace).toNat + 2 < 2 ^ f.exponentBits) :
 ∃ k' p',f.read (f.write (.number s k p)) = .number s k' p' ∧ f.leastPlace ≤ p' ∧ vm k' p' = vm k p ∧ k' < 2 ^ (f.fractionBits + 1) ∧ p' ≤ e := by
 show ∃ k' p',f.read (f.nearest s k p) = .number s k' p' ∧ f.leastPlace ≤ p' ∧ vm k' p' = vm k p ∧ k' < 2 ^ (f.fractionBits + 1) ∧ p' ≤ e
 by_cases hk : k = 0
 · subst hk
   refine ⟨0,f.leastPlace,?_,Int.le_refl _,by rw [vm_zero,vm_zero],Nat.two_pow_pos _,he⟩;unfold Format.nearest
   rw [if_pos rfl,read_word f s (by
    show 0 < (2 ^ f.exponentBits - 1) * f.binade;exact Nat.mul_pos (by omega) (Nat.two_pow_pos _)),if_pos (show 0 < f.binade from Nat.two_pow_pos _)]
 · have hm0 : m ≠ 0 := by
    intro h;subst h;rw [vm_zero] at hv;exact hk (vm_eq_zero hv)
   have hlog : p + (k.log2 : Int) = e + m.log2 := by
    have h1 : vm k p = k * 2 ^ (p + 1074).toNat := rfl;have h2 : vm m e = m * 2 ^ (e + 1074).toNat := rfl
    have g1 : (vm k p).log2 = k.log2 + (p + 1074).toNat := by
     rw [h1,log2_mul hk]
    have g2 : (vm m e).log2 = m.log2 + (e + 1074).toNat := by
     rw [h2,log2_mul hm0]
    rw [hv,g2] at g1;omega
   have hm1 : m.log2 < f.fractionBits + 1 := (Nat.log2_lt hm0).2 hm;obtain ⟨last,hlast⟩ : ∃ last,last = max (p + (k.log2 : Int) - f.fractionBits) f.leastPlace := ⟨_,rfl⟩;have hle : last ≤ e := by omega
   have hd : 2 ^ (last - p).toNat ∣ k := by
    rcases Int.lt_or_le p last with h | h
    · have h1 : k * 2 ^ (p + 1074).toNat = m * 2 ^ (e - p).toNat * 2 ^ (p + 1074).toNat := by
       have := vm_shift (m := m) (p := e) (b := p) hp (by omega);rw [← this,← hv];rfl
      have h2 : k = m * 2 ^ (e - p).toNat := Nat.eq_of_mul_eq_mul_right (Nat.two_pow_pos _) h1;rw [h2,show (e - p).toNat = (e - last).toNat + (last - p).toNat by omega,Nat.pow_add];exact ⟨m * 2 ^ (e - last).toNat,by ac_rfl⟩
    · rw [show (last - p).toNat = 0 by omega];exact Nat.one_dvd _
   obtain ⟨k',h1,h2,h3,h4⟩ := near_exact f s k p last hlast hk hd (by omega);refine ⟨k',last,h1,by omega,?_,h4,hle⟩;rcases Int.lt_or_le p last with h | h
   · rw [vm_shift (m := k') (p := last) (b := p) hp (by omega),h2,show (p - last).toNat = 0 by omega]
     simp [vm]
   · rw [vm_shift (m := k) (p := p) (b := last) (by omega) h,← h2,show (last - p).toNat = 0 by omega]
     simp [vm]
theorem cut_zero (s : Bool) (n d : Nat) : Toward.zero.cut s n d = n / 2 ^ d := by
 unfold Toward.cut;simp only [Bool.toNat_false,Nat.add_zero,Nat.one_shiftLeft];rcases Nat.le_total d (n.log2 + 2) with h | h
 · rw [Nat.min_eq_left h]
 · rw [Nat.min_eq_right h]
   have h1 := log2_lt n;have h2 : n < 2 ^ (n.log2 + 2) := Nat.lt_of_lt_of_le h1 (Nat.pow_le_pow_right (by omega) (by omega));have h3 : n < 2 ^ d := Nat.lt_of_lt_of_le h2 (Nat.pow_le_pow_right (by omega) h);rw [Nat.div_eq_of_lt h2,Nat.div_eq_of_lt h3]
theorem integral_zero (s : Bool) (m : Nat) {p : Int} (hp : -1074 ≤ p) : (Datum.number s m p).integral .zero = .number s (vm m p / U) 0 := by
 show Datum.number s (Toward.zero.cut s (m <<< p.toNat) (-p).toNat) 0 = _;rw [cut_zero,Nat.shiftLeft_eq]
 congr 1
 unfold vm U;rcases Int.le_total 0 p with h | h
 · rw [show (-p).toNat = 0 by omega,show (p + 1074).toNat = p.toNat + ((0 : Int) + 1074).toNat by omega,Nat.pow_add,← Nat.mul_assoc,Nat.mul_div_cancel _ (Nat.two_pow_pos _)]
   simp
 · have h1 : ((0 : Int) + 1074).toNat = (-p).toNat + (p + 1074).toNat := by omega
   rw [show p.toNat = 0 by omega,h1,Nat.pow_add,Nat.mul_div_mul_right _ _ (Nat.two_pow_pos _)];simp
attribute [irreducible] U vm
end Ex
end Go.Proofs.Ytmbckkcgiafagaa
namespace Go.Proofs.Ytmbckkcgiafagaa
open Go.RowKit
namespace Ex
open Ieee
def Val (k : FloatKind) (b : Nat) (v : Int) : Prop := ∃ s m p,k.decode b = .number s m p ∧ -1074 ≤ p ∧ vs s m p = v
theorem Val.order {k : FloatKind} {a b : Nat} {v u : Int} (h : Val k a v) (h' : Val k b u) : k.format.order a b = some (compare v u) := by
 obtain ⟨s,m,p,h1,h2,rfl⟩ := h;obtain ⟨t,n,q,g1,g2,rfl⟩ := h';show (k.decode a).order (k.decode b) = _;rw [h1,g1,order_val h2 g2]
theorem cmp_lt {a b : Int} : (compare a b = .lt) ↔ a < b := by
 show compareOfLessAndEq a b = .lt ↔ _;unfold compareOfLessAndEq
 split
 · simp_all
 · split <;> simp_all
theorem cmp_eq {a b : Int} : (compare a b = .eq) ↔ a = b := by
 show compareOfLessAndEq a b = .eq ↔ _;unfold compareOfLessAndEq
 split
 · simp;omega
 · split <;> simp_all
theorem Val.leq {k : FloatKind} {a b : Nat} {v u : Int} (h : Val k a v) (h' : Val k b u) : (k.format.order a b == some .lt || k.format.order a b == some .eq) = decide (v ≤ u) := by
 rw [h.order h',Bool.eq_iff_iff];simp [cmp_lt,cmp_eq];omega
theorem Val.neq {k : FloatKind} {a b : Nat} {v u : Int} (h : Val k a v) (h' : Val k b u) : (k.format.order a b != some .eq) = !decide (v = u) := by
 rw [h.order h']
 by_cases hv : v = u
 · simp [cmp_eq.2 hv,hv]
 · have : compare v u ≠ .eq := fun h => hv (cmp_eq.1 h)
   simp [this,hv]
theorem Val.lt {k : FloatKind} {a b : Nat} {v u : Int} (h : Val k a v) (h' : Val k b u) : (k.format.order a b == some .lt) = decide (v < u) := by
 rw [h.order h',Bool.eq_iff_iff];simp [cmp_lt]
theorem vs_abs (s : Bool) (m : Nat) (p : Int) : (vs s m p).natAbs = vm m p := by unfold vs;cases s <;> simp
theorem dec32 {b : Nat} {s : Bool} {m : Nat} {e : Int} (hd : FloatKind.f32.decode b = .number s m e) : m < 2 ^ 24 ∧ -149 ≤ e ∧ e ≤ 104 := by
 have hd' : Ieee.single.read b = .number s m e := hd;have hs : (Ieee.single).signWeight = 2147483648 := by decide
 have hi : (Ieee.single).infRung = 2139095040 := by decide
 have hbi : (Ieee.single).binade = 8388608 := by decide
 have hlp : (Ieee.single).leastPlace = -149 := by decide
 unfold Ieee.Format.read at hd';simp only [hs,hi,hbi,hlp] at hd'
 split at hd'
 · cases hd';omega
 · split at hd'
   · cases hd';omega
   · split at hd' <;> cases hd'
theorem fmt (k : FloatKind) : -1074 ≤ k.format.leastPlace ∧ k.format.leastPlace ≤ -149 ∧ 24 ≤ k.format.fractionBits + 1 ∧ (149 : Nat) + 2 < 2 ^ k.format.exponentBits ∧ (0 - k.format.leastPlace).toNat + 2 < 2 ^ k.format.exponentBits := by
 cases k
 · exact ⟨by decide,by decide,by decide,by decide,by decide⟩
 · exact ⟨by decide,by decide,by decide,by decide,by decide⟩
theorem write_int (k : FloatKind) (s : Bool) {q : Nat} (hq : q < 2 ^ 24) : ∃ k' p',k.decode (k.encode (.number s q 0)) = .number s k' p' ∧ -1074 ≤ p' ∧ vm k' p' = q * U := by
 obtain ⟨f1,f2,f3,f4,f5⟩ := fmt k;obtain ⟨k',p',h1,h2,h3,h4,h5⟩ := write_rep k.format s (k := q) (m := q) (p := 0) (e := 0) (by omega) f1 (by omega) (Nat.lt_of_lt_of_le hq (Nat.pow_le_pow_right (by decide) f3)) rfl f5;exact ⟨k',p',h1,by omega,by rw [h3,vm_int]⟩
theorem near_val (k : FloatKind) {n : Int} (hn : n.natAbs < 2 ^ 24) : Val k (k.nearest n) (n * U) := by
 obtain ⟨k',p',h1,h2,h3⟩ := write_int k (decide (n < 0)) hn;refine ⟨_,k',p',h1,h2,?_⟩;unfold vs;rw [h3];rcases Int.lt_or_le n 0 with h | h
 · rw [decide_eq_true h,if_pos rfl]
   rw [show n = -(n.natAbs : Int) by omega,Int.neg_mul];simp
 · rw [decide_eq_false (by omega),if_neg (by simp)]
   rw [show n = (n.natAbs : Int) by omega];simp
theorem wide {b : Nat} {s : Bool} {m : Nat} {e : Int} (hd : FloatKind.f32.decode b = .number s m e) : ∃ k p,FloatKind.f64.decode (jam .f32 b .f64) = .number s k p ∧ -1074 ≤ p ∧ vm k p = vm m e := by
 obtain ⟨h1,h2,h3⟩ := dec32 hd;have hw := widen_small s (m := m) (e := e) (by omega) h3
 have hc : jam .f32 b .f64 = FloatKind.f64.encode (.number s m e) := by
  unfold jam floatToFloatBits;rw [if_neg (by decide),hd];simp [hw]
 rw [hc];have hlp : (Ieee.double).leastPlace = -1074 := by decide
 have h5 : 2 ^ (Ieee.double).exponentBits = 2048 := by decide
 obtain ⟨k',p',g1,g2,g3,g4,g5⟩ := write_rep Ieee.double s (k := m) (m := m) (p := e) (e := e) (by omega) (by decide) (by omega) (Nat.lt_of_lt_of_le h1 (by decide)) rfl (by rw [hlp,h5];omega);exact ⟨k',p',g1,by omega,g3⟩
theorem abs64 {x : Nat} {s : Bool} {k : Nat} {p : Int} (h : FloatKind.f64.decode x = .number s k p) : FloatKind.f64.decode (x % 9223372036854775808) = .number false k p := by
 have h' : Ieee.double.read x = .number s k p := h;show Ieee.double.read (x % 9223372036854775808) = _;have hs : (Ieee.double).signWeight = 9223372036854775808 := by decide
 unfold Ieee.Format.read at h' ⊢;simp only [hs] at h' ⊢;have h1 : x % 9223372036854775808 / 9223372036854775808 = 0 := Nat.div_eq_of_lt (Nat.mod_lt _ (by decide));rw [h1,Nat.mod_mod]
 split at h'
 · rename_i hc
   rw [if_pos hc];cases h';rfl
 · rename_i hc
   rw [if_neg hc]
   split at h'
   · rename_i hc2
     rw [if_pos hc2];cases h';rfl
   · split at h' <;> cases h'
theorem abs64_inf {x : Nat} {s : Bool} (h : FloatKind.f64.decode x = .infinity s) : FloatKind.f64.decode (x % 9223372036854775808) = .infinity false := by
 have h' : Ieee.double.read x = .infinity s := h;show Ieee.double.read (x % 9223372036854775808) = _;have hs : (Ieee.double).signWeight = 9223372036854775808 := by decide
 unfold Ieee.Format.read at h' ⊢;simp only [hs] at h' ⊢;have h1 : x % 9223372036854775808 / 9223372036854775808 = 0 := Nat.div_eq_of_lt (Nat.mod_lt _ (by decide));rw [h1,Nat.mod_mod]
 split at h'
 · cases h'
 · rename_i hc
   rw [if_neg hc]
   split at h'
   · cases h'
   · rename_i hc2
     rw [if_neg hc2]
     split at h'
     · rename_i hc3
       rw [if_pos hc3];rfl
     · cases h'
theorem abs64_nan {x : Nat} (h : (FloatKind.f64.decode x).isNaN = true) : (FloatKind.f64.decode (x % 9223372036854775808)).isNaN = true := by
 change (Ieee.double.read x).isNaN = true at h
 show (Ieee.double.read (x % 9223372036854775808)).isNaN = true;have hs : (Ieee.double).signWeight = 9223372036854775808 := by decide
 unfold Ieee.Format.read at h ⊢;simp only [hs] at h ⊢;rw [Nat.mod_mod]
 split at h
 · cases h
 · rename_i hc
   rw [if_neg hc]
   split at h
   · cases h
   · rename_i hc2
     rw [if_neg hc2]
     split at h
     · cases h
     · rename_i hc3
       rw [if_neg hc3];rfl
theorem back {x k : Nat} {s : Bool} {p : Int} {m : Nat} {e : Int} (hx : FloatKind.f64.decode x = .number s k p) (hp : -1074 ≤ p) (hm : m < 2 ^ 24) (he : -149 ≤ e) (he2 : e ≤ 104) (hv : vm k p = vm m e) :
 ∃ k' p',FloatKind.f32.decode (jam .f64 x .f32) = .number s k' p' ∧ -1074 ≤ p' ∧ vm k' p' = vm m e ∧ fover .f64 x .f32 = false := by
 have hlp : (Ieee.single).leastPlace = -149 := by decide
 obtain ⟨k',p',g1,g2,g3,g4,g5⟩ := write_rep Ieee.single s (k := k) (m := m) (p := p) (e := e) hp (by decide) (by omega) hm hv (by
  have h5 : 2 ^ (Ieee.single).exponentBits = 256 := by decide
  rw [hlp,h5];omega)
 have hn : (FloatKind.f32.decode (FloatKind.f32.encode (.number s k p))).isInfinity = false := by
  show (Ieee.single.read (Ieee.single.write (.number s k p))).isInfinity = false;rw [g1];rfl
 have hc : floatToFloatBits .f64 x .f32 = some (FloatKind.f32.encode (.number s k p)) := by
  unfold floatToFloatBits;rw [if_neg (by decide),hx];simp [hn]
 refine ⟨k',p',?_,by omega,by rw [g3,hv],?_⟩
 · unfold jam
   rw [hc];exact g1
 · unfold fover
   rw [hc];simp
end Ex
end Go.Proofs.Ytmbckkcgiafagaa
namespace Go.Proofs.Ytmbckkcgiafagaa
namespace Ex
open Go.RowKit Ieee
theorem vs_signed (s : Bool) (m : Nat) {i b : Int} (hb : -1074 ≤ b) (h : b ≤ i) : signed s m (i - b).toNat * (2 ^ (b + 1074).toNat : Nat) = vs s m i := by
 unfold signed vs;rw [vm_shift hb h,Nat.shiftLeft_eq]
 cases s
 · simp
 · simp [Int.neg_mul]
theorem vs_near {n : Int} {m : Nat} {i : Int} (h : vm m i = n.natAbs * U) : vs (decide (n < 0)) m i = n * U := by
 unfold vs;rw [h];rcases Int.lt_or_le n 0 with h | h
 · rw [decide_eq_true h,if_pos rfl]
   rw [show n = -(n.natAbs : Int) by omega,Int.neg_mul];simp
 · rw [decide_eq_false (by omega),if_neg (by simp)]
   rw [show n = (n.natAbs : Int) by omega];simp
end Ex
open Go.RowKit
def SZ (h : Nat → Int) : Nat → Int
 | 0 => 0
 | n + 1 => SZ h n + h n
theorem SZ_congr {h g : Nat → Int} : ∀ n,(∀ i,i < n → h i = g i) → SZ h n = SZ g n
 | 0,_ => rfl
 | n + 1,k => by
   show SZ h n + h n = SZ g n + g n;rw [SZ_congr n fun i hi => k i (by omega),k n (by omega)]
theorem SZ_bd {h : Nat → Int} {M : Nat} : ∀ n,(∀ i,i < n → (h i).natAbs ≤ M) → (SZ h n).natAbs ≤ n * M
 | 0,_ => by simp [SZ]
 | n + 1,k => by
   have h1 := SZ_bd n fun i hi => k i (by omega)
   have h2 := k n (by omega);show (SZ h n + h n).natAbs ≤ (n + 1) * M;rw [Nat.add_mul];omega
end Go.Proofs.Ytmbckkcgiafagaa
