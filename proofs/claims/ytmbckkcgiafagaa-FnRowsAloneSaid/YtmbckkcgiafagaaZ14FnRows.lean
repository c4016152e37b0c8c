/- A part of the proofs: Dr9a, CpyS, Spl, Jn, Box, WthP, Dr9b. -/
import Derived.Test.YtmbckkcgiafagaaZ13FnRows
import Derived.Test.YtmbckkcgiafagaaZ11FnRows
import Derived.Test.YtmbckkcgiafagaaZ10FnRows
import Derived.Test.YtmbckkcgiafagaaZ07FnRows
import Derived.Lib.AppendZeros
import Derived.Laws.CopyRow
import Derived.Test.YtmbckkcgiafagaaZ06FnRows
import Derived.Test.YtmbckkcgiafagaaZ09FnRows
set_option linter.unusedSimpArgs false
set_option linter.unusedVariables false
set_option maxRecDepth 100000
set_option maxHeartbeats 16000000
namespace Go.Proofs.Ytmbckkcgiafagaa
open Go.RowKit
section
variable {P : Program} {ops : Array Oper} {Q : Exit → Act → World → Prop} {S : World → Prop} {a : Act} {w : World}
theorem hd_idx {t e s b : Nat} {z : Value} [SlTy P t e s z b] {n k : Nat} {listed : Array Bool} {o : Oper} {x ix : Operand} {p : Option Addr} {m c j : Nat} {kk : IntKind} (hB : takeB ops listed k = true) (ho : ops[k]? = some o) (hg : o.guard = none) (hop : o.op = .indexAddr t x ix)
 (hQ : ∀ c a w v,Q (.panic c) (a.put o.dst v) w → Q (.panic c) a w) (hS : S w) (hx : a.eval x = .slice p m c) (hi : a.eval ix = .int kk (j : Int)) (hp : p.isSome = true) (hj : j < m)
 (h : wpT P ops Q S n (listed.setIfInBounds k true) (a.put o.dst (.pointer (some (adr p (j * s))))) w) : wpT P ops Q S (n + 1) listed a w :=
 jan (.pointer (some (adr p (j * s)))) hB ho hg (fun c a w h => hQ c a w _ h) hS (fun W _ => by
  have h1 := run_indexAt (P := P) (t := t) (w := W) (c := c) (k := kk) hp (show (0 : Int) ≤ (j : Int) by omega) (show (j : Int) < m by omega);rw [Int.toNat_natCast] at h1;simp [execOp,hop,hx,hi,h1]) h
theorem hd_fld {n k : Nat} {listed : Array Bool} {o : Oper} {t f off : Nat} {x : Operand} {q : Addr} (hB : takeB ops listed k = true) (ho : ops[k]? = some o) (hg : o.guard = none) (hop : o.op = .fieldAddr t x f)
 (hfo : ∀ (q : Addr) (w : World),(Instr.fieldAt t (.pointer (some q)) f).run P w = .ok (.pointer (some (q.add off))) w)
 (hQ : ∀ c a w v,Q (.panic c) (a.put o.dst v) w → Q (.panic c) a w) (hS : S w) (hx : a.eval x = .pointer (some q))
 (h : wpT P ops Q S n (listed.setIfInBounds k true) (a.put o.dst (.pointer (some (q.add off)))) w) : wpT P ops Q S (n + 1) listed a w :=
 jan (.pointer (some (q.add off))) hB ho hg (fun c a w h => hQ c a w _ h) hS (fun W _ => by simp [execOp,hop,hx,hfo]) h
theorem hd_ld {n k : Nat} {listed : Array Bool} {o : Oper} {t : TypeId} [Cell1 P t] {x : Operand} {q : Addr} {v : Value} (hB : takeB ops listed k = true) (ho : ops[k]? = some o) (hg : o.guard = none) (hop : o.op = .load t x)
 (hQ : ∀ c a w v,Q (.panic c) (a.put o.dst v) w → Q (.panic c) a w) (hS : S w) (hx : a.eval x = .pointer (some q)) (hc : ∀ W,S W → W.cell? q = some v)
 (h : wpT P ops Q S n (listed.setIfInBounds k true) (a.put o.dst v) w) : wpT P ops Q S (n + 1) listed a w :=
 jan v hB ho hg (fun c a w h => hQ c a w _ h) hS (fun W hW => by simp [execOp,hop,hx,run_load1 (hc W hW)]) h
theorem wl_stO {rest : List Oper} {o : Oper} {tf : TypeId} [Cell1 P tf] {x y : Operand} (hg : o.guard = none) (ho : o.op = .store tf x y) {g n c B e s j off : Nat} {u : Value} (hx : a.eval x = .pointer (some ⟨g,j * s + off,none⟩)) (hy : a.eval y = u) (hu1 : u.oneCell' = true) {css : List (List Value)}
 (hc : w.ownsRow B e s (.slice (some ⟨g,0,none⟩) n c) n css.flatten) (hall : ∀ c ∈ css,c.length = s) (hvn : css.length = n) (hj : j < n) (hoff : off < s) {cs : List Value} (hcs : css[j]? = some cs)
 (h : ∀ w',w'.ownsRow B e s (.slice (some ⟨g,0,none⟩) n c) n (css.set j (cs.set off u)).flatten → w.grownBy w' (some g) → wpList P ops Q rest (a.put o.dst undef) w') : wpList P ops Q (o :: rest) a w := by
 have hj' : j < css.length := by omega
 obtain ⟨_,rfl⟩ := List.getElem?_eq_some_iff.1 hcs
 have hlt : j * s + off < n * s := by
  have : (j + 1) * s ≤ n * s := Nat.mul_le_mul_right s hj;rw [Nat.add_mul] at this;omega
 have hlen := flat_len hall;rw [hvn] at hlen
 have hcell : w.cell? ⟨g,j * s + off,none⟩ = some (css.flatten[j * s + off]'(by omega)) := by
  rw [hc.cellAt _ hlt];simp [hlen,hlt]
 have hfr := hc.frozenAt (j * s + off);have hst := hc.stored (j * s + off) u;rw [flat_set hall hj' hoff] at hst;refine wl_skip hg (w' := w.setCell ⟨g,j * s + off,none⟩ u) ?_ (h _ hst.1 hst.2);simp [execOp,ho,hx,hy,run_store1 hcell hfr hu1]
end
theorem own_set0 {w : World} {cs : List Value} {d : jaa.T} {bs : List Nat} (z : Int) (h : Own w jaa cs d bs) : Own w jaa (cs.set 0 (.int .i64 z)) (z,d.2) bs := by
 obtain ⟨ca,cb,ba,bb,rfl,⟨rfl,rfl⟩,h2,rfl⟩ := h;exact ⟨[.int .i64 z],cb,[],_,rfl,⟨rfl,rfl⟩,h2,rfl⟩
theorem own_set1 {w : World} {cs : List Value} {d : jaa.T} {bs : List Nat} (z : Int) (h : Own w jaa cs d bs) : Own w jaa (cs.set 1 (.int .i64 z)) (d.1,z,d.2.2) bs := by
 obtain ⟨ca,cb,ba,bb,rfl,⟨rfl,rfl⟩,⟨cc,cd,bc,bd,h3,⟨rfl,rfl⟩,h4,rfl⟩,rfl⟩ := h;subst h3;exact ⟨[.int .i64 d.1],[.int .i64 z] ++ cd,[],_,rfl,⟨rfl,rfl⟩,⟨[.int .i64 z],cd,[],_,rfl,⟨rfl,rfl⟩,h4,rfl⟩,rfl⟩
theorem GrowOwn.setEl {w w' : World} {B n c g : Nat} {L : List jaa.T} {css : List (List Value)} {bss : List (List Nat)} (h : GrowOwn w B 41 jaa (.slice (some ⟨g,0,none⟩) n c) L css bss) (hn : L.length = n) (gr : w.grownBy w' (some g)) {y : Nat} {cs' : List Value} {d' : jaa.T}
 (row : w'.ownsRow B 41 5 (.slice (some ⟨g,0,none⟩) n c) n (css.set y cs').flatten) (hy : y < n) (ho : ∀ W cs d bs,css[y]? = some cs → L[y]? = some d → bss[y]? = some bs → Own W jaa cs d bs → Own W jaa cs' d' bs) :
 GrowOwn w' B 41 jaa (.slice (some ⟨g,0,none⟩) n c) (L.set y d') (css.set y cs') bss := by
 have ch : Chg (fun k => some k = some g) w w' := Chg.of_grown gr;have e1 := h.els.chg ch (fun b hb hk => (h.lo b hb).2 (show some g = some b by rw [hk]));refine ⟨by rw [List.length_set,hn];exact row,⟨by rw [List.length_set,List.length_set];exact e1.1,by rw [List.length_set];exact e1.2.1,fun i cs bs d h1 h2 h3 => ?_⟩,h.nodup,h.lo⟩
 by_cases hi : y = i
 · subst hi
   have hc : y < css.length := by rw [e1.1,hn];exact hy
   have hb : y < bss.length := by rw [e1.2.1,hn];exact hy
   have hl : y < L.length := by omega
   rw [List.getElem?_set_self hc] at h1;rw [List.getElem?_set_self hl] at h3
   cases h1;cases h3
   have hcs : css[y]? = some css[y] := by simp
   have hd : L[y]? = some L[y] := by simp
   exact ho w' _ _ _ hcs hd h2 (e1.2.2 y _ _ _ hcs h2 hd)
 · rw [List.getElem?_set_ne hi] at h1 h3
   exact e1.2.2 i cs bs d h1 h2 h3
theorem mod_bad {L : List jaa.T} {y : Nat} {d : jaa.T} (hd : L[y]? = some d) (hb : layD d = false) : modB L = false := by
 cases h : modB L with
 | false => rfl
 | true =>
   obtain ⟨hi,rfl⟩ := List.getElem?_eq_some_iff.1 hd;exact absurd (hb.symm.trans ((modOk h).lay y hi)) (by decide)
theorem goodL_of {i0 : Int} {L : List jaa.T} (h : modB L = true) (hf : Fit (.sl jaa) L) : GoodL i0 L := by
 have hM := modOk h;have hp := hM.pos;have hl := hM.lay (L.length - 1) (by omega);have e := outL_last hp i0;obtain ⟨O,hO,h1,h8⟩ := outL_nat hM;unfold modB at h;simp only [Bool.and_eq_true] at h;exact ⟨h.2.2,by rw [← e,← hO];omega,by rw [← e,← hO];omega,hf⟩
theorem fit_set {L : List jaa.T} {y : Nat} {d : jaa.T} (h : Fit (.sl jaa) L) (hd : Fit jaa d) : Fit (.sl jaa) (L.set y d) := by
 intro x hx;rcases List.mem_or_eq_of_mem_set hx with h1 | rfl
 · exact h x h1
 · exact hd
def AnyMod (sb K : Nat) (w : World) (e : Ending) (w' : World) : Prop :=
 ∃ (L : List jaa.T) (q : Option Addr) (c : Nat),e = .returned (.agg #[.slice q L.length c]) ∧ Fit (.sl jaa) L ∧ (∀ W,Chg (fun b => b < w.heap.size) w' W → Rep W (.sl jaa) [.slice q L.length c] L) ∧
   (modB L = true → ∃ (B : Nat) (cs : List (List Value)) (bss : List (List Nat)),w.heap.size ≤ B ∧ B ≤ w'.heap.size ∧ GrowOwn w' B 41 jaa (.slice q L.length c) L cs bss ∧ Tys w' [33] bss.flatten) ∧ DrAt w' sb K ∧ Chg (fun b => b = sb) w w'
theorem AnyMod.of {sb K : Nat} {w w' : World} {e : Ending} {L : List jaa.T} {q : Option Addr} {c B n : Nat} {cs : List (List Value)} {bss : List (List Nat)} (he : e = .returned (.agg #[.slice q n c])) (hn : L.length = n) (hf : Fit (.sl jaa) L) (hB : w.heap.size ≤ B) (hB2 : B ≤ w'.heap.size) (G : GrowOwn w' B 41 jaa (.slice q n c) L cs bss) (T : Tys w' [33] bss.flatten) (hd : DrAt w' sb K) (hc : Chg (fun b => b = sb) w w') : AnyMod sb K w e w' := by
 subst hn;exact ⟨L,q,c,he,hf,fun W hk => by obtain ⟨bs,o,_,_⟩ := (G.chgB hk (fun b hb => by omega)).own;exact o.rep,fun _ => ⟨B,cs,bss,hB,hB2,G,T⟩,hd,hc⟩
def off (L : List jaa.T) (j : Nat) : Nat := (parF (L.take j)).length
def wLay (d : jaa.T) (xs : List Nat) (o : Nat) : jaa.T := (d.1,d.2.1,d.2.2.1,(xs.take (o + (d.2.2.2.1 : List Nat).length)).drop o,(xs.take (o + (d.2.2.2.1 : List Nat).length + (d.2.2.2.2.1 : List Nat).length)).drop (o + (d.2.2.2.1 : List Nat).length),())
def wthF (L : List jaa.T) (xs : List Nat) (i : Nat) : List jaa.T := (List.range i).filterMap fun j => L[j]?.map fun d => wLay d xs (off L j)
theorem wthF_succ {L : List jaa.T} {xs : List Nat} {i : Nat} {d : jaa.T} (h : L[i]? = some d) : wthF L xs (i + 1) = wthF L xs i ++ [wLay d xs (off L i)] := by
 unfold wthF;rw [List.range_succ,List.filterMap_append];simp [h]
theorem wthF_len {L : List jaa.T} {xs : List Nat} : ∀ {i : Nat},i ≤ L.length → (wthF L xs i).length = i
 | 0,_ => rfl
 | i + 1,h => by
   rw [wthF_succ (d := L[i]) (by simp),List.length_append,wthF_len (by omega)];rfl
theorem off_succ {L : List jaa.T} {i : Nat} {d : jaa.T} (h : L[i]? = some d) : off L (i + 1) = off L i + ((d.2.2.2.1 : List Nat).length + (d.2.2.2.2.1 : List Nat).length) := by
 obtain ⟨hi,rfl⟩ := List.getElem?_eq_some_iff.1 h;unfold off;rw [parF_take hi,List.length_append,List.length_append]
theorem off_le (L : List jaa.T) (i : Nat) : off L i ≤ (parF L).length := parF_le L i
theorem parF_split {L : List jaa.T} {i : Nat} {d : jaa.T} (h : L[i]? = some d) : parF L = parF (L.take i) ++ ((d.2.2.2.1 : List Nat) ++ ((d.2.2.2.2.1 : List Nat) ++ parF (L.drop (i + 1)))) := by
 obtain ⟨hi,rfl⟩ := List.getElem?_eq_some_iff.1 h
 conv => lhs;rw [← List.take_append_drop i L]
 unfold parF;rw [List.flatMap_append,List.drop_eq_getElem_cons hi,List.flatMap_cons,List.append_assoc]
theorem wLay_self {L : List jaa.T} {i : Nat} {d : jaa.T} (h : L[i]? = some d) : wLay d (parF L) (off L i) = d := by
 obtain ⟨a,b,c,ws,bs,u⟩ := d;have hs := parF_split h;have ho : off L i = (parF (L.take i)).length := rfl;unfold wLay;dsimp only at hs ⊢;rw [ho];generalize parF (L.take i) = A at *;generalize parF (L.drop (i + 1)) = C at *;rw [hs]
 have e1 : ((A ++ (ws ++ (bs ++ C))).take (A.length + List.length ws)).drop A.length = ws := by
  rw [← List.append_assoc,← List.length_append,List.take_left,List.drop_left]
 have e2 : ((A ++ (ws ++ (bs ++ C))).take (A.length + List.length ws + List.length bs)).drop (A.length + List.length ws) = bs := by
  rw [← List.append_assoc,← List.append_assoc,← List.length_append,← List.length_append,List.take_left,List.drop_left]
 rw [e1,e2]
theorem wthF_self {L : List jaa.T} : ∀ {i : Nat},i ≤ L.length → wthF L (parF L) i = L.take i
 | 0,_ => rfl
 | i + 1,h => by
   have hd : L[i]? = some L[i] := by simp
   rw [wthF_succ hd,wthF_self (by omega),wLay_self hd,take_snoc hd]
theorem small_off {L : List jaa.T} (h : Small L) : (parF L).length ≤ 1536 := by
 obtain ⟨h1,h2⟩ := h
 have : ∀ (M : List jaa.T),(∀ d ∈ M,(d.2.2.2.1 : List Nat).length ≤ 64 ∧ (d.2.2.2.2.1 : List Nat).length ≤ 64) → (parF M).length ≤ 128 * M.length := by
  intro M
  induction M with
  | nil => intro _;simp [parF]
  | cons d M ih =>
    intro hM;have hd := hM d (by simp);have hr := ih (fun y hy => hM y (by simp [hy]));unfold parF at *;rw [List.flatMap_cons,List.length_append,List.length_append,List.length_cons];omega
 have := this L h2;omega
theorem small_of {L : List jaa.T} (h : ModOk L) : Small L := by
 refine ⟨by have := h.few;omega,fun d hd => ?_⟩;obtain ⟨i,hi,rfl⟩ := List.mem_iff_getElem.1 hd;have hl := h.lay i hi;unfold layD layB at hl;simp only [Bool.and_eq_true,decide_eq_true_eq,jaz,Bool.or_eq_true] at hl;obtain ⟨h1,h2,h3,h4,h5,h6⟩ := hl;have hm := mul_bd h2 h3;unfold wCnt at h5;unfold bCnt at h6;refine ⟨?_,?_⟩
 · split at h5
   · omega
   · split at h5
     · omega
     · split at h5 <;> omega
 · split at h6
   · omega
   · split at h6
     · omega
     · split at h6 <;> omega
end Go.Proofs.Ytmbckkcgiafagaa
namespace Go.Proofs.Ytmbckkcgiafagaa.lSplitModel
open Go.RowKit
def okS (d : ja6.T) (a : Int) : Prop := modB d.1 = true ∧ inB a 1 ((d.1.length : Int) - 1) = true
instance (d : ja6.T) (a : Int) : Decidable (okS d a) := by unfold okS;infer_instance
theorem own_mod {w : World} {q : Option Addr} {n k : Nat} {L : List jaa.T} {bs : List Nat} (h : Own w (.sl jaa) [.slice q n k] L bs) : Own w ja6 [.slice q n k] (L,()) bs := ⟨[.slice q n k],[],bs,[],rfl,h,⟨rfl,rfl⟩,by simp⟩
end Go.Proofs.Ytmbckkcgiafagaa.lSplitModel
namespace Go.Proofs.Ytmbckkcgiafagaa
open Go.RowKit
theorem own_ne {w : World} {B te t s n g : Nat} {v : Value} {xs : List Value} {Z : Array Value} (h : w.ownsRow B te s v n xs) (hb : HB w g Z t) (ht : te ≠ t) : v.ownBlock ≠ some g := by
 rcases h.2 with ⟨rfl,_⟩ | ⟨g',cap,cur,rfl,_,hh,_⟩
 · simp [Value.ownBlock]
 · intro he
   have : g' = g := by simpa [Value.ownBlock] using he
   subst this;unfold HB at hb;rw [hb] at hh
   injection hh with hh
   injection hh with _ hh
   exact ht hh.symm
end Go.Proofs.Ytmbckkcgiafagaa
namespace Go.Proofs.Ytmbckkcgiafagaa.lJoinModels
open Go.RowKit
open Go.Proofs.Ytmbckkcgiafagaa.lSplitModel (own_mod)
end Go.Proofs.Ytmbckkcgiafagaa.lJoinModels
namespace Go.Proofs.Ytmbckkcgiafagaa
open Go.RowKit
theorem box4 {w W0 : World} {A B C D : Array Value} {ta tb tc td : TypeId} (h : W0 = (((w.alloc (.cells A ta)).alloc (.cells B tb)).alloc (.cells C tc)).alloc (.cells D td)) : Ext w W0 ∧ W0.heap.size = w.heap.size + 4 ∧ HB W0 w.heap.size A ta ∧ HB W0 (w.heap.size + 1) B tb ∧ HB W0 (w.heap.size + 1 + 1) C tc ∧ HB W0 (w.heap.size + 1 + 1 + 1) D td := by
 subst h;obtain ⟨h1,h2,h3,h4,h5⟩ := box3 (w := w) (A := A) (B := B) (C := C) (ta := ta) (tb := tb) (tc := tc) rfl;have e3 := Ext.alloc (((w.alloc (.cells A ta)).alloc (.cells B tb)).alloc (.cells C tc)) (.cells D td);have k3 : HB _ _ _ _ := h3;have k4 : HB _ _ _ _ := h4;have k5 : HB _ _ _ _ := h5;refine ⟨h1.trans e3,by simp,k3.ext e3,k4.ext e3,k5.ext e3,?_⟩;have hs : (((w.alloc (.cells A ta)).alloc (.cells B tb)).alloc (.cells C tc)).heap.size = w.heap.size + 1 + 1 + 1 := by simp
 have h := HB.new (((w.alloc (.cells A ta)).alloc (.cells B tb)).alloc (.cells C tc)) D td;rw [hs] at h;exact h
theorem drop_take_part {A : Type} (xs : List A) (o a : Nat) : ((xs.drop o).take a) = (xs.take (o + a)).drop o := by
 rw [List.drop_take];congr 1;omega
theorem Chg.cut {S S' : Nat → Prop} {w w' : World} (h : Chg S' w w') (hs : ∀ b,S' b → S b ∨ w.heap.size ≤ b) : Chg S w w' :=
 ⟨h.os,h.tape,h.output,h.size,fun k hk hn => h.block k hk fun h' => by
  rcases hs k h' with h1 | h1
  · exact hn h1
  · omega⟩
theorem GrowOwn.snocW {S : Nat → Prop} {w0 w w' : World} {B : Nat} {te : TypeId} {E : Sh} {v : Value} {l : List E.T} {css : List (List Value)} {bss : List (List Nat)} (h : GrowOwn w0 B te E v l css bss) (hx : Chg S w0 w) (hS : ∀ b,S b → b < B) {cs : List Value} {d : E.T} {bs : List Nat}
 (ho : Own w E cs d bs) (hn : bs.Nodup) (hf : ∀ b ∈ bs,w0.heap.size ≤ b) (hB : B ≤ w0.heap.size) {g c n : Nat} (hln : l.length = n) (hr : w'.ownsRow B te E.sz (.slice (some ⟨g,0,none⟩) (n + 1) c) (n + 1) (css.flatten ++ cs)) (hg : w.grownBy w' v.ownBlock) (hw : v.ownBlock = some g ∨ w.heap.size ≤ g) :
 GrowOwn w' B te E (.slice (some ⟨g,0,none⟩) (n + 1) c) (l ++ [d]) (css ++ [cs]) (bss ++ [bs]) := by
 subst hln;have lt0 := h.els.lt;have hv : ∀ k,v.ownBlock = some k → k < w0.heap.size := own_lt h.row;have hsz := hx.size;have ch : Chg (fun k => some k = v.ownBlock) w w' := Chg.of_grown hg;have hlo := h.lo;refine ⟨by simpa [List.flatten_append] using hr,?_,?_,?_⟩
 · refine OwnEs.snoc ((h.els.chg hx (fun b hb hs => by have := (hlo b hb).1;have := hS b hs;omega)).chg ch (fun b hb hk => (hlo b hb).2 hk.symm)) (ho.chg ch fun b hb hk => ?_)
   have := hv b hk.symm;have := hf b hb;omega
 · rw [List.flatten_append,List.flatten_cons,List.flatten_nil,List.append_nil]
   exact nodup_app h.nodup hn lt0 hf
 · intro b hb
   rw [List.flatten_append,List.flatten_cons,List.flatten_nil,List.append_nil,List.mem_append] at hb
   have hlb : b < w.heap.size := by
    rcases hb with hb | hb
    · have := lt0 b hb;omega
    · exact ho.lt b hb
   refine ⟨?_,fun hk => ?_⟩
   · rcases hb with hb | hb
     · exact (hlo b hb).1
     · have := hf b hb;omega
   · simp [Value.ownBlock] at hk;subst hk
     rcases hw with hw | hw
     · rcases hb with hb | hb
       · exact (hlo _ hb).2 hw
       · have := hv _ hw;have := hf _ hb;omega
     · omega
theorem takeP_any (b3 m kv a : Nat) (pv : Option Addr) (us : List Value) (xs : List Nat) (w : World) (hb : HB w b3 #[.slice pv m kv] 25) (ha : a ≤ m) (hk : m ≤ kv) (hm : m ≤ 1073741824) (hx : xs.length = m) (hc : Cs w pv us) (hf : F32s us xs) :
 Calls Try.prog 103 #[.int .i64 (a : Int),.pointer (some ⟨b3,0,none⟩)] w fun e w' => ∃ q k,e = .returned (.slice q a k) ∧ ∃ bs w2,Own w2 (.sl .flt) [.slice q a k] (xs.take a) bs ∧ bs.Nodup ∧ (∀ b ∈ bs,w.heap.size ≤ b) ∧ Tys w2 [33] bs ∧ Ext w w2 ∧ HB w' b3 #[.slice (subp pv 1 a kv) (m - a) (kv - a)] 25 ∧ Chg (fun b => b = b3) w2 w' := by
 have hsub := hc.sub (s := 1) (l := 0) (hi := a) (c := kv) (Nat.zero_le _) (by omega);have hfs := hf.part 0 a;simp only [Nat.mul_one] at hsub;have C := hid (fun W (h : Ext w W) => cloneF_any (subp pv 1 0 kv) (a - 0) (kv - 0) _ ((xs.take a).drop 0) W (by rw [List.length_drop,List.length_take];omega) (by omega) (by omega) (hsub.ext h) hfs);have HD := hid (show ((xs.take a).drop 0) = xs.take a by simp);have hl : Hid ((xs.take a).length = a) := hid (by rw [List.length_take];omega);have y0 := hb.cell 0 rfl;clear hc hf hsub hfs;go_enter Try.func103,Try.ntmps103;go_wp2_with (first | ((with_reducible show wpList _ _ _ (Oper.mk _ (Op.slice _ _ _ _ _) _ _ _ _ :: _) _ _);refine wl_sliceTo (u := a) rfl rfl rfl rfl rfl (by omega) ?_) | fail);refine (C.out w (Ext.refl _)).mono ?_;intro e w2 h2;rw [HD.out] at h2;obtain ⟨q,k,bs,rfl,o2,nd2,lo2,e2,t2⟩ := retFl_thing3 hl.out h2;have b2 := hb.ext e2;have y2 := b2.cell 0 rfl;have O2 := hid o2;have N2 := hid nd2;have L2 := hid lo2;have T2 := hid t2;clear h2 o2 nd2 lo2 t2 y0 C;go_wp2_with (first | ((with_reducible show wpList _ _ _ (Oper.mk _ (Op.slice _ _ _ _ _) _ _ _ _ :: _) _ _);refine wl_sliceFrom (l := a) rfl rfl rfl rfl rfl (by omega) (by omega) ?_) | ((with_reducible show gx11);refine jbb (j := 0) rfl rfl b2 rfl rfl rfl rfl ?_;intro w3 b3' ch3) | fail);go_ret;exact ⟨q,k,rfl,bs,w2,O2.out,N2.out,L2.out,T2.out,e2,b3',ch3⟩
theorem withParams_any (p pl : Option Addr) (n c nl cl : Nat) (css : List (List Value)) (L : List jaa.T) (us : List Value) (xs : List Nat) (w : World) (hL : Lays w p n css L) (hS : Small L)
 (hx : xs.length = nl) (hxl : nl = (parF L).length) (hcl : nl ≤ cl) (hp0 : Cs w pl us) (hf : F32s us xs) :
 Calls Try.prog 62 #[.agg #[.slice p n c],.slice pl nl cl] w fun e w' => ∃ q k,e = .returned (.agg #[.slice q n k]) ∧ IsOwnY [41,33] w.heap.size (.sl jaa) w' [.slice q n k] (wthF L xs n) ∧ Ext w w' := by
 have hn : n ≤ 12 := by have := hS.1;rw [hL.len] at this;exact this
 have ho := small_off hS;rw [← hxl] at ho;have HO := hid (fun i => off_le L i);rw [← hxl] at HO;have HS := hid hS.2;have HL := hid hL.len;have HX := hid hx;have l1 := hL.cs;have l2 := hL.all;have l3 := hL.size;have l5 := hid hL.cnt;obtain ⟨W0,hW0⟩ : ∃ W0,W0 = (((w.alloc (.cells #[.slice p n c] 38)).alloc (.cells #[.slice pl nl cl] 25)).alloc (.cells #[.slice none 0 0] 38)).alloc (.cells #[.slice none 0 0] 38) := ⟨_,rfl⟩;obtain ⟨E0,s0,b0,b1,b2,b3⟩ := box4 hW0;have b0 : HB W0 w.heap.size #[.slice p n c] 38 := b0;have b1 : HB W0 (w.heap.size + 1) #[.slice pl nl cl] 25 := b1;have b2 : HB W0 (w.heap.size + 1 + 1) #[.slice none 0 0] 38 := b2;have b3 : HB W0 (w.heap.size + 1 + 1 + 1) #[.slice none 0 0] 38 := b3;have hE0s := E0.size;clear hL hS hxl hx;go_enter Try.func62,Try.ntmps62;go_wp2_with fail;rw [← hW0];have hst : W0.ownsRow W0.heap.size 41 jaa.sz (.slice none 0 0) 0 [] := ⟨rfl,.inl ⟨rfl,rfl⟩⟩;have hB3 := b3.lt;clear hW0 b0;obtain ⟨N0,hN0⟩ : ∃ N0,N0 = W0.heap.size := ⟨_,rfl⟩;rw [← hN0] at hst hB3 hE0s s0;have HN0 := hid hN0;have HS0 := hid s0;clear s0;go_loopw [14] (fun iv wr => ∃ (i k kv : Nat) (q pv : Option Addr) (cs : List (List Value)) (bss : List (List Nat)),i ≤ n ∧ iv = .int .i64 i ∧ HB wr (w.heap.size + 1) #[.slice pv (nl - off L i) kv] 25 ∧ Hid (Cs w pv (us.drop (off L i))) ∧ nl - off L i ≤ kv ∧ HB wr (w.heap.size + 1 + 1 + 1) #[.slice q i k] 38 ∧ HB wr (w.heap.size + 1 + 1) #[.slice none 0 0] 38 ∧ Hid (GrowOwn wr N0 41 jaa (.slice q i k) (wthF L xs i) cs bss) ∧ Hid (Tys wr [33] bss.flatten) ∧ Ext w wr ∧ N0 ≤ wr.heap.size) (fun iv _ => n - (intOf iv).toNat)
 case atStart => exact ⟨0,0,cl,none,pl,[],[],by omega,rfl,b1,hid hp0,hcl,b3,b2,hid (GrowOwn.empty hst),hid (fun b hb => by simp at hb),E0,by omega⟩
 case round =>
  clear b3 b1 b2 hst E0 hE0s hN0;obtain ⟨i,k,kv,q,pv,cs,bss,hi,rfl,B1,HP,hkv,B3,B2,HG,HT,he,hsz⟩ := hrel
  by_cases hlt : i < n
  · have hil : i < L.length := by rw [HL.out];exact hlt
    obtain ⟨ci,hci,ri⟩ := l2.get i L[i] (by simp);have hs1 : p.isSome = true := l1.some_of l3 (by decide) (show 0 < css.length by rw [l5.out];omega);have hp := l1.ext he;have one := ri.one;obtain ⟨hw1,hw2⟩ := HS.out L[i] (by simp);obtain ⟨pw,cw,pb,cb,uw,ub,rfl,_,_⟩ := lay_full ri;have hgt : L[i]? = some L[i] := by simp
    have HD := hid (wthF_succ (xs := xs) hgt);have HE := hid (off_succ hgt);have hlen := wthF_len (L := L) (xs := xs) (i := i) (by omega);have HLn := hid hlen;have hoff := HO.out (i + 1);rw [HE.out] at hoff;generalize off L i = o at *;have hwl : wLay L[i] xs o = (L[i].1,L[i].2.1,L[i].2.2.1,(xs.take (o + (L[i].2.2.2.1 : List Nat).length)).drop o,(xs.take (o + (L[i].2.2.2.1 : List Nat).length + (L[i].2.2.2.2.1 : List Nat).length)).drop (o + (L[i].2.2.2.1 : List Nat).length),()) := rfl;rw [hwl] at HD;generalize L[i] = d at *;obtain ⟨d1,d2,d3,ws,bs,du⟩ := d;dsimp only at hci one HD hw1 hw2 HE hoff;generalize hlw0 : ws.length = lw at *;generalize hlb0 : bs.length = lb at *;obtain ⟨m,hm⟩ : ∃ m,m = nl - o := ⟨_,rfl⟩;rw [← hm] at B1 hkv;have hxl : (xs.drop o).length = m := by rw [List.length_drop,HX.out,hm]
    have hfd : F32s (us.drop o) (xs.drop o) := by
     have h := hf.part o nl;rw [List.take_of_length_le (by rw [hf.1,HX.out];exact Nat.le_refl _),List.take_of_length_le (by rw [HX.out];exact Nat.le_refl _)] at h;exact h
    have hp1 : (xs.drop o).take lw = (xs.take (o + lw)).drop o := drop_take_part xs o lw;have hp2 : ((xs.drop o).drop lw).take lb = (xs.take (o + lw + lb)).drop (o + lw) := by rw [List.drop_drop];exact drop_take_part xs (o + lw) lb
    have C1 := hid (fun W (hb : HB W (w.heap.size + 1) #[.slice pv m kv] 25) (h : Ext w W) => takeP_any (w.heap.size + 1) m kv lw pv (us.drop o) (xs.drop o) W hb (by omega) hkv (by omega) hxl (HP.out.ext h) hfd);have hul : (us.drop o).length = m := by rw [hfd.1,hxl]
    have HP2 : Hid (Cs w (subp pv 1 lw kv) ((us.drop o).drop lw)) := hid (by
     have h := HP.out.sub (s := 1) (l := lw) (hi := m) (c := kv) (by omega) (by omega);simp only [Nat.mul_one] at h;rw [List.take_of_length_le (by omega)] at h;exact h)
    have hfd2 : F32s ((us.drop o).drop lw) ((xs.drop o).drop lw) := by
     have h := hfd.part lw m;rw [List.take_of_length_le (by omega),List.take_of_length_le (by omega)] at h;exact h
    have HP3 : Hid (Cs w (subp (subp pv 1 lw kv) 1 lb (kv - lw)) (((us.drop o).drop lw).drop lb)) := hid (by
     have h := HP2.out.sub (s := 1) (l := lb) (hi := m - lw) (c := kv - lw) (by omega) (by omega);simp only [Nat.mul_one] at h;rw [List.take_of_length_le (by rw [List.length_drop];omega)] at h;exact h)
    have C2 := hid (fun W (hb : HB W (w.heap.size + 1) #[.slice (subp pv 1 lw kv) (m - lw) (kv - lw)] 25) (h : Ext w W) => takeP_any (w.heap.size + 1) (m - lw) (kv - lw) lb (subp pv 1 lw kv) ((us.drop o).drop lw) ((xs.drop o).drop lw) W hb (by omega) (by omega) (by omega) (by rw [List.length_drop];omega) (HP2.out.ext h) hfd2);rw [hp1] at C1;rw [hp2] at C2;generalize (xs.take (o + lw)).drop o = ys at *;generalize (xs.take (o + lw + lb)).drop (o + lw) = zs at *;have HM := hid (show m - lw - lb = nl - off L (i + 1) by rw [HE.out,hm];omega);have HU := hid (show ((us.drop o).drop lw).drop lb = us.drop (off L (i + 1)) by rw [List.drop_drop,List.drop_drop,HE.out]);have hkv2 : nl - off L (i + 1) ≤ kv - lw - lb := by rw [← HM.out];omega
    have b5 := HB.new wr #[.int .i64 d1,.int .i64 d2,.int .i64 d3,.slice pw lw cw,.slice pb lb cb] 41;obtain ⟨W1,hW1⟩ : ∃ W1,W1 = wr.alloc (.cells #[.int .i64 d1,.int .i64 d2,.int .i64 d3,.slice pw lw cw,.slice pb lb cb] 41) := ⟨_,rfl⟩;have E1 : Ext wr W1 := by rw [hW1];exact Ext.alloc _ _
    rw [← hW1] at b5;have hB1l := B1.lt;have hB3l := B3.lt;have hb5l := b5.lt;have hE1z := E1.size;have hS0 := HS0.out;have hN0' : N0 = w.heap.size + 4 := by omega
    clear hm hxl hwl ri hlen hlw0 hlb0 hp1 hp2 hfd hfd2 hul hS0;go_wp2_with (first | ((with_reducible show gx2);refine ja9 (s := jaa) (j := i) rfl rfl rfl rfl (fun _ => rfl) rfl rfl rfl hp l3 l5.out hlt hs1 hci ?_;simp only [ofCs,Sh.agg,if_true]) | fail);rw [← hW1];clear hW1;refine (C1.out _ (B1.ext E1) (he.trans E1)).mono ?_;rintro e w3 ⟨q3,kA,rfl,bw,w2,ow,ndw,low,tw,e2,B13,ch2⟩
    have hz2 := e2.size;have hz3 := ch2.size;have c3 : Chg (fun b => b = w.heap.size + 1 ∨ b = wr.heap.size) wr w3 := (Chg.of_ext (E1.trans e2)).trans (ch2.mono (fun b hb => .inl hb));have E3 : Ext w w3 := ((he.trans E1).trans e2).chg ch2 (fun b hb => by have hb : b = _ := hb;omega);have hlw2 := ow.lt;have ow3 := ow.chg ch2 (fun b hb h => by have h : b = _ := h;have := low b hb;omega);have tw3 := tw.chg ch2 (fun b hb h => by have h : b = _ := h;have := low b hb;omega);have b6 := (b5.ext e2).chg ch2 (fun h => by have h : wr.heap.size = _ := h;omega);have m3 : w3.cell? ⟨wr.heap.size,3,none⟩ = some (.slice pw lw cw) := b6.cell 3 rfl;clear b5 ow tw;go_wp2_with (first | ((with_reducible show gx11);refine jbb (j := 3) rfl rfl b6 rfl rfl rfl rfl ?_;intro w4 b7 ch3;have m4 : w4.cell? ⟨wr.heap.size,4,none⟩ = some (.slice pb lb cb) := b7.cell 4 rfl) | fail);have hz4 := ch3.size;have c4 := c3.trans (ch3.mono (fun b hb => .inr hb));have E4 : Ext w w4 := E3.chg ch3 (fun b hb => by have hb : b = _ := hb;omega);have B14 := B13.chg ch3 (fun h => by have h : w.heap.size + 1 = _ := h;omega);refine (C2.out _ B14 E4).mono ?_;rintro e w6 ⟨q6,k6,rfl,bb,w5,ob,ndb,lob,tb,e5,B16,ch5⟩
    have hz5 := e5.size;have hz6 := ch5.size;have c6 := c4.trans ((Chg.of_ext e5).trans (ch5.mono (fun b hb => .inl hb)));have E6 : Ext w w6 := (E4.trans e5).chg ch5 (fun b hb => by have hb : b = _ := hb;omega);have b8 := (b7.ext e5).chg ch5 (fun h => by have h : wr.heap.size = _ := h;omega);have ow6 := ((ow3.chg ch3 (fun b hb h => by have h : b = _ := h;have := low b hb;omega)).ext e5).chg ch5 (fun b hb h => by have h : b = _ := h;have := low b hb;omega);have tw6 := ((tw3.chg ch3 (fun b hb h => by have h : b = _ := h;have := low b hb;omega)).ext e5).chg ch5 (fun b hb h => by have h : b = _ := h;have := low b hb;omega);have ob6 := ob.chg ch5 (fun b hb h => by have h : b = _ := h;have := lob b hb;omega);have tb6 := tb.chg ch5 (fun b hb h => by have h : b = _ := h;have := lob b hb;omega);have hlwA := ow6.lt;have hlwT : ∀ x ∈ bw,x < w4.heap.size := fun x hx => by have h := hlw2 x hx;omega
    clear b7 b6 ow3 tw3 ob tb B14 B13;have hrow := HG.out.row;rw [HLn.out] at hrow;go_wp2_with (first | ((with_reducible show gx11);refine jbb (j := 4) rfl rfl b8 rfl rfl rfl rfl ?_;intro w7 b9 ch7;have hz7 := ch7.size;have c7 : Chg (fun b => b = w.heap.size + 1) wr w7 := (c6.trans (ch7.mono (fun b hb => .inr hb))).cut (fun b hb => by rcases hb with hb | hb;exact .inl hb;exact .inr (by omega));have B37 := B3.chg c7 (fun h => by have h : _ = w.heap.size + 1 := h;omega);have hrow7 := jav hrow c7 (fun b hb => by have hb : b = _ := hb;omega);have k0 : w7.cell? ⟨wr.heap.size,0,none⟩ = some (.int .i64 d1) := b9.cell 0 rfl;have k1 : w7.cell? ⟨wr.heap.size,1,none⟩ = some (.int .i64 d2) := b9.cell 1 rfl;have k2 : w7.cell? ⟨wr.heap.size,2,none⟩ = some (.int .i64 d3) := b9.cell 2 rfl;have k3 : w7.cell? ⟨wr.heap.size,3,none⟩ = some (.slice q3 lw kA) := b9.cell 3 rfl;have k4 : w7.cell? ⟨wr.heap.size,4,none⟩ = some (.slice q6 lb k6) := b9.cell 4 rfl;have g5 := B37.cell 0 rfl) | ((with_reducible show gx9);refine ja3 (u := .agg #[.int .i64 d1,.int .i64 d2,.int .i64 d3,.slice q3 lw kA,.slice q6 lb k6]) rfl rfl rfl rfl rfl (by rfl) (by rfl) (fun _ => rfl) (fun _ => rfl) hrow7 (by unfold maxLen;omega) (by omega) (by omega) ?_;intro g9 c9 w9 own9 gr9 hw9;have hg9 : HB w9 (w.heap.size + 1 + 1 + 1) #[.slice q i k] 38 := B37.chg (.of_grown gr9) (fun h => by have := jaf hrow7 _ h.symm;omega)) | ((with_reducible show gx11);refine jbb (j := 0) rfl rfl hg9 rfl rfl rfl rfl ?_;intro w10 b10 ch10) | fail);go_roundw
    case rel =>
     have hz10 := ch10.size;have hz9 := gr9.size;have hlo2 := HG.out.lo;have ow7 := ow6.chg ch7 (fun b hb h => by have h : b = _ := h;have := low b hb;omega);have tw7 := tw6.chg ch7 (fun b hb h => by have h : b = _ := h;have := low b hb;omega);have ob7 := ob6.chg ch7 (fun b hb h => by have h : b = _ := h;have := lob b hb;omega);have tb7 := tb6.chg ch7 (fun b hb h => by have h : b = _ := h;have := lob b hb;omega)
     have T9 : Tys w10 [33] (bss ++ [bw ++ bb]).flatten := by
      have hh : (bss ++ [bw ++ bb]).flatten = bss.flatten ++ (bw ++ bb) := by simp
      rw [hh];refine ((((HT.out.chg c7 (fun b hb h => by have h : b = _ := h;have := (hlo2 b hb).1;omega)).app (tw7.app tb7)).chg (.of_grown gr9) (fun b hb h => ?_)).chg ch10 (fun b hb h => ?_))
      · rcases List.mem_append.1 hb with hb | hb
        · exact (hlo2 b hb).2 h.symm
        · have hlt2 := own_lt hrow b h.symm
          rcases List.mem_append.1 hb with hb | hb
          · have := low b hb;omega
          · have := lob b hb;omega
      · have h : b = _ := h
        rcases List.mem_append.1 hb with hb | hb
        · have := (hlo2 b hb).1;omega
        · rcases List.mem_append.1 hb with hb | hb
          · have := low b hb;omega
          · have := lob b hb;omega
     have H9 := HG.out.snocW c7 (fun b hb => by have hb : b = _ := hb;omega) (own_lay (d := (d1,d2,d3,ys,zs,())) ow7 ob7) (nodup_app ndw ndb (fun x hx => by have := hlwT x hx;omega) (fun x hx => lob x hx)) (fun b hb => by
      rcases List.mem_append.1 hb with h | h
      · have := low b h;omega
      · have := lob b h;omega) hsz (n := i) HLn.out own9 gr9 (by rcases hw9 with h | h;exact .inl h;exact .inr (by omega))
     rw [← HD.out] at H9;have B17 := ((B16.chg ch7 (fun h => by have h : w.heap.size + 1 = _ := h;omega)).chg (.of_grown gr9) (fun h => by have := jaf hrow7 _ h.symm;omega)).chg ch10 (fun h => by have h : w.heap.size + 1 = _ := h;omega);rw [HM.out] at B17;have B27 := ((B2.chg c7 (fun h => by have h : _ = w.heap.size + 1 := h;omega)).chg (.of_grown gr9) (fun h => by have := jaf hrow7 _ h.symm;omega)).chg ch10 (fun h => by have h : w.heap.size + 1 + 1 = _ := h;omega);have HP4 := HP3.out;rw [HU.out] at HP4;exact ⟨i + 1,c9,_,some ⟨g9,0,none⟩,_,_,_,by omega,by go_num,B17,hid HP4,hkv2,b10,B27,hid (H9.chgB ch10 (fun b hb => by have hb : b = _ := hb;omega)),hid T9,((E6.chg ch7 (fun b hb => by have hb : b = _ := hb;omega)).grown gr9 (fun kk hk => by have := jaf hrow7 kk hk;omega)).chg ch10 (fun b hb => by have hb : b = _ := hb;omega),by omega⟩
    case measure => simp [intOf];omega
  · obtain rfl : i = n := by omega
    have HG3 := hid (HG.out.ownY (ts := [41,33]) (HT.out.mono (by simp)) (by simp));have g2 : wr.cell? ⟨w.heap.size + 1 + 1 + 1,0,none⟩ = some (.slice q i k) := B3.cell 0 rfl;have g1 : wr.cell? ⟨w.heap.size + 1 + 1,0,none⟩ = some (.slice none 0 0) := B2.cell 0 rfl;have g3 := B2.froz 0;have hS0 := HS0.out;clear HG;go_wp2;refine bodyPost_ret (v := .agg #[.slice q i k]) (by simp [results,Try.results62,go_sem,g1,g3]) rfl ?_;have ch := jae wr (w.heap.size + 1 + 1) 0 (.slice q i k);exact ⟨q,k,rfl,(IsOwnY.chg HG3.out ch (fun b hb => by omega)).base (by omega),he.chg ch (fun b hb => by omega)⟩
theorem lay_own {w : World} {ce : List Value} {d : jaa.T} {be : List Nat} (h : Own w jaa ce d be) : ∃ (pw pb : Option Addr) (cw cb : Nat) (us vs : List Value),ce = [.int .i64 d.1,.int .i64 d.2.1,.int .i64 d.2.2.1,.slice pw (d.2.2.2.1 : List Nat).length cw,.slice pb (d.2.2.2.2.1 : List Nat).length cb] ∧
 (jbd w pw (d.2.2.2.1 : List Nat).length cw us ∧ F32s us d.2.2.2.1 ∧ (d.2.2.2.1 : List Nat).length ≤ cw ∧ cw ≤ maxLen) ∧ (jbd w pb (d.2.2.2.2.1 : List Nat).length cb vs ∧ F32s vs d.2.2.2.2.1 ∧ (d.2.2.2.2.1 : List Nat).length ≤ cb ∧ cb ≤ maxLen) ∧ be = jac pw ++ jac pb := by
 obtain ⟨a1,a2,a3,a4,a5,au⟩ := d;obtain ⟨_,_,_,_,rfl,⟨rfl,rfl⟩,⟨_,_,_,_,rfl,⟨rfl,rfl⟩,⟨_,_,_,_,rfl,⟨rfl,rfl⟩,⟨_,_,_,_,rfl,h4,⟨_,_,_,_,rfl,h5,⟨rfl,rfl⟩,rfl⟩,rfl⟩,rfl⟩,rfl⟩,rfl⟩ := h;obtain ⟨p4,c4,us,rfl,o4,f4,l4,m4,rfl⟩ := jbi.1 h4;obtain ⟨p5,c5,vs,rfl,o5,f5,l5,m5,rfl⟩ := jbi.1 h5;exact ⟨p4,p5,c4,c5,us,vs,rfl,⟨o4,f4,l4,m4⟩,⟨o5,f5,l5,m5⟩,by simp⟩
theorem full_row {w : World} {B n c : Nat} {p : Option Addr} {vs : List Value} (h : jbd w p n c vs) (hl : vs.length = n) (hF : Full B w (.slice p n c)) (hn : n ≤ c) (hc : c ≤ maxLen) : w.ownsRow B 33 1 (.slice p n c) n vs := by
 refine ⟨by omega,?_⟩;rcases h with ⟨rfl,rfl,rfl,_⟩ | ⟨g,cur,e,rfl,hg,ht⟩
 · exact .inl ⟨rfl,rfl⟩
 · obtain ⟨hB,Z,m,h1,h2⟩ := hF g n c rfl
   rw [hg] at h1
   cases h1
   exact .inr ⟨g,c,cur,rfl,hB,hg,hn,hc,by omega,by rw [Nat.mul_one,← hl];exact ht⟩
theorem own_twoT {w : World} {B B' te t' s s' n n' : Nat} {v v' : Value} {xs ys : List Value} (h : w.ownsRow B te s v n xs) (k : w.ownsRow B' t' s' v' n' ys) (ht : te ≠ t') : ∀ b,v.ownBlock = some b → v'.ownBlock ≠ some b := by
 intro b hb hb';rcases h.2 with ⟨rfl,_⟩ | ⟨g,cap,cur,rfl,_,hh,_⟩
 · simp [Value.ownBlock] at hb
 · rcases k.2 with ⟨rfl,_⟩ | ⟨g',cap',cur',rfl,_,hh',_⟩
   · simp [Value.ownBlock] at hb'
   · simp [Value.ownBlock] at hb hb'
     subst hb;subst hb';rw [hh] at hh'
     cases hh'
     exact ht rfl
theorem rep_upd3 {w : World} {a b o : Int} {pw pb : Option Addr} {cw cb nw nb : Nat} {ws bs : List Nat} (e1 : ws.length = nw) (e2 : bs.length = nb) (hw : Rep w (.sl .flt) [.slice pw nw cw] ws) (hb : Rep w (.sl .flt) [.slice pb nb cb] bs) :
 Rep w jaa [.int .i64 a,.int .i64 b,.int .i64 o,.slice pw nw cw,.slice pb nb cb] (a,b,o,ws,bs,()) := by
 subst e1;subst e2;exact ⟨[.int .i64 a],_,rfl,rfl,⟨[.int .i64 b],_,rfl,rfl,⟨[.int .i64 o],_,rfl,rfl,⟨[.slice pw ws.length cw],[.slice pb bs.length cb],rfl,hw,⟨[.slice pb bs.length cb],[],rfl,hb,rfl⟩⟩⟩⟩⟩
theorem rep_fl {w : World} {B n c : Nat} {q : Option Addr} {us : List Value} {xs : List Nat} (hl : xs.length = n) (h : w.ownsRow B 33 1 (.slice q n c) n us) (hf : F32s us xs) : Rep w (.sl .flt) [.slice q n c] xs := by
 subst hl;exact ja8.2 ⟨q,c,us,rfl,own_Cs h,hf,(jay h).1,(jay h).2⟩
theorem rep_setEl {S : Nat → Prop} {w w' : World} {B n c g y : Nat} {L : List jaa.T} {css : List (List Value)} {bss : List (List Nat)} {ce' : List Value} {d' : jaa.T} {be : List Nat} (row : w'.ownsRow B 41 5 (.slice (some ⟨g,0,none⟩) n c) n (css.set y ce').flatten) (hn : L.length = n) (E : OwnEs w jaa css bss L) (nd : bss.flatten.Nodup) (k : Chg S w w') (hbe : bss[y]? = some be)
 (hS : ∀ b ∈ bss.flatten,S b → b ∈ be) (hy : Rep w' jaa ce' d') : Rep w' (.sl jaa) [.slice (some ⟨g,0,none⟩) n c] (L.set y d') := by
 refine ⟨some ⟨g,0,none⟩,c,css.set y ce',by rw [List.length_set,hn],own_Cs row,by rw [List.length_set,hn];exact (jay row).1,(jay row).2,All2.of_get (by rw [List.length_set,List.length_set,E.1]) fun i x d hx hd => ?_⟩
 by_cases hi : y = i
 · subst hi
   have h1 : y < css.length := by have := (List.getElem?_eq_some_iff.1 hx).1;rwa [List.length_set] at this
   have h2 : y < L.length := by rw [← E.1];exact h1
   rw [List.getElem?_set_self h1] at hx;rw [List.getElem?_set_self h2] at hd
   cases hx;cases hd
   exact hy
 · rw [List.getElem?_set_ne hi] at hx hd
   have h2 : i < bss.length := by rw [E.2.1,← E.1];exact (List.getElem?_eq_some_iff.1 hx).1
   have hb := List.getElem?_eq_getElem h2;exact ((E.2.2 i x _ d hx hb hd).chg k fun b hm hs => flat_apart nd hb hbe hi b (hS b (List.mem_flatten.2 ⟨_,List.mem_of_getElem? hb,hm⟩) hs) hm).rep
theorem layD_more {d : jaa.T} (h : layD d = true) : (∀ x : Nat,layD (d.1,d.2.1,d.2.2.1,d.2.2.2.1 ++ [x],d.2.2.2.2.1,()) = false) ∧ ∀ x : Nat,layD (d.1,d.2.1,d.2.2.1,d.2.2.2.1,d.2.2.2.2.1 ++ [x],()) = false := by
 have h' : layB d.1 d.2.1 d.2.2.1 (d.2.2.2.1 : List Nat).length (d.2.2.2.2.1 : List Nat).length = true := h;unfold layB at h';simp only [Bool.and_eq_true,decide_eq_true_eq,jaz,Bool.or_eq_true] at h';obtain ⟨_,_,_,_,h5,h6⟩ := h'
 constructor <;> intro x
 · cases hh : layD (d.1,d.2.1,d.2.2.1,d.2.2.2.1 ++ [x],d.2.2.2.2.1,()) with
   | false => rfl
   | true =>
     have hh : layB d.1 d.2.1 d.2.2.1 (d.2.2.2.1 ++ [x]).length (d.2.2.2.2.1 : List Nat).length = true := hh;unfold layB at hh;simp only [Bool.and_eq_true,decide_eq_true_eq,jaz,Bool.or_eq_true,List.length_append,List.length_singleton] at hh;omega
 · cases hh : layD (d.1,d.2.1,d.2.2.1,d.2.2.2.1,d.2.2.2.2.1 ++ [x],()) with
   | false => rfl
   | true =>
     have hh : layB d.1 d.2.1 d.2.2.1 (d.2.2.2.1 : List Nat).length (d.2.2.2.2.1 ++ [x]).length = true := hh;unfold layB at hh;simp only [Bool.and_eq_true,decide_eq_true_eq,jaz,Bool.or_eq_true,List.length_append,List.length_singleton] at hh;omega
theorem AnyMod.bad {sb K n : Nat} {w w' : World} {e : Ending} {L : List jaa.T} {q : Option Addr} {c : Nat} (he : e = .returned (.agg #[.slice q n c])) (hn : L.length = n) (hf : Fit (.sl jaa) L) (hr : ∀ W,Chg (fun b => b < w.heap.size) w' W → Rep W (.sl jaa) [.slice q n c] L) (hb : modB L = false) (hd : DrAt w' sb K) (hc : Chg (fun b => b = sb) w w') : AnyMod sb K w e w' := by
 subst hn;exact ⟨L,q,c,he,hf,hr,fun h => absurd (hb.symm.trans h) (by decide),hd,hc⟩
theorem own_notT {w : World} {B te s n : Nat} {v : Value} {xs : List Value} {bl : List Nat} (h : w.ownsRow B te s v n xs) (T : Tys w [33] bl) (ht : te ≠ 33) : ∀ b,v.ownBlock = some b → b ∉ bl := by
 intro b hb hm;obtain ⟨Z,t,m,h1,h2⟩ := T b hm;have h1 := List.mem_singleton.1 h1;rcases h.2 with ⟨rfl,_⟩ | ⟨g,cap,cur,rfl,_,hh,_⟩
 · simp [Value.ownBlock] at hb
 · simp [Value.ownBlock] at hb
   subst hb;rw [hh] at h2
   cases h2
   exact ht h1
theorem rep_all {w : World} {L : List jaa.T} {css : List (List Value)} {bss : List (List Nat)} {ce0 : List Value} {d0 : jaa.T} {be0 : List Nat} (E : OwnEs w jaa css bss L) (hc : css[0]? = some ce0) (hb : bss[0]? = some be0) (hd : L[0]? = some d0) (j : Nat) : All2 (Rep w jaa) (css ++ List.replicate j ce0) (L ++ List.replicate j d0) := by
 refine All2.of_get (by simp [E.1]) fun i x d hx hd' => ?_
 by_cases hi : i < css.length
 · rw [List.getElem?_append_left hi] at hx
   rw [List.getElem?_append_left (by rw [← E.1];exact hi)] at hd';have h2 : i < bss.length := by rw [E.2.1,← E.1];exact hi
   exact (E.2.2 i x _ d hx (List.getElem?_eq_getElem h2) hd').rep
 · rw [List.getElem?_append_right (by omega)] at hx
   rw [List.getElem?_append_right (by rw [← E.1];omega)] at hd';have e1 := List.mem_replicate.1 (List.mem_of_getElem? hx);have e2 := List.mem_replicate.1 (List.mem_of_getElem? hd');rw [e1.2,e2.2];exact (E.2.2 0 _ _ _ hc hb hd).rep
theorem repl_flat (css : List (List Value)) (ce : List Value) (j : Nat) : (css ++ List.replicate j ce).flatten ++ ce = (css ++ List.replicate (j + 1) ce).flatten := by
 rw [List.replicate_succ',← List.append_assoc,List.flatten_append (L₁ := css ++ List.replicate j ce)];simp
theorem F32s.setV {us : List Value} {xs : List Nat} {i b v : Nat} (h : F32s us xs) (hb : cn .f32 b = v) : F32s (us.set i (.float .f32 b)) (xs.set i v) := by
 refine ⟨by rw [List.length_set,List.length_set,h.1],fun j hj => ?_⟩;rw [List.length_set] at hj;obtain ⟨c,h1,h2⟩ := h.2 j hj
 by_cases hi : i = j
 · subst hi
   refine ⟨b,by rw [List.getElem?_set_self (by rw [h.1];exact hj)],?_⟩;rw [hb,List.getD_eq_getElem?_getD,List.getElem?_set_self hj];rfl
 · refine ⟨c,by rw [List.getElem?_set_ne hi];exact h1,?_⟩
   rw [h2,List.getD_eq_getElem?_getD,List.getD_eq_getElem?_getD,List.getElem?_set_ne hi]
section
variable {P : Program} {w : World} {ops : Array Oper} {rest : List Oper} {o1 o2 : Oper} {a : Act} {Q : Exit → Act → World → Prop}
theorem wl_stRowT {t e b : Nat} {z : Value} [SlTy P t e 1 z b] [Cell1 P e] {x ix y : Operand} {d : Tmp} (hg1 : o1.guard = none) (ho1 : o1.op = .indexAddr t x ix) (hg2 : o2.guard = none) (ho2 : o2.op = .store e (.tmp d) y)
 {p : Option Addr} {n c B j : Nat} {k : IntKind} {u : Value} (hd : ∀ y,(a.put o1.dst y).eval (.tmp d) = y)
 (hx : a.eval x = .slice p n c) (hi : a.eval ix = .int k (j : Int)) (hy : ∀ q,(a.put o1.dst q).eval y = u) (hu1 : u.oneCell' = true) {vs : List Value} (hc : w.ownsRow B e 1 (.slice p n c) n vs) (hn : j < n)
 (h : ∀ w',w'.ownsRow B e 1 (.slice p n c) n (vs.set j u) → w.grownBy w' (Value.slice p n c).ownBlock → wpList P ops Q rest ((a.put o1.dst (.pointer (some (adr p j)))).put o2.dst undef) w') : wpList P ops Q (o1 :: o2 :: rest) a w := by
 obtain ⟨g,rfl⟩ := own_some hc (by omega);have hlen : vs.length = n := by have := hc.1;omega
 have hcell : w.cell? (adr (some ⟨g,0,none⟩) j) = some (vs[j]'(by omega)) := by
  rw [jak,hc.cellAt _ (by omega)];simp [hlen,hn]
 have hfr : w.frozen? (adr (some ⟨g,0,none⟩) j) = false := by rw [jak];exact hc.frozenAt _
 have hst := hc.stored j u;rw [← jak] at hst;refine wl_idx hg1 ho1 hx hi rfl (by omega) (by omega) ?_;rw [Nat.mul_one,Int.toNat_natCast];refine wl_skip hg2 (w' := w.setCell (adr (some ⟨g,0,none⟩) j) u) ?_ (h _ hst.1 hst.2);simp [execOp,ho2,hd,hy,run_store1 hcell hfr hu1]
end
theorem mem_own {pw : Option Addr} {n c b : Nat} {bl : List Nat} (h : (Value.slice pw n c).ownBlock = some b) (hb : ∀ x ∈ jac pw,x ∈ bl) : b ∈ bl := by
 cases pw with
 | none => simp [Value.ownBlock] at h
 | some a => simp [Value.ownBlock] at h;subst h;exact hb _ (by simp [jac])
end Go.Proofs.Ytmbckkcgiafagaa
