/- A part of the proofs: Dr9b, Tp, TnI5, Tp2, Tp4, TnI8, TnK, TnL, TnM, TnN. -/
import Derived.Test.YtmbckkcgiafagaaZ15FnFuse
import Derived.Test.YtmbckkcgiafagaaZ16FnFuse
import Derived.Test.YtmbckkcgiafagaaZ09FnFuse
import Derived.Test.YtmbckkcgiafagaaZ11FnFuse
import Derived.Test.YtmbckkcgiafagaaZ06FnFuse
import Derived.Test.YtmbckkcgiafagaaZ10FnFuse
import Derived.Test.YtmbckkcgiafagaaZ07FnFuse
import Derived.Laws.CopyRow
import Derived.Test.YtmbckkcgiafagaaZ03FnFuse
set_option linter.unusedSimpArgs false
set_option linter.unusedVariables false
set_option maxRecDepth 100000
set_option maxHeartbeats 16000000
namespace Go.Proofs.Ytmbckkcgiafagaa
open Go.RowKit
theorem lay_own {w : World} {ce : List Value} {d : jaa.T} {be : List Nat} (h : Own w jaa ce d be) : ∃ (pw pb : Option Addr) (cw cb : Nat) (us vs : List Value),ce = [.int .i64 d.1,.int .i64 d.2.1,.int .i64 d.2.2.1,.slice pw (d.2.2.2.1 : List Nat).length cw,.slice pb (d.2.2.2.2.1 : List Nat).length cb] ∧
 (jbb w pw (d.2.2.2.1 : List Nat).length cw us ∧ F32s us d.2.2.2.1 ∧ (d.2.2.2.1 : List Nat).length ≤ cw ∧ cw ≤ maxLen) ∧ (jbb w pb (d.2.2.2.2.1 : List Nat).length cb vs ∧ F32s vs d.2.2.2.2.1 ∧ (d.2.2.2.2.1 : List Nat).length ≤ cb ∧ cb ≤ maxLen) ∧ be = jac pw ++ jac pb := by
 obtain ⟨a1,a2,a3,a4,a5,au⟩ := d;obtain ⟨_,_,_,_,rfl,⟨rfl,rfl⟩,⟨_,_,_,_,rfl,⟨rfl,rfl⟩,⟨_,_,_,_,rfl,⟨rfl,rfl⟩,⟨_,_,_,_,rfl,h4,⟨_,_,_,_,rfl,h5,⟨rfl,rfl⟩,rfl⟩,rfl⟩,rfl⟩,rfl⟩,rfl⟩ := h;obtain ⟨p4,c4,us,rfl,o4,f4,l4,m4,rfl⟩ := jbv.1 h4;obtain ⟨p5,c5,vs,rfl,o5,f5,l5,m5,rfl⟩ := jbv.1 h5;exact ⟨p4,p5,c4,c5,us,vs,rfl,⟨o4,f4,l4,m4⟩,⟨o5,f5,l5,m5⟩,by simp⟩
theorem full_row {w : World} {B n c : Nat} {p : Option Addr} {vs : List Value} (h : jbb w p n c vs) (hl : vs.length = n) (hF : Full B w (.slice p n c)) (hn : n ≤ c) (hc : c ≤ maxLen) : w.ownsRow B 33 1 (.slice p n c) n vs := by
 refine ⟨by omega,?_⟩;rcases h with ⟨rfl,rfl,rfl,_⟩ | ⟨g,cur,e,rfl,hg,ht⟩
 · exact .inl ⟨rfl,rfl⟩
 · obtain ⟨hB,Z,m,h1,h2⟩ := hF g n c rfl
   rw [hg] at h1
   cases h1
   exact .inr ⟨g,c,cur,rfl,hB,hg,hn,hc,by omega,by rw [Nat.mul_one,← hl];exact ht⟩
theorem own_twoT {w : World} {B B' te t' s s' n n' : Nat} {v v' : Value} {xs ys : List Value} (h : w.ownsRow B te s v n xs) (k : w.ownsRow B' t' s' v' n' ys) (ht : te ≠ t') : ∀ b,v.ownBlock = some b → v'.ownBlock ≠ some b := by
 intro b hb hb';rcases h.2 with ⟨rfl,_⟩ | ⟨g,cap,cur,rfl,_,hh,_⟩
 · simp [Value.ownBlock] at hb
 · rcases k.2 with ⟨rfl,_⟩ | ⟨g',cap',cur',rfl,_,hh',_⟩
   · simp [Value.ownBlock] at hb'
   · simp [Value.ownBlock] at hb hb'
     subst hb;subst hb';rw [hh] at hh'
     cases hh'
     exact ht rfl
theorem rep_upd3 {w : World} {a b o : Int} {pw pb : Option Addr} {cw cb nw nb : Nat} {ws bs : List Nat} (e1 : ws.length = nw) (e2 : bs.length = nb) (hw : Rep w (.sl .flt) [.slice pw nw cw] ws) (hb : Rep w (.sl .flt) [.slice pb nb cb] bs) :
 Rep w jaa [.int .i64 a,.int .i64 b,.int .i64 o,.slice pw nw cw,.slice pb nb cb] (a,b,o,ws,bs,()) := by
 subst e1;subst e2;exact ⟨[.int .i64 a],_,rfl,rfl,⟨[.int .i64 b],_,rfl,rfl,⟨[.int .i64 o],_,rfl,rfl,⟨[.slice pw ws.length cw],[.slice pb bs.length cb],rfl,hw,⟨[.slice pb bs.length cb],[],rfl,hb,rfl⟩⟩⟩⟩⟩
theorem rep_fl {w : World} {B n c : Nat} {q : Option Addr} {us : List Value} {xs : List Nat} (hl : xs.length = n) (h : w.ownsRow B 33 1 (.slice q n c) n us) (hf : F32s us xs) : Rep w (.sl .flt) [.slice q n c] xs := by
 subst hl;exact ja5.2 ⟨q,c,us,rfl,jbc h,hf,(jat h).1,(jat h).2⟩
theorem rep_setEl {S : Nat → Prop} {w w' : World} {B n c g y : Nat} {L : List jaa.T} {css : List (List Value)} {bss : List (List Nat)} {ce' : List Value} {d' : jaa.T} {be : List Nat} (row : w'.ownsRow B 41 5 (.slice (some ⟨g,0,none⟩) n c) n (css.set y ce').flatten) (hn : L.length = n) (E : OwnEs w jaa css bss L) (nd : bss.flatten.Nodup) (k : Chg S w w') (hbe : bss[y]? = some be)
 (hS : ∀ b ∈ bss.flatten,S b → b ∈ be) (hy : Rep w' jaa ce' d') : Rep w' (.sl jaa) [.slice (some ⟨g,0,none⟩) n c] (L.set y d') := by
 refine ⟨some ⟨g,0,none⟩,c,css.set y ce',by rw [List.length_set,hn],jbc row,by rw [List.length_set,hn];exact (jat row).1,(jat row).2,All2.of_get (by rw [List.length_set,List.length_set,E.1]) fun i x d hx hd => ?_⟩
 by_cases hi : y = i
 · subst hi
   have h1 : y < css.length := by have := (List.getElem?_eq_some_iff.1 hx).1;rwa [List.length_set] at this
   have h2 : y < L.length := by rw [← E.1];exact h1
   rw [List.getElem?_set_self h1] at hx;rw [List.getElem?_set_self h2] at hd
   cases hx;cases hd
   exact hy
 · rw [List.getElem?_set_ne hi] at hx hd
   have h2 : i < bss.length := by rw [E.2.1,← E.1];exact (List.getElem?_eq_some_iff.1 hx).1
   have hb := List.getElem?_eq_getElem h2;exact ((E.2.2 i x _ d hx hb hd).chg k fun b hm hs => flat_apart nd hb hbe hi b (hS b (List.mem_flatten.2 ⟨_,List.mem_of_getElem? hb,hm⟩) hs) hm).rep
theorem layD_more {d : jaa.T} (h : layD d = true) : (∀ x : Nat,layD (d.1,d.2.1,d.2.2.1,d.2.2.2.1 ++ [x],d.2.2.2.2.1,()) = false) ∧ ∀ x : Nat,layD (d.1,d.2.1,d.2.2.1,d.2.2.2.1,d.2.2.2.2.1 ++ [x],()) = false := by
 have h' : layB d.1 d.2.1 d.2.2.1 (d.2.2.2.1 : List Nat).length (d.2.2.2.2.1 : List Nat).length = true := h;unfold layB at h';simp only [Bool.and_eq_true,decide_eq_true_eq,jas,Bool.or_eq_true] at h';obtain ⟨_,_,_,_,h5,h6⟩ := h'
 constructor <;> intro x
 · cases hh : layD (d.1,d.2.1,d.2.2.1,d.2.2.2.1 ++ [x],d.2.2.2.2.1,()) with
   | false => rfl
   | true =>
     have hh : layB d.1 d.2.1 d.2.2.1 (d.2.2.2.1 ++ [x]).length (d.2.2.2.2.1 : List Nat).length = true := hh;unfold layB at hh;simp only [Bool.and_eq_true,decide_eq_true_eq,jas,Bool.or_eq_true,List.length_append,List.length_singleton] at hh;omega
 · cases hh : layD (d.1,d.2.1,d.2.2.1,d.2.2.2.1,d.2.2.2.2.1 ++ [x],()) with
   | false => rfl
   | true =>
     have hh : layB d.1 d.2.1 d.2.2.1 (d.2.2.2.1 : List Nat).length (d.2.2.2.2.1 ++ [x]).length = true := hh;unfold layB at hh;simp only [Bool.and_eq_true,decide_eq_true_eq,jas,Bool.or_eq_true,List.length_append,List.length_singleton] at hh;omega
theorem AnyMod.bad {sb K n : Nat} {w w' : World} {e : Ending} {L : List jaa.T} {q : Option Addr} {c : Nat} (he : e = .returned (.agg #[.slice q n c])) (hn : L.length = n) (hf : Fit (.sl jaa) L) (hr : ∀ W,Chg (fun b => b < w.heap.size) w' W → Rep W (.sl jaa) [.slice q n c] L) (hb : modB L = false) (hd : DrAt w' sb K) (hc : Chg (fun b => b = sb) w w') : AnyMod sb K w e w' := by
 subst hn;exact ⟨L,q,c,he,hf,hr,fun h => absurd (hb.symm.trans h) (by decide),hd,hc⟩
theorem own_notT {w : World} {B te s n : Nat} {v : Value} {xs : List Value} {bl : List Nat} (h : w.ownsRow B te s v n xs) (T : Tys w [33] bl) (ht : te ≠ 33) : ∀ b,v.ownBlock = some b → b ∉ bl := by
 intro b hb hm;obtain ⟨Z,t,m,h1,h2⟩ := T b hm;have h1 := List.mem_singleton.1 h1;rcases h.2 with ⟨rfl,_⟩ | ⟨g,cap,cur,rfl,_,hh,_⟩
 · simp [Value.ownBlock] at hb
 · simp [Value.ownBlock] at hb
   subst hb;rw [hh] at h2
   cases h2
   exact ht h1
theorem rep_all {w : World} {L : List jaa.T} {css : List (List Value)} {bss : List (List Nat)} {ce0 : List Value} {d0 : jaa.T} {be0 : List Nat} (E : OwnEs w jaa css bss L) (hc : css[0]? = some ce0) (hb : bss[0]? = some be0) (hd : L[0]? = some d0) (j : Nat) : All2 (Rep w jaa) (css ++ List.replicate j ce0) (L ++ List.replicate j d0) := by
 refine All2.of_get (by simp [E.1]) fun i x d hx hd' => ?_
 by_cases hi : i < css.length
 · rw [List.getElem?_append_left hi] at hx
   rw [List.getElem?_append_left (by rw [← E.1];exact hi)] at hd';have h2 : i < bss.length := by rw [E.2.1,← E.1];exact hi
   exact (E.2.2 i x _ d hx (List.getElem?_eq_getElem h2) hd').rep
 · rw [List.getElem?_append_right (by omega)] at hx
   rw [List.getElem?_append_right (by rw [← E.1];omega)] at hd';have e1 := List.mem_replicate.1 (List.mem_of_getElem? hx);have e2 := List.mem_replicate.1 (List.mem_of_getElem? hd');rw [e1.2,e2.2];exact (E.2.2 0 _ _ _ hc hb hd).rep
theorem repl_flat (css : List (List Value)) (ce : List Value) (j : Nat) : (css ++ List.replicate j ce).flatten ++ ce = (css ++ List.replicate (j + 1) ce).flatten := by
 rw [List.replicate_succ',← List.append_assoc,List.flatten_append (L₁ := css ++ List.replicate j ce)];simp
theorem F32s.setV {us : List Value} {xs : List Nat} {i b v : Nat} (h : F32s us xs) (hb : cn .f32 b = v) : F32s (us.set i (.float .f32 b)) (xs.set i v) := by
 refine ⟨by rw [List.length_set,List.length_set,h.1],fun j hj => ?_⟩;rw [List.length_set] at hj;obtain ⟨c,h1,h2⟩ := h.2 j hj
 by_cases hi : i = j
 · subst hi
   refine ⟨b,by rw [List.getElem?_set_self (by rw [h.1];exact hj)],?_⟩;rw [hb,List.getD_eq_getElem?_getD,List.getElem?_set_self hj];rfl
 · refine ⟨c,by rw [List.getElem?_set_ne hi];exact h1,?_⟩
   rw [h2,List.getD_eq_getElem?_getD,List.getD_eq_getElem?_getD,List.getElem?_set_ne hi]
section
variable {P : Program} {w : World} {ops : Array Oper} {rest : List Oper} {o1 o2 : Oper} {a : Act} {Q : Exit → Act → World → Prop}
theorem wl_stRowT {t e b : Nat} {z : Value} [SlTy P t e 1 z b] [Cell1 P e] {x ix y : Operand} {d : Tmp} (hg1 : o1.guard = none) (ho1 : o1.op = .indexAddr t x ix) (hg2 : o2.guard = none) (ho2 : o2.op = .store e (.tmp d) y)
 {p : Option Addr} {n c B j : Nat} {k : IntKind} {u : Value} (hd : ∀ y,(a.put o1.dst y).eval (.tmp d) = y)
 (hx : a.eval x = .slice p n c) (hi : a.eval ix = .int k (j : Int)) (hy : ∀ q,(a.put o1.dst q).eval y = u) (hu1 : u.oneCell' = true) {vs : List Value} (hc : w.ownsRow B e 1 (.slice p n c) n vs) (hn : j < n)
 (h : ∀ w',w'.ownsRow B e 1 (.slice p n c) n (vs.set j u) → w.grownBy w' (Value.slice p n c).ownBlock → wpList P ops Q rest ((a.put o1.dst (.pointer (some (adr p j)))).put o2.dst undef) w') : wpList P ops Q (o1 :: o2 :: rest) a w := by
 obtain ⟨g,rfl⟩ := own_some hc (by omega);have hlen : vs.length = n := by have := hc.1;omega
 have hcell : w.cell? (adr (some ⟨g,0,none⟩) j) = some (vs[j]'(by omega)) := by
  rw [jap,hc.cellAt _ (by omega)];simp [hlen,hn]
 have hfr : w.frozen? (adr (some ⟨g,0,none⟩) j) = false := by rw [jap];exact hc.frozenAt _
 have hst := hc.stored j u;rw [← jap] at hst;refine wl_idx hg1 ho1 hx hi rfl (by omega) (by omega) ?_;rw [Nat.mul_one,Int.toNat_natCast];refine wl_skip hg2 (w' := w.setCell (adr (some ⟨g,0,none⟩) j) u) ?_ (h _ hst.1 hst.2);simp [execOp,ho2,hd,hy,run_store1 hcell hfr hu1]
end
theorem mem_own {pw : Option Addr} {n c b : Nat} {bl : List Nat} (h : (Value.slice pw n c).ownBlock = some b) (hb : ∀ x ∈ jac pw,x ∈ bl) : b ∈ bl := by
 cases pw with
 | none => simp [Value.ownBlock] at h
 | some a => simp [Value.ownBlock] at h;subst h;exact hb _ (by simp [jac])
theorem getD_app {A : Type} (l k : List A) (d : A) (j : Nat) : (l ++ k).getD j d = if j < l.length then l.getD j d else k.getD (j - l.length) d := by
 by_cases h : j < l.length
 · rw [if_pos h];simp [List.getD_eq_getElem?_getD,List.getElem?_append_left h]
 · rw [if_neg h];simp [List.getD_eq_getElem?_getD,List.getElem?_append_right (Nat.le_of_not_lt h)]
theorem getD_appl {A : Type} (l k : List A) (d : A) (j : Nat) (h : j < l.length) : (l ++ k).getD j d = l.getD j d := by rw [getD_app,if_pos h]
theorem getD_appr {A : Type} (l k : List A) (d : A) (j : Nat) (h : l.length ≤ j) : (l ++ k).getD j d = k.getD (j - l.length) d := by rw [getD_app,if_neg (by omega)]
theorem div_mod_at {b i k : Nat} (hk : k < b) : (i * b + k) / b = i ∧ (i * b + k) % b = k := by
 have hb : 0 < b := by omega
 constructor
 · rw [Nat.mul_comm,Nat.mul_add_div hb,Nat.div_eq_of_lt hk,Nat.add_zero]
 · rw [Nat.mul_comm,Nat.mul_add_mod,Nat.mod_eq_of_lt hk]
theorem row_lt {b i k a : Nat} (hi : i < a) (hk : k < b) : i * b + k < a * b := by
 have := Nat.mul_le_mul_right b (show i + 1 ≤ a by omega);rw [Nat.add_mul,Nat.one_mul] at this;omega
theorem Chg.new {S S' : Nat → Prop} {w0 w w' : World} (h : Chg S w0 w) (k : Chg S' w w') (hs : ∀ b,S' b → S b ∨ w0.heap.size ≤ b) : Chg S w0 w' :=
 ⟨k.os.trans h.os,k.tape.trans h.tape,k.output.trans h.output,Nat.le_trans h.size k.size,fun b hb hn => (k.block b (Nat.lt_of_lt_of_le hb h.size) (fun h' => by rcases hs b h' with h1 | h1;exact hn h1;omega)).trans (h.block b hb hn)⟩
abbrev shOp : Sh := .pr .int (.pr .int (.pr .int (.pr .flt (.pr jae .un))))
def tn (r c : Nat) (xs : List Nat) : jae.T := ((r : Int),(c : Int),xs,())
def t0 : jae.T := (0,0,[],())
def mkOp (k a b z : Nat) (t : jae.T) : shOp.T := ((k : Int),(a : Int),(b : Int),z,t,())
def o0 : shOp.T := (0,0,0,0,t0,())
inductive OpOk (sh : Nat → Nat × Nat) (i : Nat) : shOp.T → Prop
 | inp (r c : Nat) (xs : List Nat) : xs.length = r * c → sh i = (r,c) → OpOk sh i (mkOp 0 0 0 0 (tn r c xs))
 | add (a b : Nat) : a < i → b < i → sh b = sh a → sh i = sh a → OpOk sh i (mkOp 1 a b 0 t0)
 | addR (a b : Nat) : a < i → b < i → sh b = (1,(sh a).2) → sh i = sh a → OpOk sh i (mkOp 2 a b 0 t0)
 | mul (a b : Nat) : a < i → b < i → sh b = sh a → sh i = sh a → OpOk sh i (mkOp 3 a b 0 t0)
 | mulR (a b : Nat) : a < i → b < i → sh b = (1,(sh a).2) → sh i = sh a → OpOk sh i (mkOp 4 a b 0 t0)
 | scl (a z : Nat) : a < i → sh i = sh a → OpOk sh i (mkOp 5 a 0 z t0)
 | mm (a b : Nat) : a < i → b < i → (sh b).1 = (sh a).2 → sh i = ((sh a).1,(sh b).2) → OpOk sh i (mkOp 6 a b 0 t0)
 | turn (a : Nat) : a < i → sh i = ((sh a).2,(sh a).1) → OpOk sh i (mkOp 7 a 0 0 t0)
 | relu (a : Nat) : a < i → sh i = sh a → OpOk sh i (mkOp 8 a 0 0 t0)
 | sqr (a : Nat) : a < i → sh i = sh a → OpOk sh i (mkOp 9 a 0 0 t0)
 | sum (a : Nat) : a < i → sh i = (1,1) → OpOk sh i (mkOp 10 a 0 0 t0)
structure TapeOk (sh : Nat → Nat × Nat) (ops : List shOp.T) : Prop where
 ok : ∀ i,i < ops.length → OpOk sh i (ops.getD i o0)
 side : ∀ i,i < ops.length → 1 ≤ (sh i).1 ∧ (sh i).1 ≤ 16 ∧ 1 ≤ (sh i).2 ∧ (sh i).2 ≤ 16
 len : ops.length ≤ 48
def Shaped (s : Nat × Nat) (t : jae.T) : Prop := ∃ xs : List Nat,t = tn s.1 s.2 xs ∧ xs.length = s.1 * s.2
theorem OpOk.congr {sh sh' : Nat → Nat × Nat} {i : Nat} {o : shOp.T} (h : OpOk sh i o) (he : ∀ j,j ≤ i → sh' j = sh j) : OpOk sh' i o := by
 cases h with
 | inp r c xs hl hs => exact .inp r c xs hl (by rw [he i (by omega)];exact hs)
 | add a b ha hb h1 h2 => exact .add a b ha hb (by rw [he a (by omega),he b (by omega)];exact h1) (by rw [he i (by omega),he a (by omega)];exact h2)
 | addR a b ha hb h1 h2 => exact .addR a b ha hb (by rw [he a (by omega),he b (by omega)];exact h1) (by rw [he i (by omega),he a (by omega)];exact h2)
 | mul a b ha hb h1 h2 => exact .mul a b ha hb (by rw [he a (by omega),he b (by omega)];exact h1) (by rw [he i (by omega),he a (by omega)];exact h2)
 | mulR a b ha hb h1 h2 => exact .mulR a b ha hb (by rw [he a (by omega),he b (by omega)];exact h1) (by rw [he i (by omega),he a (by omega)];exact h2)
 | scl a z ha h2 => exact .scl a z ha (by rw [he i (by omega),he a (by omega)];exact h2)
 | mm a b ha hb h1 h2 => exact .mm a b ha hb (by rw [he a (by omega),he b (by omega)];exact h1) (by rw [he i (by omega),he a (by omega),he b (by omega)];exact h2)
 | turn a ha h2 => exact .turn a ha (by rw [he i (by omega),he a (by omega)];exact h2)
 | relu a ha h2 => exact .relu a ha (by rw [he i (by omega),he a (by omega)];exact h2)
 | sqr a ha h2 => exact .sqr a ha (by rw [he i (by omega),he a (by omega)];exact h2)
 | sum a ha h2 => exact .sum a ha (by rw [he i (by omega)];exact h2)
def shUp (sh : Nat → Nat × Nat) (n : Nat) (s : Nat × Nat) : Nat → Nat × Nat := fun j => if j = n then s else sh j
theorem shUp_at (sh : Nat → Nat × Nat) (n : Nat) (s : Nat × Nat) : shUp sh n s n = s := by simp [shUp]
theorem shUp_lt (sh : Nat → Nat × Nat) {n j : Nat} (s : Nat × Nat) (h : j < n) : shUp sh n s j = sh j := by simp [shUp,Nat.ne_of_lt h]
def SideOk (s : Nat × Nat) : Prop := 1 ≤ s.1 ∧ s.1 ≤ 16 ∧ 1 ≤ s.2 ∧ s.2 ≤ 16
theorem TapeOk.snoc {sh : Nat → Nat × Nat} {ops : List shOp.T} (h : TapeOk sh ops) {o : shOp.T} {s : Nat × Nat} {n : Nat} (hn : ops.length = n) (ho : OpOk (shUp sh n s) n o) (hs : SideOk s) (hl : n + 1 ≤ 48) : TapeOk (shUp sh n s) (ops ++ [o]) := by
 subst hn;refine ⟨fun i hi => ?_,fun i hi => ?_,by simp;omega⟩
 · by_cases e : i = ops.length
   · subst e
     rw [getD_appr _ _ _ _ (by omega)]
     simpa using ho
   · have hi' : i < ops.length := by simp at hi;omega
     rw [getD_appl _ _ _ _ hi'];exact (h.ok i hi').congr fun j hj => shUp_lt _ _ (by omega)
 · by_cases e : i = ops.length
   · subst e;rw [shUp_at];exact hs
   · have hi' : i < ops.length := by simp at hi;omega
     rw [shUp_lt _ _ hi'];exact h.side i hi'
def negOne : Nat := 3212836864
abbrev Mt := List shOp.T × List Int × Nat
def mtStep (l : jaa.T) (s : Mt) : Mt :=
 let n := s.1.length
 if l.1 = 0 then (s.1 ++ [mkOp 0 0 0 0 (l.2.2.1,l.2.1,l.2.2.2.1,()),mkOp 0 0 0 0 (1,l.2.2.1,l.2.2.2.2.1,()),mkOp 7 n 0 0 t0,mkOp 6 s.2.2 (n + 2) 0 t0,mkOp 2 (n + 3) (n + 1) 0 t0],s.2.1 ++ [(n : Int),((n + 1 : Nat) : Int)],n + 4)
 else if l.1 = 1 then (s.1 ++ [mkOp 8 s.2.2 0 0 t0],s.2.1,n)
 else (s.1 ++ [mkOp 0 0 0 0 (1,l.2.1,l.2.2.2.1,()),mkOp 4 s.2.2 n 0 t0],s.2.1 ++ [(n : Int)],n + 1)
def mtTo (L : List jaa.T) (x y : jae.T) : Nat → Mt
 | 0 => ([mkOp 0 0 0 0 x,mkOp 0 0 0 0 y],[],0)
 | i + 1 => mtStep (L.getD i (0,0,0,[],[],())) (mtTo L x y i)
def mtEnd (s : Mt) (z : Nat) : List shOp.T := s.1 ++ [mkOp 5 1 0 negOne t0,mkOp 1 s.2.2 s.1.length 0 t0,mkOp 9 (s.1.length + 1) 0 0 t0,mkOp 10 (s.1.length + 2) 0 0 t0,mkOp 5 (s.1.length + 3) 0 z t0]
def mtape (L : List jaa.T) (x y : jae.T) (z : Nat) : List shOp.T := mtEnd (mtTo L x y L.length) z
def mweights (L : List jaa.T) (x y : jae.T) : List Int := (mtTo L x y L.length).2.1
instance slTens : SlTy Try.prog 59 27 3 (.agg #[.int .i64 0,.int .i64 0,.slice none 0 0]) 40 := ⟨by kernel_rfl,by kernel_rfl,by kernel_rfl,by decide,by decide⟩
instance szTens : SlTy Try.prog 59 27 (Sh.sz jae) (.agg #[.int .i64 0,.int .i64 0,.slice none 0 0]) 40 := slTens
instance c1Tens : Cell1 Try.prog 59 := ⟨by kernel_rfl,by kernel_rfl⟩
instance elOp : ElTy Try.prog 98 shOp := ⟨by kernel_rfl,by kernel_rfl⟩
instance slOp : SlTy Try.prog 56 98 7 (.agg #[.int .i64 0,.int .i64 0,.int .i64 0,.float .f32 0,.int .i64 0,.int .i64 0,.slice none 0 0]) 72 := ⟨by kernel_rfl,by kernel_rfl,by kernel_rfl,by decide,by decide⟩
instance szOp : SlTy Try.prog 56 98 (Sh.sz shOp) (.agg #[.int .i64 0,.int .i64 0,.int .i64 0,.float .f32 0,.int .i64 0,.int .i64 0,.slice none 0 0]) 72 := slOp
instance c1Ops : Cell1 Try.prog 56 := ⟨by kernel_rfl,by kernel_rfl⟩
structure Tens (w : World) (p : Option Addr) (n : Nat) (css : List (List Value)) (vs : List jae.T) : Prop where
 cs : Cs w p css.flatten
 all : All2 (Rep w jae) css vs
 cnt : css.length = n
theorem Tens.ext {w w' : World} {p : Option Addr} {n : Nat} {css : List (List Value)} {vs : List jae.T} (h : Tens w p n css vs) (e : Ext w w') : Tens w' p n css vs :=
 ⟨h.cs.ext e,h.all.imp fun _ _ => Rep.ext e,h.cnt⟩
theorem Tens.len {w : World} {p : Option Addr} {n : Nat} {css : List (List Value)} {vs : List jae.T} (h : Tens w p n css vs) : vs.length = n := by rw [← h.cnt];exact h.all.length.symm
theorem Tens.size {w : World} {p : Option Addr} {n : Nat} {css : List (List Value)} {vs : List jae.T} (h : Tens w p n css vs) : ∀ c ∈ css,c.length = jae.sz := by
 intro c hc;obtain ⟨i,hi,rfl⟩ := List.mem_iff_getElem.1 hc;have hv : i < vs.length := by rw [h.len,← h.cnt];exact hi
 obtain ⟨_,hr⟩ := h.all.get' i hv;exact hr.size
def TenAt (w : World) (cs : List Value) (s : Nat × Nat) (d : jae.T) : Prop := ∃ (q : Option Addr) (c : Nat) (us : List Value) (xs : List Nat),cs = [.int .i64 s.1,.int .i64 s.2,.slice q (s.1 * s.2) c] ∧ d = tn s.1 s.2 xs ∧ xs.length = s.1 * s.2 ∧ Cs w q us ∧ F32s us xs ∧ s.1 * s.2 ≤ c ∧ c ≤ maxLen
theorem tenAt_of {w : World} {cs : List Value} {s : Nat × Nat} {d : jae.T} (h : Rep w jae cs d) (hs : Shaped s d) : TenAt w cs s d := by
 obtain ⟨xs,rfl,l⟩ := hs;obtain ⟨p,c,us,h1,h2,h3,h4,h5⟩ := ten_vals h;simp only [tn] at h1 h3 h4;rw [l] at h1 h4;exact ⟨p,c,us,xs,h1,rfl,l,h2,h3,h4,h5⟩
theorem Tens.at' {w : World} {p : Option Addr} {n : Nat} {css : List (List Value)} {vs : List jae.T} (h : Tens w p n css vs) {sh : Nat → Nat × Nat} (hs : ∀ j,j < n → Shaped (sh j) (vs.getD j t0)) {j : Nat} (hj : j < n) : ∃ cs,css[j]? = some cs ∧ TenAt w cs (sh j) (vs.getD j t0) := by
 have hv : j < vs.length := by rw [h.len];exact hj
 obtain ⟨h1,hr⟩ := h.all.get' j hv;refine ⟨css[j],by simp,?_⟩;have h2 := hs j hj;rw [show vs.getD j t0 = vs[j] by simp [hv]] at h2 ⊢;exact tenAt_of hr h2
structure Ops (w : World) (p : Option Addr) (n : Nat) (css : List (List Value)) (ops : List shOp.T) : Prop where
 cs : Cs w p css.flatten
 all : All2 (Rep w shOp) css ops
 cnt : css.length = n
theorem Ops.ext {w w' : World} {p : Option Addr} {n : Nat} {css : List (List Value)} {ops : List shOp.T} (h : Ops w p n css ops) (e : Ext w w') : Ops w' p n css ops :=
 ⟨h.cs.ext e,h.all.imp fun _ _ => Rep.ext e,h.cnt⟩
theorem Ops.len {w : World} {p : Option Addr} {n : Nat} {css : List (List Value)} {ops : List shOp.T} (h : Ops w p n css ops) : ops.length = n := by rw [← h.cnt];exact h.all.length.symm
theorem Ops.size {w : World} {p : Option Addr} {n : Nat} {css : List (List Value)} {ops : List shOp.T} (h : Ops w p n css ops) : ∀ c ∈ css,c.length = shOp.sz := by
 intro c hc;obtain ⟨i,hi,rfl⟩ := List.mem_iff_getElem.1 hc;have hv : i < ops.length := by rw [h.len,← h.cnt];exact hi
 obtain ⟨_,hr⟩ := h.all.get' i hv;exact hr.size
theorem Ops.at' {w : World} {p : Option Addr} {n : Nat} {css : List (List Value)} {ops : List shOp.T} (h : Ops w p n css ops) {j : Nat} (hj : j < n) : ∃ cs,css[j]? = some cs ∧ Rep w shOp cs (ops.getD j o0) := by
 have hv : j < ops.length := by rw [h.len];exact hj
 obtain ⟨h1,hr⟩ := h.all.get' j hv;refine ⟨css[j],by simp,?_⟩;rw [show ops.getD j o0 = ops[j] by simp [hv]];exact hr
theorem rep_ten {w : World} {r c : Int} {q : Option Addr} {n k : Nat} {us : List Value} {xs : List Nat} (hl : xs.length = n) (hq : Cs w q us) (hf : F32s us xs) (h1 : n ≤ k) (h2 : k ≤ maxLen) : Rep w jae [.int .i64 r,.int .i64 c,.slice q n k] (r,c,xs,()) := by
 subst hl;exact ⟨[.int .i64 r],[.int .i64 c,.slice q xs.length k],rfl,rfl,[.int .i64 c],[.slice q xs.length k],rfl,rfl,[.slice q xs.length k],[],by simp,ja5.2 ⟨q,k,us,rfl,hq,hf,h1,h2⟩,rfl⟩
def RepV (w : World) (u : Value) (d : jae.T) : Prop := ∃ cs,u = ofCs jae cs ∧ Rep w jae cs d
theorem RepV.of {w : World} {r c : Int} {q : Option Addr} {n k : Nat} {us : List Value} {xs : List Nat} (hl : xs.length = n) (hq : Cs w q us) (hf : F32s us xs) (h1 : n ≤ k) (h2 : k ≤ maxLen) : RepV w (.agg #[.int .i64 r,.int .i64 c,.slice q n k]) (r,c,xs,()) :=
 ⟨_,rfl,rep_ten hl hq hf h1 h2⟩
theorem RepV.nil {w : World} : RepV w (.agg #[.int .i64 0,.int .i64 0,.slice none 0 0]) t0 := RepV.of (us := []) rfl (Cs.nil _ _) F32s.nil (Nat.le_refl _) (Nat.zero_le _)
def RepF (fs : List Nat) (w : World) (u : Value) (d : jae.T) : Prop := ∀ (W : World) (S : Nat → Prop),(∀ b ∈ fs,¬ S b) → Chg S w W → RepV W u d
theorem RepF.of {fs : List Nat} {w : World} {r c : Int} {q : Option Addr} {n k : Nat} {us : List Value} {xs : List Nat} (hl : xs.length = n) (hq : ∀ (W : World) (S : Nat → Prop),(∀ b ∈ fs,¬ S b) → Chg S w W → Cs W q us) (hf : F32s us xs) (h1 : n ≤ k) (h2 : k ≤ maxLen) : RepF fs w (.agg #[.int .i64 r,.int .i64 c,.slice q n k]) (r,c,xs,()) :=
 fun W S hS ch => RepV.of hl (hq W S hS ch) hf h1 h2
theorem RepF.own {B : Nat} {w : World} {r c : Int} {q : Option Addr} {n k : Nat} {us : List Value} {xs : List Nat} (hl : xs.length = n) (h : w.ownsRow B 33 1 (.slice q n k) n us) (hf : F32s us xs) : RepF (jac q) w (.agg #[.int .i64 r,.int .i64 c,.slice q n k]) (r,c,xs,()) :=
 RepF.of hl (fun W S hS ch => ((jbl h).chg ch hS).cs) hf (jat h).1 (jat h).2
theorem RepF.nil {w : World} : RepF [] w (.agg #[.int .i64 0,.int .i64 0,.slice none 0 0]) t0 := fun _ _ _ _ => RepV.nil
theorem RepF.chg {fs : List Nat} {w w' : World} {u : Value} {d : jae.T} (h : RepF fs w u d) {S : Nat → Prop} (ch : Chg S w w') (hS : ∀ b ∈ fs,¬ S b) : RepF fs w' u d :=
 fun W S' hS' ch' => h W (fun b => S b ∨ S' b) (fun b hb h => h.elim (hS b hb) (hS' b hb)) ((ch.mono fun b hb => Or.inl hb).trans (ch'.mono fun b hb => Or.inr hb))
theorem RepF.ext {fs : List Nat} {w w' : World} {u : Value} {d : jae.T} (h : RepF fs w u d) (e : Ext w w') : RepF fs w' u d := h.chg (S := fun _ => False) (.of_ext e) (fun _ _ h => h)
def PartsOut (fg : List Nat) (w : World) (A A2 : jae.T) (e : Ending) (w' : World) : Prop := ∃ ua ub fa fb,e = .returned (.tuple #[ua,ub]) ∧ RepF fa w' ua A ∧ RepF fb w' ub A2 ∧ (∀ b ∈ fa,b ∈ fg ∨ (w.heap.size ≤ b ∧ b < w'.heap.size)) ∧ (∀ b ∈ fb,b ∈ fg ∨ (w.heap.size ≤ b ∧ b < w'.heap.size)) ∧ Ext w w'
theorem PartsOut.of {fg fa fb : List Nat} {w w' : World} {A A2 A' A2' : jae.T} {ua ub : Value} {e : Ending} (he : e = .returned (.tuple #[ua,ub])) (ha : RepF fa w' ua A') (hb : RepF fb w' ub A2') (hA : A = A') (hB : A2 = A2') (ka : ∀ b ∈ fa,b ∈ fg ∨ (w.heap.size ≤ b ∧ b < w'.heap.size)) (kb : ∀ b ∈ fb,b ∈ fg ∨ (w.heap.size ≤ b ∧ b < w'.heap.size)) (hx : Ext w w') : PartsOut fg w A A2 e w' := ⟨ua,ub,fa,fb,he,hA ▸ ha,hB ▸ hb,ka,kb,hx⟩
def TenAtB (fg : List Nat) (w : World) (cs : List Value) (s : Nat × Nat) (d : jae.T) : Prop := ∃ (q : Option Addr) (c : Nat) (us : List Value) (xs : List Nat),cs = [.int .i64 s.1,.int .i64 s.2,.slice q (s.1 * s.2) c] ∧ d = tn s.1 s.2 xs ∧ xs.length = s.1 * s.2 ∧ (∀ (W : World) (S : Nat → Prop),(∀ b ∈ fg,¬ S b) → Chg S w W → Cs W q us) ∧ F32s us xs ∧ s.1 * s.2 ≤ c ∧ c ≤ maxLen
theorem TenAtB.at' {fg : List Nat} {w : World} {cs : List Value} {s : Nat × Nat} {d : jae.T} (h : TenAtB fg w cs s d) : TenAt w cs s d := by
 obtain ⟨q,c,us,xs,h1,h2,h3,h4,h5,h6,h7⟩ := h;exact ⟨q,c,us,xs,h1,h2,h3,h4 w (fun _ => False) (fun _ _ h => h.elim) (Chg.refl _ _),h5,h6,h7⟩
instance slBool : SlTy Try.prog 146 4 1 (.bool false) 1 := ⟨by kernel_rfl,by kernel_rfl,by kernel_rfl,by decide,by decide⟩
instance c1Bools : Cell1 Try.prog 146 := ⟨by kernel_rfl,by kernel_rfl⟩
theorem OwnEs.put {w w' : World} {B : Nat} {e : Sh} {css : List (List Value)} {bss : List (List Nat)} {l : List e.T} (h : OwnEs w e css bss l) (k : ∃ S,Chg S w w' ∧ ∀ b,S b → b < B) (j : Nat) {cs : List Value} {bs : List Nat} {d : e.T} (ho : Own w' e cs d bs) (hn : bs.Nodup) (hB : ∀ b ∈ bs,B ≤ b) (lo : ∀ b ∈ bss.flatten,B ≤ b) :
 OwnEs w' e (css.set j cs) (bss.set j bs) (l.set j d) ∧ ∀ b ∈ (bss.set j bs).flatten,B ≤ b := by
 obtain ⟨S,k1,k2⟩ := k;have h' := h.chg k1 (fun b hb hs => by have := lo b hb;have := k2 b hs;omega);refine ⟨⟨by simp [h.1],by simp [h.2.1],fun i cs' bs' d' h1 h2 h3 => ?_⟩,fun b hb => ?_⟩
 · by_cases e : i = j
   · subst e
     rw [List.getElem?_set] at h1 h2 h3;simp only [if_true] at h1 h2 h3
     split at h1 <;> simp at h1
     split at h2 <;> simp at h2
     split at h3 <;> simp at h3
     subst h1;subst h2;subst h3;exact ho
   · rw [List.getElem?_set,if_neg (Ne.symm e)] at h1 h2 h3
     exact h'.2.2 i cs' bs' d' h1 h2 h3
 · obtain ⟨x,hx,hbx⟩ := List.mem_flatten.1 hb
   rcases List.mem_or_eq_of_mem_set hx with h4 | h4
   · exact lo b (List.mem_flatten.2 ⟨x,h4,hbx⟩)
   · subst h4;exact hB b hbx
structure GSt (w : World) (B bh gh bo go n : Nat) (hs : List Bool) (css : List (List Value)) (bss : List (List Nat)) (l : List jae.T) : Prop where
 hb : HB w bh #[.slice (some ⟨gh,0,none⟩) n n] 146
 hr : HB w gh (hs.map Value.bool).toArray 4
 ob : HB w bo #[.slice (some ⟨go,0,none⟩) n n] 59
 or : HB w go css.flatten.toArray 27
 els : OwnEs w jae css bss l
 lo : ∀ b ∈ bss.flatten,B ≤ b
 hl : hs.length = n
 ll : l.length = n
 lt : bh < B ∧ gh < B ∧ bo < B ∧ go < B
 n1 : bh ≠ go
 n2 : gh ≠ go
 n3 : bo ≠ go
 n4 : bh ≠ gh
 n5 : bo ≠ gh
theorem GSt.ext {w w' : World} {B bh gh bo go n : Nat} {hs : List Bool} {css : List (List Value)} {bss : List (List Nat)} {l : List jae.T} (h : GSt w B bh gh bo go n hs css bss l) (e : Ext w w') : GSt w' B bh gh bo go n hs css bss l :=
 ⟨h.hb.ext e,h.hr.ext e,h.ob.ext e,h.or.ext e,h.els.chg (.of_ext e) (S := fun _ => False) (fun _ _ h => h),h.lo,h.hl,h.ll,h.lt,h.n1,h.n2,h.n3,h.n4,h.n5⟩
theorem GSt.chgN {w w' : World} {B bh gh bo go n : Nat} {hs : List Bool} {css : List (List Value)} {bss : List (List Nat)} {l : List jae.T} (h : GSt w B bh gh bo go n hs css bss l) {S : Nat → Prop} (k : Chg S w w') (hS : ∀ b,S b → B ≤ b) (hN : ∀ b ∈ bss.flatten,¬ S b) : GSt w' B bh gh bo go n hs css bss l :=
 ⟨h.hb.chg k (fun hs => by have := hS _ hs;have := h.lt;omega),h.hr.chg k (fun hs => by have := hS _ hs;have := h.lt;omega),h.ob.chg k (fun hs => by have := hS _ hs;have := h.lt;omega),h.or.chg k (fun hs => by have := hS _ hs;have := h.lt;omega),h.els.chg k hN,h.lo,h.hl,h.ll,h.lt,h.n1,h.n2,h.n3,h.n4,h.n5⟩
end Go.Proofs.Ytmbckkcgiafagaa
