/- A part of the proofs: Dr5, GrC, Dr6, Dr7, Key, Stp, ConfP, Red, Tp. -/
import Derived.Test.YtmbckkcgiafagaaZ12FnWork
import Derived.Test.YtmbckkcgiafagaaZ06FnWork
import Derived.Test.YtmbckkcgiafagaaZ11FnWork
import Derived.Test.YtmbckkcgiafagaaZ07FnWork
import Derived.Test.YtmbckkcgiafagaaZ10FnWork
import Derived.Test.YtmbckkcgiafagaaZ03FnWork
import Derived.Test.YtmbckkcgiafagaaZ09FnWork
import Derived.Test.YtmbckkcgiafagaaZ05FnWork
import Derived.Test.YtmbckkcgiafagaaZ08FnWork
import Derived.Test.YtmbckkcgiafagaaZ02FnWork
set_option linter.unusedSimpArgs false
set_option linter.unusedVariables false
set_option maxRecDepth 100000
set_option maxHeartbeats 16000000
namespace Go.Proofs.Ytmbckkcgiafagaa
open Go.RowKit
theorem Chg.late {S S' : Nat → Prop} {w w1 w2 : World} (h : Chg S w w1) (k : Chg S' w1 w2) (hS : ∀ b,S' b → w.heap.size ≤ b ∨ S b) : Chg S w w2 :=
 ⟨k.os.trans h.os,k.tape.trans h.tape,k.output.trans h.output,Nat.le_trans h.size k.size,fun i hi hn => (k.block i (Nat.lt_of_lt_of_le hi h.size) (fun hb => by rcases hS i hb with h1 | h1;omega;exact hn h1)).trans (h.block i hi hn)⟩
theorem cnt_bd {k i o : Int} (hi : 1 ≤ i ∧ i ≤ 8) (ho : 1 ≤ o ∧ o ≤ 8) : ∃ nw nb : Nat,wCnt k i o = nw ∧ bCnt k i o = nb ∧ nw ≤ 64 ∧ nb ≤ 64 := by
 have hm := mul_bd hi ho;refine ⟨(wCnt k i o).toNat,(bCnt k i o).toNat,?_,?_,?_,?_⟩
 all_goals (first | unfold wCnt | unfold bCnt);repeat (first | omega | split)
def Full (B : Nat) (w : World) (u : Value) : Prop := ∀ g n c,u = .slice (some ⟨g,0,none⟩) n c → B ≤ g ∧ ∃ Z m,w.heap[g]? = some (.cells Z 33 m) ∧ Z.size = c
theorem full_of {w : World} {B n c : Nat} {q : Option Addr} {vs : List Value} (h : w.ownsRow B 33 1 (.slice q n c) n vs) : Full B w (.slice q n c) := by
 intro g n' c' e
 cases e
 rcases h.2 with ⟨h1,_⟩ | ⟨g',cap,cur,h1,hB,hh,_,_,hs,_⟩
 · cases h1
 · cases h1;exact ⟨hB,cur,_,hh,by omega⟩
theorem Full.chgT {B : Nat} {w w' : World} {u : Value} {S : Nat → Prop} (h : Full B w u) (k : Chg S w w') (hS : ∀ b,S b → b < B ∨ ∃ Z T m,w.heap[b]? = some (.cells Z T m) ∧ T ≠ 33) : Full B w' u := by
 intro g n c e;obtain ⟨h1,Z,m,h2,h3⟩ := h g n c e;refine ⟨h1,Z,m,?_,h3⟩;rw [k.block g (heap_lt h2) (fun hs => ?_)]
 · exact h2
 · rcases hS g hs with h4 | ⟨Z',T,m',h4,h5⟩
   · omega
   · rw [h2] at h4;cases h4;exact h5 rfl
theorem Full.chg {B : Nat} {w w' : World} {u : Value} {S : Nat → Prop} (h : Full B w u) (k : Chg S w w') (hS : ∀ b,S b → b < B) : Full B w' u := h.chgT k fun b hb => .inl (hS b hb)
theorem Full.base {B B' : Nat} {w : World} {u : Value} (h : Full B w u) (hB : B' ≤ B) : Full B' w u := fun g n c e => ⟨Nat.le_trans hB (h g n c e).1,(h g n c e).2⟩
theorem Full.ext {B : Nat} {w w' : World} {u : Value} (h : Full B w u) (e : Ext w w') : Full B w' u := h.chg (Chg.of_ext (S := fun _ => False) e) fun _ h => h.elim
theorem Full.grown {B B' t s n : Nat} {w w' : World} {u v : Value} {vs : List Value} (h : Full B w u) (row : w.ownsRow B' t s v n vs) (ht : t ≠ 33) (gr : w.grownBy w' v.ownBlock) : Full B w' u := by
 refine h.chgT (Chg.of_grown gr) fun b hb => .inr ?_
 rcases row.2 with ⟨h1,_⟩ | ⟨g',cap,cur,h1,_,hh,_⟩
 · rw [h1] at hb;cases hb
 · rw [h1] at hb
   have hb : some b = some g' := hb
   cases hb
   exact ⟨_,_,_,hh,ht⟩
def FullL (B : Nat) (w : World) (css : List (List Value)) : Prop := ∀ cs ∈ css,∀ u ∈ cs,Full B w u
theorem FullL.chgT {B : Nat} {w w' : World} {css : List (List Value)} {S : Nat → Prop} (h : FullL B w css) (k : Chg S w w') (hS : ∀ b,S b → b < B ∨ ∃ Z T m,w.heap[b]? = some (.cells Z T m) ∧ T ≠ 33) : FullL B w' css := fun c hc u hu => (h c hc u hu).chgT k hS
theorem FullL.chg {B : Nat} {w w' : World} {css : List (List Value)} {S : Nat → Prop} (h : FullL B w css) (k : Chg S w w') (hS : ∀ b,S b → b < B) : FullL B w' css := fun c hc u hu => (h c hc u hu).chg k hS
theorem FullL.ext {B : Nat} {w w' : World} {css : List (List Value)} (h : FullL B w css) (e : Ext w w') : FullL B w' css := fun c hc u hu => (h c hc u hu).ext e
theorem FullL.base {B B' : Nat} {w : World} {css : List (List Value)} (h : FullL B w css) (hB : B' ≤ B) : FullL B' w css := fun c hc u hu => (h c hc u hu).base hB
theorem FullL.grown {B B' t s n : Nat} {w w' : World} {css : List (List Value)} {v : Value} {vs : List Value} (h : FullL B w css) (row : w.ownsRow B' t s v n vs) (ht : t ≠ 33) (gr : w.grownBy w' v.ownBlock) : FullL B w' css := fun c hc u hu => (h c hc u hu).grown row ht gr
theorem FullL.snoc {B : Nat} {w : World} {css : List (List Value)} {a b o : Int} {u v : Value} (h : FullL B w css) (h1 : Full B w u) (h2 : Full B w v) : FullL B w (css ++ [[.int .i64 a,.int .i64 b,.int .i64 o,u,v]]) := by
 intro c hc x hx;rcases List.mem_append.1 hc with hc | hc
 · exact h c hc x hx
 · have hc := List.mem_singleton.1 hc
   subst hc;simp only [List.mem_cons,List.not_mem_nil,or_false] at hx;rcases hx with rfl | rfl | rfl | rfl | rfl
   · intro g n c e;cases e
   · intro g n c e;cases e
   · intro g n c e;cases e
   · exact h1
   · exact h2
def GotLay (sb K : Nat) (k i o : Int) (w : World) (e : Ending) (w' : World) : Prop :=
 ∃ (ws bs : List Nat) (pw pb : Option Addr) (cw cb : Nat),e = .returned (.agg #[.int .i64 k,.int .i64 i,.int .i64 o,.slice pw ws.length cw,.slice pb bs.length cb]) ∧ layB k i o ws.length bs.length = true ∧ (∀ x ∈ ws,x < 4294967296) ∧ (∀ x ∈ bs,x < 4294967296) ∧
   jca [33] w.heap.size jab w' [.int .i64 k,.int .i64 i,.int .i64 o,.slice pw ws.length cw,.slice pb bs.length cb] (k,i,o,ws,bs,()) ∧ DrAt w' sb K ∧ Chg (fun b => b = sb) w w' ∧ Full w.heap.size w' (.slice pw ws.length cw) ∧ Full w.heap.size w' (.slice pb bs.length cb)
theorem gotFs_thing {sb K n : Nat} {w w' : World} {e : Ending} (h : GotFs sb K n w e w') : ∃ (xs : List Nat) (q : Option Addr) (c : Nat) (bs : List Nat),e = .returned (.slice q n c) ∧ xs.length = n ∧ (∀ x ∈ xs,x < 4294967296) ∧ Own w' (.sl .flt) [.slice q n c] xs bs ∧ bs.Nodup ∧ (∀ b ∈ bs,w.heap.size ≤ b) ∧ Tys w' [33] bs ∧ DrAt w' sb K ∧ Chg (fun b => b = sb) w w' ∧ Full w.heap.size w' (.slice q n c) := by
 obtain ⟨xs,hx,hb,⟨q,c,vs,he,ho,hf⟩,hd,hc⟩ := h;have F := full_of ho;have H : Own w' (.sl .flt) [.slice q xs.length c] xs (jaf q) := own_flts.2 ⟨q,c,vs,rfl,jcg ho,hf,(ja1 ho).1,(ja1 ho).2,rfl⟩;have T := own_tys ho
 have hlo : ∀ b ∈ jaf q,w.heap.size ≤ b := by
  intro b hb
  cases q with
  | none => simp [jaf] at hb
  | some a => simp [jaf] at hb;subst hb;exact jap ho _ rfl
 rw [hx] at he H F;exact ⟨xs,q,c,jaf q,he,hx,hb,H,by cases q <;> simp [jaf],hlo,T,hd,hc,F⟩
theorem l03DrawLayer_any (sb K : Nat) (k i o : Int) (w : World) (h : DrAt w sb K) (hK : K ≤ 1000000) (hk : 0 ≤ k ∧ k ≤ 5) (hi : 1 ≤ i ∧ i ≤ 8) (ho : 1 ≤ o ∧ o ≤ 8) :
 Calls Try.prog 97 #[.pointer (some ⟨sb,0,none⟩),.int .i64 k,.int .i64 i,.int .i64 o] w (GotLay sb (K + 4000) k i (if k = 0 then o else i) w) := by
 have hlt0 := h.lt;obtain ⟨W0,hW0⟩ : ∃ W0,W0 = (w.alloc (.cells #[.int .i64 0,.int .i64 0,.int .i64 0,.slice none 0 0,.slice none 0 0] 41)).alloc (.cells #[.int .i64 k,.int .i64 i,.int .i64 i,.slice none 0 0,.slice none 0 0] 41) := ⟨_,rfl⟩;obtain ⟨E0,s0,b0,b1⟩ := box2 hW0;have b0 : HB W0 w.heap.size #[.int .i64 0,.int .i64 0,.int .i64 0,.slice none 0 0,.slice none 0 0] 41 := b0;have b1 : HB W0 (w.heap.size + 1) #[.int .i64 k,.int .i64 i,.int .i64 i,.slice none 0 0,.slice none 0 0] 41 := b1;have H0 := h.ext E0;clear h
 by_cases hk0 : k = 0
 case pos =>
  subst hk0;rw [if_pos rfl];go_enter Try.func97,Try.ntmps97;go_wp2_with (first | (rw [← hW0];clear hW0;(with_reducible show gx9);refine jcc (j := 2) rfl rfl b1 rfl rfl rfl rfl ?_;intro W1 b1 ch1;have b0 := b0.chg ch1 (fun hh => by omega);have H0 := H0.chg ch1 (fun b hb => by omega);have E0 := E0.chg ch1 (fun b hb => by omega)) | fail);have b1 : HB W1 (w.heap.size + 1) #[.int .i64 0,.int .i64 i,.int .i64 o,.slice none 0 0,.slice none 0 0] 41 := b1;refine (l03Counts_any (sp := none) (w.heap.size + 1) 0 0 i o W1 (b1.cell 0 rfl) (b1.cell 1 rfl) (b1.cell 2 rfl) hi ho).mono ?_;rintro e w2 ⟨rfl,e2⟩
  obtain ⟨nw,nb,hnw,hnb,lw,lb⟩ := cnt_bd (k := 0) hi ho
  have HL : Hid (∀ a b : Nat,a = nw → b = nb → layB 0 i o a b = true) := hid (by
   rintro a b rfl rfl
   unfold layB;simp only [Bool.and_eq_true,jaz,decide_eq_true_eq,Bool.or_eq_true];exact ⟨⟨by omega,by omega⟩,hi,ho,by first | exact Or.inl rfl | exact Or.inr rfl | (left;simp),by omega,by omega⟩)
  rw [hnw,hnb];have S2 := H0.ext e2;have B2 := b1.ext e2;have Z2 := b0.ext e2;have E2 := E0.trans e2;clear hnw hnb b1 b0 H0 E0;have hz := E2.size;go_wp2_with fail;refine (drFloats_any sb K nw w2 S2 (by omega) (by omega)).mono ?_;rintro e w3 h3
  obtain ⟨ws,q,c,bsw,rfl,hwl,hwb,ow,ndw,low,tw,S3,c3,fw⟩ := gotFs_thing h3;have B3 := B2.chg c3 (fun hh => by omega);have Z3 := Z2.chg c3 (fun hh => by omega);have hlt2 := B2.lt;clear h3 S2;go_wp2_with (first | ((with_reducible show gx9);refine jcc (j := 3) rfl rfl B3 rfl rfl rfl rfl ?_;intro w4 B4 ch4;have B4 : HB w4 (w.heap.size + 1) #[.int .i64 0,.int .i64 i,.int .i64 o,.slice q nw c,.slice none 0 0] 41 := B4;have Z4 := Z3.chg ch4 (fun hh => by omega);have S4 := S3.chg ch4 (fun b hb => by omega)) | fail);refine (drFloats_any sb (K + 2 + nw * 30) nb w4 S4 (by omega) (by omega)).mono ?_;rintro e w5 h5
  obtain ⟨bv,q5,c5,bsb,rfl,hbl,hbb,ob,ndb,lob,tb,S5,ch5,fb⟩ := gotFs_thing h5;have B5 := B4.chg ch5 (fun hh => by omega);have Z5 := Z4.chg ch5 (fun hh => by omega);clear h5 S4 S3;have k1 := c3.size;have k2 := ch4.size;have k3 := ch5.size;have ow4 := ow.chg ch4 (fun b hb hh => by have := low b hb;have hh : b = _ := hh;omega);have ow5 := ow4.chg ch5 (fun b hb hh => by have := low b hb;have hh : b = _ := hh;omega);have tw5 := (tw.chg ch4 (fun b hb hh => by have := low b hb;have hh : b = _ := hh;omega)).chg ch5 (fun b hb hh => by have := low b hb;have hh : b = _ := hh;omega);have ltw := ow.lt;have C5 := (((Chg.of_ext (S := fun b => b = sb) E2).trans c3).late ch4 (fun b hb => by left;have hb : b = _ := hb;omega)).trans ch5;go_wp2_with (first | ((with_reducible show gx9);refine jcc (j := 4) rfl rfl B5 rfl rfl rfl rfl ?_;intro w6 B6 ch6;have B6 : HB w6 (w.heap.size + 1) #[.int .i64 0,.int .i64 i,.int .i64 o,.slice q nw c,.slice q5 nb c5] 41 := B6;have Z6 := Z5.chg ch6 (fun hh => by omega);have r0 := B6.cell 0 rfl;have r1 := B6.cell 1 rfl;have r2 := B6.cell 2 rfl;have r3 := B6.cell 3 rfl;have r4 := B6.cell 4 rfl;have f0 := Z6.froz 0;have f1 := Z6.froz 1;have f2 := Z6.froz 2;have f3 := Z6.froz 3;have f4 := Z6.froz 4;have z0 := Z6.cell 0 rfl;have z1 := Z6.cell 1 rfl;have z2 := Z6.cell 2 rfl;have z3 := Z6.cell 3 rfl;have z4 := Z6.cell 4 rfl) | fail);have Z7 : HB (((((w6.setCell ⟨w.heap.size,0,none⟩ (.int .i64 0)).setCell ⟨w.heap.size,1,none⟩ (.int .i64 i)).setCell ⟨w.heap.size,2,none⟩ (.int .i64 o)).setCell ⟨w.heap.size,3,none⟩ (.slice q nw c)).setCell ⟨w.heap.size,4,none⟩ (.slice q5 nb c5)) w.heap.size #[.int .i64 0,.int .i64 i,.int .i64 o,.slice q nw c,.slice q5 nb c5] 41 := ((((Z6.set 0 _).set 1 _).set 2 _).set 3 _).set 4 _;have C7 : Chg (fun b => b = w.heap.size) w6 (((((w6.setCell ⟨w.heap.size,0,none⟩ (.int .i64 0)).setCell ⟨w.heap.size,1,none⟩ (.int .i64 i)).setCell ⟨w.heap.size,2,none⟩ (.int .i64 o)).setCell ⟨w.heap.size,3,none⟩ (.slice q nw c)).setCell ⟨w.heap.size,4,none⟩ (.slice q5 nb c5)) := ((((ja3 _ _ 0 _).trans (ja3 _ _ 1 _)).trans (ja3 _ _ 2 _)).trans (ja3 _ _ 3 _)).trans (ja3 _ _ 4 _);clear r0 r1 r2 r3 r4 f0 f1 f2 f3 f4 z0 z1 z2 z3 z4;generalize (((((w6.setCell ⟨w.heap.size,0,none⟩ (.int .i64 0)).setCell ⟨w.heap.size,1,none⟩ (.int .i64 i)).setCell ⟨w.heap.size,2,none⟩ (.int .i64 o)).setCell ⟨w.heap.size,3,none⟩ (.slice q nw c)).setCell ⟨w.heap.size,4,none⟩ (.slice q5 nb c5)) = W7 at *;have y0 := Z7.cell 0 rfl;have y1 := Z7.cell 1 rfl;have y2 := Z7.cell 2 rfl;have y3 := Z7.cell 3 rfl;have y4 := Z7.cell 4 rfl;refine bodyPost_ret (v := .agg #[.int .i64 0,.int .i64 i,.int .i64 o,.slice q nw c,.slice q5 nb c5]) (by simp [results,Try.results97,go_sem,y0,y1,y2,y3,y4]) rfl ?_;have k6 := ch6.size;have ow7 := (ow5.chg ch6 (fun b hb hh => by have := low b hb;have hh : b = _ := hh;omega)).chg C7 (fun b hb hh => by have := low b hb;have hh : b = _ := hh;omega);have ob7 := (ob.chg ch6 (fun b hb hh => by have := lob b hb;have hh : b = _ := hh;omega)).chg C7 (fun b hb hh => by have := lob b hb;have hh : b = _ := hh;omega);have tw7 := (tw5.chg ch6 (fun b hb hh => by have := low b hb;have hh : b = _ := hh;omega)).chg C7 (fun b hb hh => by have := low b hb;have hh : b = _ := hh;omega);have tb7 := (tb.chg ch6 (fun b hb hh => by have := lob b hb;have hh : b = _ := hh;omega)).chg C7 (fun b hb hh => by have := lob b hb;have hh : b = _ := hh;omega);have fw7 := (((fw.chg ch4 (fun b hb => by have hb : b = _ := hb;omega)).chg ch5 (fun b hb => by have hb : b = _ := hb;omega)).chg ch6 (fun b hb => by have hb : b = _ := hb;omega)).chg C7 (fun b hb => by have hb : b = _ := hb;omega);have fb7 := (fb.chg ch6 (fun b hb => by have hb : b = _ := hb;omega)).chg C7 (fun b hb => by have hb : b = _ := hb;omega);subst hwl;subst hbl;refine ⟨ws,bv,q,q5,c,c5,rfl,HL.out _ _ rfl rfl,hwb,hbb,⟨bsw ++ bsb,own_lay (d := (0,i,o,ws,bv,())) ow7 ob7,nodup_app ndw ndb (fun x hx => by have := ltw x hx;omega) (fun x hx => lob x hx),?_,tw7.app tb7⟩,?_,(C5.late ch6 (fun b hb => by left;have hb : b = _ := hb;omega)).late C7 (fun b hb => by left;have hb : b = _ := hb;omega),fw7.base (by omega),fb7.base (by omega)⟩
  · intro b hb
    rcases List.mem_append.1 hb with h | h
    · have := low b h;omega
    · have := lob b h;omega
  · exact ((S5.chg ch6 (fun b hb => by have hb : b = _ := hb;omega)).chg C7 (fun b hb => by have hb : b = _ := hb;omega)).mono (by omega)
 case neg =>
  rw [if_neg hk0];obtain ⟨W1,rfl⟩ : ∃ W1,W1 = W0 := ⟨_,rfl⟩;go_enter Try.func97,Try.ntmps97;go_wp2_with fail;rw [← hW0];clear hW0;refine (l03Counts_any (sp := none) (w.heap.size + 1) 0 k i i W1 (b1.cell 0 rfl) (b1.cell 1 rfl) (b1.cell 2 rfl) hi hi).mono ?_;rintro e w2 ⟨rfl,e2⟩
  obtain ⟨nw,nb,hnw,hnb,lw,lb⟩ := cnt_bd (k := k) hi hi
  have HL : Hid (∀ a b : Nat,a = nw → b = nb → layB k i i a b = true) := hid (by
   rintro a b rfl rfl
   unfold layB;simp only [Bool.and_eq_true,jaz,decide_eq_true_eq,Bool.or_eq_true];exact ⟨⟨by omega,by omega⟩,hi,hi,by first | exact Or.inr rfl | (right;simp),by omega,by omega⟩)
  rw [hnw,hnb];have S2 := H0.ext e2;have B2 := b1.ext e2;have Z2 := b0.ext e2;have E2 := E0.trans e2;clear hnw hnb b1 b0 H0 E0;have hz := E2.size;go_wp2_with fail;refine (drFloats_any sb K nw w2 S2 (by omega) (by omega)).mono ?_;rintro e w3 h3
  obtain ⟨ws,q,c,bsw,rfl,hwl,hwb,ow,ndw,low,tw,S3,c3,fw⟩ := gotFs_thing h3;have B3 := B2.chg c3 (fun hh => by omega);have Z3 := Z2.chg c3 (fun hh => by omega);have hlt2 := B2.lt;clear h3 S2;go_wp2_with (first | ((with_reducible show gx9);refine jcc (j := 3) rfl rfl B3 rfl rfl rfl rfl ?_;intro w4 B4 ch4;have B4 : HB w4 (w.heap.size + 1) #[.int .i64 k,.int .i64 i,.int .i64 i,.slice q nw c,.slice none 0 0] 41 := B4;have Z4 := Z3.chg ch4 (fun hh => by omega);have S4 := S3.chg ch4 (fun b hb => by omega)) | fail);refine (drFloats_any sb (K + 2 + nw * 30) nb w4 S4 (by omega) (by omega)).mono ?_;rintro e w5 h5
  obtain ⟨bv,q5,c5,bsb,rfl,hbl,hbb,ob,ndb,lob,tb,S5,ch5,fb⟩ := gotFs_thing h5;have B5 := B4.chg ch5 (fun hh => by omega);have Z5 := Z4.chg ch5 (fun hh => by omega);clear h5 S4 S3;have k1 := c3.size;have k2 := ch4.size;have k3 := ch5.size;have ow4 := ow.chg ch4 (fun b hb hh => by have := low b hb;have hh : b = _ := hh;omega);have ow5 := ow4.chg ch5 (fun b hb hh => by have := low b hb;have hh : b = _ := hh;omega);have tw5 := (tw.chg ch4 (fun b hb hh => by have := low b hb;have hh : b = _ := hh;omega)).chg ch5 (fun b hb hh => by have := low b hb;have hh : b = _ := hh;omega);have ltw := ow.lt;have C5 := (((Chg.of_ext (S := fun b => b = sb) E2).trans c3).late ch4 (fun b hb => by left;have hb : b = _ := hb;omega)).trans ch5;go_wp2_with (first | ((with_reducible show gx9);refine jcc (j := 4) rfl rfl B5 rfl rfl rfl rfl ?_;intro w6 B6 ch6;have B6 : HB w6 (w.heap.size + 1) #[.int .i64 k,.int .i64 i,.int .i64 i,.slice q nw c,.slice q5 nb c5] 41 := B6;have Z6 := Z5.chg ch6 (fun hh => by omega);have r0 := B6.cell 0 rfl;have r1 := B6.cell 1 rfl;have r2 := B6.cell 2 rfl;have r3 := B6.cell 3 rfl;have r4 := B6.cell 4 rfl;have f0 := Z6.froz 0;have f1 := Z6.froz 1;have f2 := Z6.froz 2;have f3 := Z6.froz 3;have f4 := Z6.froz 4;have z0 := Z6.cell 0 rfl;have z1 := Z6.cell 1 rfl;have z2 := Z6.cell 2 rfl;have z3 := Z6.cell 3 rfl;have z4 := Z6.cell 4 rfl) | fail);have Z7 : HB (((((w6.setCell ⟨w.heap.size,0,none⟩ (.int .i64 k)).setCell ⟨w.heap.size,1,none⟩ (.int .i64 i)).setCell ⟨w.heap.size,2,none⟩ (.int .i64 i)).setCell ⟨w.heap.size,3,none⟩ (.slice q nw c)).setCell ⟨w.heap.size,4,none⟩ (.slice q5 nb c5)) w.heap.size #[.int .i64 k,.int .i64 i,.int .i64 i,.slice q nw c,.slice q5 nb c5] 41 := ((((Z6.set 0 _).set 1 _).set 2 _).set 3 _).set 4 _;have C7 : Chg (fun b => b = w.heap.size) w6 (((((w6.setCell ⟨w.heap.size,0,none⟩ (.int .i64 k)).setCell ⟨w.heap.size,1,none⟩ (.int .i64 i)).setCell ⟨w.heap.size,2,none⟩ (.int .i64 i)).setCell ⟨w.heap.size,3,none⟩ (.slice q nw c)).setCell ⟨w.heap.size,4,none⟩ (.slice q5 nb c5)) := ((((ja3 _ _ 0 _).trans (ja3 _ _ 1 _)).trans (ja3 _ _ 2 _)).trans (ja3 _ _ 3 _)).trans (ja3 _ _ 4 _);clear r0 r1 r2 r3 r4 f0 f1 f2 f3 f4 z0 z1 z2 z3 z4;generalize (((((w6.setCell ⟨w.heap.size,0,none⟩ (.int .i64 k)).setCell ⟨w.heap.size,1,none⟩ (.int .i64 i)).setCell ⟨w.heap.size,2,none⟩ (.int .i64 i)).setCell ⟨w.heap.size,3,none⟩ (.slice q nw c)).setCell ⟨w.heap.size,4,none⟩ (.slice q5 nb c5)) = W7 at *;have y0 := Z7.cell 0 rfl;have y1 := Z7.cell 1 rfl;have y2 := Z7.cell 2 rfl;have y3 := Z7.cell 3 rfl;have y4 := Z7.cell 4 rfl;refine bodyPost_ret (v := .agg #[.int .i64 k,.int .i64 i,.int .i64 i,.slice q nw c,.slice q5 nb c5]) (by simp [results,Try.results97,go_sem,y0,y1,y2,y3,y4]) rfl ?_;have k6 := ch6.size;have ow7 := (ow5.chg ch6 (fun b hb hh => by have := low b hb;have hh : b = _ := hh;omega)).chg C7 (fun b hb hh => by have := low b hb;have hh : b = _ := hh;omega);have ob7 := (ob.chg ch6 (fun b hb hh => by have := lob b hb;have hh : b = _ := hh;omega)).chg C7 (fun b hb hh => by have := lob b hb;have hh : b = _ := hh;omega);have tw7 := (tw5.chg ch6 (fun b hb hh => by have := low b hb;have hh : b = _ := hh;omega)).chg C7 (fun b hb hh => by have := low b hb;have hh : b = _ := hh;omega);have tb7 := (tb.chg ch6 (fun b hb hh => by have := lob b hb;have hh : b = _ := hh;omega)).chg C7 (fun b hb hh => by have := lob b hb;have hh : b = _ := hh;omega);have fw7 := (((fw.chg ch4 (fun b hb => by have hb : b = _ := hb;omega)).chg ch5 (fun b hb => by have hb : b = _ := hb;omega)).chg ch6 (fun b hb => by have hb : b = _ := hb;omega)).chg C7 (fun b hb => by have hb : b = _ := hb;omega);have fb7 := (fb.chg ch6 (fun b hb => by have hb : b = _ := hb;omega)).chg C7 (fun b hb => by have hb : b = _ := hb;omega);subst hwl;subst hbl;refine ⟨ws,bv,q,q5,c,c5,rfl,HL.out _ _ rfl rfl,hwb,hbb,⟨bsw ++ bsb,own_lay (d := (k,i,i,ws,bv,())) ow7 ob7,nodup_app ndw ndb (fun x hx => by have := ltw x hx;omega) (fun x hx => lob x hx),?_,tw7.app tb7⟩,?_,(C5.late ch6 (fun b hb => by left;have hb : b = _ := hb;omega)).late C7 (fun b hb => by left;have hb : b = _ := hb;omega),fw7.base (by omega),fb7.base (by omega)⟩
  · intro b hb
    rcases List.mem_append.1 hb with h | h
    · have := low b h;omega
    · have := lob b h;omega
  · exact ((S5.chg ch6 (fun b hb => by have hb : b = _ := hb;omega)).chg C7 (fun b hb => by have hb : b = _ := hb;omega)).mono (by omega)
theorem l02DrawSized_any (sb K R C : Nat) (w : World) (h : DrAt w sb K) (hR : R ≤ 16) (hC : C ≤ 16) (hK : K ≤ 1000000) : Calls Try.prog 49 #[.pointer (some ⟨sb,0,none⟩),.int .i64 R,.int .i64 C] w fun e w' => ∃ (xs : List Nat) (q : Option Addr) (c : Nat) (vs : List Value),e = .returned (.agg #[.int .i64 R,.int .i64 C,.slice q (R * C) c]) ∧ xs.length = R * C ∧ (∀ x ∈ xs,x < 4294967296) ∧ w'.ownsRow w.heap.size 33 1 (.slice q (R * C) c) (R * C) vs ∧ F32s vs xs ∧ DrAt w' sb (K + 10000) ∧ Chg (fun b => b = sb) w w' := by
 have hlt0 := h.lt;have hRC : R * C ≤ 16 * 16 := Nat.mul_le_mul hR hC;obtain ⟨W0,hW0⟩ : ∃ W0,W0 = w.alloc (.cells #[.int .i64 0,.int .i64 0,.slice none 0 0] 27) := ⟨_,rfl⟩;have E0 : Ext w W0 := by rw [hW0];exact Ext.alloc _ _
 have b0 : HB W0 w.heap.size #[.int .i64 0,.int .i64 0,.slice none 0 0] 27 := by rw [hW0];exact HB.new _ _ _
 have hm : IntKind.i64.wrap ((R : Int) * (C : Int)) = ((R * C : Nat) : Int) := by rw [← Int.natCast_mul];exact jbd _ (by omega) (by omega)
 have H0 := h.ext E0;have z0 := b0.lt;generalize hRM : R * C = RM at *;go_enter Try.func49,Try.ntmps49;go_wp2_with fail;rw [← hW0];clear hW0;refine (drFloats_any sb K RM W0 H0 (by omega) (by omega)).mono ?_;rintro e w1 ⟨xs,hx,hxb,⟨q,c,vs,rfl,ho,hf⟩,S1,c1⟩
 rw [hx] at ho ⊢;have B1 := b0.chg c1 (fun hh => by omega);have n0 := B1.froz 0;have n1 := B1.froz 1;have n2 := B1.froz 2;have y0 := B1.cell 0 rfl;have y1 := B1.cell 1 rfl;have y2 := B1.cell 2 rfl;have HX := hid hx;clear hx;go_wp2;have Z7 : HB (((w1.setCell ⟨w.heap.size,0,none⟩ (.int .i64 R)).setCell ⟨w.heap.size,1,none⟩ (.int .i64 C)).setCell ⟨w.heap.size,2,none⟩ (.slice q RM c)) w.heap.size #[.int .i64 R,.int .i64 C,.slice q RM c] 27 := ((B1.set 0 _).set 1 _).set 2 _;have C7 : Chg (fun b => b = w.heap.size) w1 (((w1.setCell ⟨w.heap.size,0,none⟩ (.int .i64 R)).setCell ⟨w.heap.size,1,none⟩ (.int .i64 C)).setCell ⟨w.heap.size,2,none⟩ (.slice q RM c)) := ((ja3 _ _ 0 _).trans (ja3 _ _ 1 _)).trans (ja3 _ _ 2 _);clear n0 n1 n2 y0 y1 y2;generalize (((w1.setCell ⟨w.heap.size,0,none⟩ (.int .i64 R)).setCell ⟨w.heap.size,1,none⟩ (.int .i64 C)).setCell ⟨w.heap.size,2,none⟩ (.slice q RM c)) = W7 at *;have y0 := Z7.cell 0 rfl;have y1 := Z7.cell 1 rfl;have y2 := Z7.cell 2 rfl;refine bodyPost_ret (v := .agg #[.int .i64 R,.int .i64 C,.slice q RM c]) (by simp [results,Try.results49,go_sem,y0,y1,y2]) rfl ?_;exact ⟨xs,q,c,vs,rfl,HX.out,hxb,jak (jay ho C7 (fun k hk hs => by have hs : k = _ := hs;have := jap ho k hk;omega)) (by omega),hf,(S1.chg C7 (fun b hb => by have hb : b = _ := hb;omega)).mono (by omega),((Chg.of_ext (S := fun b => b = sb) E0).trans c1).late C7 (fun b hb => by left;have hb : b = _ := hb;omega)⟩
theorem jaj.snocC {S : Nat → Prop} {w0 w w' : World} {B : Nat} {te : TypeId} {E : Sh} {v : Value} {l : List E.T} {css : List (List Value)} {bss : List (List Nat)} (h : jaj w0 B te E v l css bss) (hx : Chg S w0 w) (hS : ∀ b,S b → b < B) {cs : List Value} {d : E.T} {bs : List Nat}
 (ho : Own w E cs d bs) (hn : bs.Nodup) (hf : ∀ b ∈ bs,w0.heap.size ≤ b) (hB : B ≤ w0.heap.size) {g c n : Nat} (hln : l.length = n) (hr : w'.ownsRow B te E.sz (.slice (some ⟨g,0,none⟩) (n + 1) c) (n + 1) (css.flatten ++ cs)) (hg : w.grownBy w' v.ownBlock) (hw : v.ownBlock = some g ∨ w.heap.size ≤ g) :
 jaj w' B te E (.slice (some ⟨g,0,none⟩) (n + 1) c) (l ++ [d]) (css ++ [cs]) (bss ++ [bs]) := by
 subst hln;have lt0 := h.els.lt;have hv : ∀ k,v.ownBlock = some k → k < w0.heap.size := jcw h.row;have hsz := hx.size;have ch : Chg (fun k => some k = v.ownBlock) w w' := Chg.of_grown hg;have hlo := h.lo;refine ⟨by simpa [List.flatten_append] using hr,?_,?_,?_⟩
 · refine OwnEs.snoc ((h.els.chg hx (fun b hb hs => by have := (hlo b hb).1;have := hS b hs;omega)).chg ch (fun b hb hk => (hlo b hb).2 hk.symm)) (ho.chg ch fun b hb hk => ?_)
   have := hv b hk.symm;have := hf b hb;omega
 · rw [List.flatten_append,List.flatten_cons,List.flatten_nil,List.append_nil]
   exact nodup_app h.nodup hn lt0 hf
 · intro b hb
   rw [List.flatten_append,List.flatten_cons,List.flatten_nil,List.append_nil,List.mem_append] at hb
   have hlb : b < w.heap.size := by
    rcases hb with hb | hb
    · have := lt0 b hb;omega
    · exact ho.lt b hb
   refine ⟨?_,fun hk => ?_⟩
   · rcases hb with hb | hb
     · exact (hlo b hb).1
     · have := hf b hb;omega
   · simp [Value.ownBlock] at hk;subst hk
     rcases hw with hw | hw
     · rcases hb with hb | hb
       · exact (hlo _ hb).2 hw
       · have := hv _ hw;have := hf _ hb;omega
     · omega
def lastO (i0 : Int) (L : List jab.T) : Int := match L.getLast? with
 | some d => layO d
 | none => i0
def lastP? (L : List jab.T) (p : Option Int) : Option Int := match L.getLast? with
 | some d => some (layO d)
 | none => p
theorem modGo_snoc (d : jab.T) : ∀ (L : List jab.T) (p : Option Int),modGo p (L ++ [d]) = (modGo p L && (layD d && linkL (lastP? L p) d.2.1))
 | [],p => by simp [modGo,lastP?]
 | x :: L,p => by
   have ih := modGo_snoc d L (some (layO x))
   have hl : lastP? (x :: L) p = lastP? L (some (layO x)) := by
    unfold lastP?
    cases L with
    | nil => rfl
    | cons y L => rw [List.getLast?_cons_cons];cases h : (y :: L).getLast? with
      | none => simp at h
      | some z => rfl
   rw [List.cons_append,modGo,modGo,ih,hl]
   cases layD x <;> cases linkL p x.2.1 <;> simp
theorem lastO_snoc (i0 : Int) (L : List jab.T) (d : jab.T) : lastO i0 (L ++ [d]) = layO d := by simp [lastO]
def GoodL (i0 : Int) (L : List jab.T) : Prop := modGo none L = true ∧ 1 ≤ lastO i0 L ∧ lastO i0 L ≤ 8 ∧ Fit (.sl jab) L
theorem GoodL.snoc {i0 : Int} {L : List jab.T} (h : GoodL i0 L) {k o : Int} {ws bs : List Nat} (hl : layB k (lastO i0 L) o ws.length bs.length = true) (hw : ∀ x ∈ ws,x < 4294967296) (hb : ∀ x ∈ bs,x < 4294967296) : GoodL i0 (L ++ [(k,lastO i0 L,o,ws,bs,())]) := by
 obtain ⟨h1,h2,h3,h4⟩ := h;have hl2 := hl;unfold layB at hl2;simp only [Bool.and_eq_true,jaz,decide_eq_true_eq,Bool.or_eq_true] at hl2;refine ⟨?_,?_,?_,?_⟩
 · rw [modGo_snoc,h1]
   have : layD (k,lastO i0 L,o,ws,bs,()) = true := hl;rw [this,Bool.true_and,Bool.true_and];show linkL (lastP? L none) (lastO i0 L) = true;unfold lastP? lastO
   cases L.getLast? with
   | none => rfl
   | some x => simp [linkL]
 · rw [lastO_snoc];exact hl2.2.2.1.1
 · rw [lastO_snoc];exact hl2.2.2.1.2
 · intro x hx
   rcases List.mem_append.1 hx with hx | hx
   · exact h4 x hx
   · simp at hx;subst hx
     have a1 : -9223372036854775808 ≤ k ∧ k ≤ 9223372036854775807 := by omega
     have a2 : -9223372036854775808 ≤ lastO i0 L ∧ lastO i0 L ≤ 9223372036854775807 := by omega
     have a3 : -9223372036854775808 ≤ o ∧ o ≤ 9223372036854775807 := by omega
     exact ⟨a1,a2,a3,hw,hb,trivial⟩
theorem jaj.chgN {S : Nat → Prop} {w w' : World} {B : Nat} {te : TypeId} {E : Sh} {v : Value} {l : List E.T} {css : List (List Value)} {bss : List (List Nat)} (h : jaj w B te E v l css bss) (k : Chg S w w') (h1 : ∀ b,v.ownBlock = some b → ¬ S b) (h2 : ∀ b ∈ bss.flatten,¬ S b) : jaj w' B te E v l css bss :=
 ⟨jay h.row k h1,h.els.chg k (fun b hb hs => h2 b hb hs),h.nodup,h.lo⟩
def key (b : Nat) : Int := match FloatKind.f32.decode b with
 | .number s m e => Rnd.sg s (Rnd.cnt m e)
 | .infinity s => Rnd.sg s (pw 6000)
 | .nan _ _ => 0
section
variable {P : Program} {w : World} {ops : Array Oper} {rest : List Oper} {o o1 o2 : Oper} {a : Act} {Q : Exit → Act → World → Prop}
theorem wl_idxloadW {t e b : Nat} {z : Value} [SlTy P t e 1 z b] [Cell1 P e] {x ix : Operand} {d : Tmp} (hw1 : Region.wanted o1 (yielded ops a.tmps) = true) (ho1 : o1.op = .indexAddr t x ix) (hw2 : ∀ y,Region.wanted o2 (yielded ops (a.put o1.dst y).tmps) = true) (ho2 : o2.op = .load e (.tmp d))
 {p : Option Addr} {n c : Nat} {k : IntKind} {i : Int} (hd : ∀ y,(a.put o1.dst y).eval (.tmp d) = y)
 (hx : a.eval x = .slice p n c) (hi : a.eval ix = .int k i) {vs : List Value} (hc : Cs w p vs) (hvn : vs.length = n) (h0 : 0 ≤ i) (hn : i < n) {u : Value} (hu : vs[i.toNat]? = some u)
 (h : wpList P ops Q rest ((a.put o1.dst (.pointer (some (adr p i.toNat)))).put o2.dst u) w) : wpList P ops Q (o1 :: o2 :: rest) a w := by
 have hlt : i.toNat < vs.length := by omega
 have hp : p.isSome = true := hc.isS (by intro h;simp [h] at hlt);refine wl_valueW hw1 (w' := w) (v := .pointer (some (adr p i.toNat))) (by simp [execOp,ho1,hx,hi,run_indexAt hp h0 hn]) ?_;exact wl_valueW (hw2 _) (by simp [execOp,ho2,hd,jch (hc.cell _ _ hu)]) h
end
theorem r8At_any (p : Option Addr) (n c : Nat) (bs : List Nat) (i N : Nat) (w : World) (hc : Cs w p (u8s bs)) (hl : bs.length = n) (hn : n ≤ 1048576) (hb : ∀ b ∈ bs,b < 256) (hN : N ≤ 100000) :
 Calls Try.prog 10 #[.slice p n c,.int .i64 i,.int .i64 N] w fun e w' => ∃ x : Nat,e = .returned (.int .i64 x) ∧ (1 ≤ N → x < N) ∧ w = w' := by
 have hlen : (u8s bs).length = n := by simp [u8s,hl]
 by_cases h1 : N ≤ 1
 · go_enter Try.func10,Try.ntmps10
   go_wp2;go_ret;exact ⟨0,rfl,fun h => by omega,rfl⟩
 · have d3 : ((N : Int) = 0) = False := by simp;omega
   have d4 : ((N : Int) = -1) = False := by first | (simp;done) | (simp;omega)
   by_cases h2 : i < n
   · have hib : i < bs.length := by omega
     have hv : (u8s bs)[i]? = some (.int .u8 ((bs[i] : Nat) : Int)) := by simp [u8s,hib]
     have hb2 := hb bs[i] (by simp);generalize bs[i] = b at *;have wb : IntKind.i64.wrap (b : Int) = (b : Int) := jbd _ (by omega) (by omega);have Hv := hid hv;have Hl := hid hlen;have hni : ¬ n ≤ i := by omega
     clear hv hlen hl hib hb;go_enter Try.func10,Try.ntmps10;go_wp2_with ((with_reducible show gx2);refine jar rfl rfl rfl rfl (fun _ => rfl) rfl rfl hc Hl.out (by omega) (by omega) ?_;intro u hu;rw [Int.toNat_natCast,Hv.out] at hu;cases hu);go_ret;have g1 := Int.emod_nonneg (b : Int) (show (N : Int) ≠ 0 by omega);have g2 := Int.emod_lt_of_pos (b : Int) (show (0 : Int) < N by omega);exact ⟨((b : Int) % N).toNat,by rw [Int.toNat_of_nonneg g1];rfl,fun h => by omega,rfl⟩
   · have hni : n ≤ i := by omega
     go_enter Try.func10,Try.ntmps10;go_wp2;go_ret;exact ⟨0,rfl,fun h => by omega,rfl⟩
theorem R8Tensor_any (p : Option Addr) (n c : Nat) (bs : List Nat) (R C : Nat) (w : World) (hc : Cs w p (u8s bs)) (hl : bs.length = n) (hn : n ≤ 1048576) (hb : ∀ b ∈ bs,b < 256) (hR : R ≤ 16) (hC : C ≤ 16) :
 Calls Try.prog 12 #[.slice p n c,.int .i64 R,.int .i64 C] w (GotT R C w) := by
 obtain ⟨W0,hW0⟩ : ∃ W0,W0 = w.alloc (.cells #[.int .i64 0,.int .i64 0,.slice none 0 0] 27) := ⟨_,rfl⟩;have E0 : Ext w W0 := by rw [hW0];exact Ext.alloc _ _
 have b0 : HB W0 w.heap.size #[.int .i64 0,.int .i64 0,.slice none 0 0] 27 := by rw [hW0];exact HB.new _ _ _
 have z0 := b0.lt;go_enter Try.func12,Try.ntmps12;go_wp2_with fail;rw [← hW0];clear hW0;refine (l00From_any p n c bs W0 (hc.ext E0) hl hn hb).mono ?_;rintro e w1 ⟨rfl,src,e1⟩
 have hsz := e1.size;go_wp2_with fail;refine (l02DrawSized_any W0.heap.size 0 R C w1 src hR hC (by omega)).mono ?_;rintro e w2 ⟨xs,q,c2,vs,rfl,hx,hxb,ho,hf,_,c3⟩
 have E2 := chg_new (E0.trans e1) c3 (by omega);have B1 := (b0.ext e1).chg c3 (fun hh => by omega);have n0 := B1.froz 0;have n1 := B1.froz 1;have n2 := B1.froz 2;have y0 := B1.cell 0 rfl;have y1 := B1.cell 1 rfl;have y2 := B1.cell 2 rfl;have HX := hid hx;clear hx;generalize hRM : R * C = RM at *;go_wp2;have Z7 : HB (((w2.setCell ⟨w.heap.size,0,none⟩ (.int .i64 R)).setCell ⟨w.heap.size,1,none⟩ (.int .i64 C)).setCell ⟨w.heap.size,2,none⟩ (.slice q RM c2)) w.heap.size #[.int .i64 R,.int .i64 C,.slice q RM c2] 27 := ((B1.set 0 _).set 1 _).set 2 _;have C7 : Chg (fun b => b = w.heap.size) w2 (((w2.setCell ⟨w.heap.size,0,none⟩ (.int .i64 R)).setCell ⟨w.heap.size,1,none⟩ (.int .i64 C)).setCell ⟨w.heap.size,2,none⟩ (.slice q RM c2)) := ((ja3 _ _ 0 _).trans (ja3 _ _ 1 _)).trans (ja3 _ _ 2 _);clear n0 n1 n2 y0 y1 y2;generalize (((w2.setCell ⟨w.heap.size,0,none⟩ (.int .i64 R)).setCell ⟨w.heap.size,1,none⟩ (.int .i64 C)).setCell ⟨w.heap.size,2,none⟩ (.slice q RM c2)) = W7 at *;have y0 := Z7.cell 0 rfl;have y1 := Z7.cell 1 rfl;have y2 := Z7.cell 2 rfl;refine bodyPost_ret (v := .agg #[.int .i64 R,.int .i64 C,.slice q RM c2]) (by simp [results,Try.results12,go_sem,y0,y1,y2]) rfl ?_;subst hRM;exact ⟨xs,q,c2,vs,rfl,HX.out,hxb,jak (jay ho C7 (fun k hk hs => by have hs : k = _ := hs;have := jap ho k hk;omega)) (by omega),hf,E2.chg C7 (fun b hb => by have hb : b = _ := hb;omega)⟩
theorem tab_selfR (xs : List Nat) : tab xs.length (fun i => xs.getD i 0) = xs := by
 apply List.ext_getElem?;intro j;unfold tab
 by_cases hj : j < xs.length
 · simp [hj]
 · simp [show xs.length ≤ j by omega]
def addF (a b : List Nat) : List Nat := tab a.length fun i => fop .add .f32 (a.getD i 0) (b.getD i 0)
theorem addF_len (a b : List Nat) : (addF a b).length = a.length := jbz _ _
def sumK (l : List (List Nat)) (f j : Nat) : Nat → Nat
 | 0 => (l.getD f []).getD j 0
 | i + 1 => fop .add .f32 (sumK l f j i) ((l.getD ((f + i + 1) % l.length) []).getD j 0)
def fstR (k : Int) (n j : Nat) : Nat := if k = 2 then j % n else 0
def ringF (k : Int) (l : List (List Nat)) : List Nat := tab (l.getD 0 []).length fun j => sumK l (fstR k l.length j) j (l.length - 1)
def prF (l : List (List Nat)) (j : Nat) : List Nat := if 2 * j + 1 < l.length then addF (l.getD (2 * j) []) (l.getD (2 * j + 1) []) else l.getD (2 * j) []
def ltab (n : Nat) (f : Nat → List Nat) : List (List Nat) := (List.range n).map f
theorem ltab_len (n : Nat) (f : Nat → List Nat) : (ltab n f).length = n := by simp [ltab]
theorem ltab_get {n i : Nat} (f : Nat → List Nat) (h : i < n) : (ltab n f).getD i [] = f i := by simp [ltab,h]
theorem ltab_succ (n : Nat) (f : Nat → List Nat) : ltab (n + 1) f = ltab n f ++ [f n] := by simp [ltab,List.range_succ]
def pairF (l : List (List Nat)) : List (List Nat) := ltab ((l.length + 1) / 2) (prF l)
theorem pairF_len (l : List (List Nat)) : (pairF l).length = (l.length + 1) / 2 := ltab_len _ _
def treeN : Nat → List (List Nat) → List Nat
 | 0,l => l.getD 0 []
 | n + 1,l => if l.length ≤ 1 then l.getD 0 [] else treeN n (pairF l)
theorem treeN_eq : ∀ (n m : Nat) (l : List (List Nat)),l.length ≤ n → l.length ≤ m → treeN n l = treeN m l
 | 0,0,_,_,_ => rfl
 | 0,m + 1,l,h,_ => by show l.getD 0 [] = treeN (m + 1) l;unfold treeN;rw [if_pos (by omega)]
 | n + 1,0,l,_,h => by show treeN (n + 1) l = l.getD 0 [];unfold treeN;rw [if_pos (by omega)]
 | n + 1,m + 1,l,h1,h2 => by
   unfold treeN
   by_cases h : l.length ≤ 1
   · rw [if_pos h,if_pos h]
   · rw [if_neg h,if_neg h]
     exact treeN_eq n m (pairF l) (by rw [pairF_len];omega) (by rw [pairF_len];omega)
def treeF (l : List (List Nat)) : List Nat := treeN l.length l
theorem treeF_one {l : List (List Nat)} (h : l.length ≤ 1) : treeF l = l.getD 0 [] := by
 unfold treeF
 cases hl : l.length with
 | zero => rfl
 | succ n => unfold treeN;rw [if_pos (by omega)]
theorem treeF_pair {l : List (List Nat)} (h : 1 < l.length) : treeF l = treeF (pairF l) := by
 obtain ⟨n,hn⟩ : ∃ n,l.length = n + 1 := ⟨l.length - 1,by omega⟩;unfold treeF;rw [hn];show (if l.length ≤ 1 then l.getD 0 [] else treeN n (pairF l)) = _;rw [if_neg (by omega)];exact treeN_eq _ _ _ (by rw [pairF_len];omega) (Nat.le_refl _)
def redF (k : Int) (l : List (List Nat)) : List Nat := if k = 1 then treeF l else ringF k l
def EvenL (l : List (List Nat)) (N : Nat) : Prop := ∀ i,i < l.length → (l.getD i []).length = N
theorem EvenL.pair {l : List (List Nat)} {N : Nat} (h : EvenL l N) : EvenL (pairF l) N := by
 intro i hi;rw [pairF_len] at hi;unfold pairF;rw [ltab_get _ hi];unfold prF
 by_cases h1 : 2 * i + 1 < l.length
 · rw [if_pos h1,addF_len];exact h _ (by omega)
 · rw [if_neg h1];exact h _ (by omega)
theorem EvenL.tree : ∀ {n : Nat} {l : List (List Nat)} {N : Nat},l.length = n → 1 ≤ n → EvenL l N → (treeF l).length = N := by
 intro n
 induction n using Nat.strongRecOn with
 | _ n ih =>
   intro l N hl h1 h
   by_cases h2 : l.length ≤ 1
   · rw [treeF_one h2];exact h 0 (by omega)
   · rw [treeF_pair (by omega)]
     exact ih _ (by rw [← hl];omega) (pairF_len l) (by omega) h.pair
theorem EvenL.red {l : List (List Nat)} {N : Nat} (h : EvenL l N) (h1 : 1 ≤ l.length) (k : Int) : (redF k l).length = N := by
 unfold redF
 split
 · exact h.tree rfl h1
 · unfold ringF;rw [jbz];exact h 0 (by omega)
def lineF (l : List (List Nat)) (t : Nat) : List Nat := tab (l.getD 0 []).length fun j => sumK l 0 j t
theorem lineF_zero (l : List (List Nat)) : lineF l 0 = l.getD 0 [] := by
 unfold lineF
 apply List.ext_getElem?;intro j;unfold tab sumK
 by_cases hj : j < (l.getD 0 []).length
 · simp only [List.getElem?_map,List.getElem?_range hj,Option.map_some]
   rw [List.getD_eq_getElem?_getD (l := l.getD 0 []) (i := j),List.getElem?_eq_getElem hj];rfl
 · rw [List.getElem?_eq_none (by rw [List.length_map,List.length_range];omega),List.getElem?_eq_none (by omega)]
theorem lineF_succ (l : List (List Nat)) {t : Nat} (h : t + 1 < l.length) : lineF l (t + 1) = addF (lineF l t) (l.getD (t + 1) []) := by
 unfold addF;have e : (lineF l t).length = (l.getD 0 []).length := jbz _ _;rw [e];unfold lineF tab
 apply List.map_congr_left;intro j hj;rw [List.mem_range] at hj;show sumK l 0 j (t + 1) = _;rw [show (List.getD ((List.range (l.getD 0 []).length).map fun j => sumK l 0 j t) j 0) = sumK l 0 j t from tab_get (fun j => sumK l 0 j t) hj];show fop .add .f32 (sumK l 0 j t) ((l.getD ((0 + t + 1) % l.length) []).getD j 0) = _;rw [Nat.zero_add,Nat.mod_eq_of_lt h]
theorem lineF_last {l : List (List Nat)} {k : Int} (h : k ≠ 1) (h2 : k ≠ 2) : redF k l = lineF l (l.length - 1) := by
 unfold redF;rw [if_neg h];unfold ringF fstR lineF;simp only [if_neg h2]
structure Fls (w : World) (p : Option Addr) (n : Nat) (us : List Value) (l : List (List Nat)) : Prop where
 cs : Cs w p us
 at' : ∀ i,i < n → ∃ q c vs,us[i]? = some (.slice q (l.getD i []).length c) ∧ Cs w q vs ∧ F32s vs (l.getD i []) ∧ (l.getD i []).length ≤ c
 len : l.length = n
 cnt : us.length = n
theorem Fls.ext {w w' : World} {p : Option Addr} {n : Nat} {us : List Value} {l : List (List Nat)} (h : Fls w p n us l) (e : Ext w w') : Fls w' p n us l :=
 ⟨h.cs.ext e,fun i hi => by obtain ⟨q,c,vs,h1,h2,h3,h4⟩ := h.at' i hi;exact ⟨q,c,vs,h1,h2.ext e,h3,h4⟩,h.len,h.cnt⟩
theorem fls_of {w : World} {v : Value} {l : List (List Nat)} (h : Rep w (.sl (.sl .flt)) [v] l) : ∃ p c us,v = .slice p l.length c ∧ Fls w p l.length us l ∧ l.length ≤ c ∧ c ≤ maxLen ∧ ∀ i,i < l.length → (l.getD i []).length ≤ maxLen := by
 obtain ⟨p,c,css,h1,a2,a3,a4,a5⟩ := h
 cases h1
 have a6 : ∀ c ∈ css,c.length = 1 := fun c hc => by obtain ⟨i,hi,rfl⟩ := List.mem_iff_getElem.1 hc;obtain ⟨_,h⟩ := a5.get' i (by rw [← a5.length];exact hi);exact h.size
 have hget : ∀ i (hi : i < l.length),∃ q c vs,css.flatten[i]? = some (.slice q (l.getD i []).length c) ∧ Cs w q vs ∧ F32s vs (l.getD i []) ∧ (l.getD i []).length ≤ c ∧ c ≤ maxLen := by
  intro i hi;obtain ⟨h1,h2⟩ := a5.get' i hi;obtain ⟨q,c,vs,g1,k1,k2,k3,k4⟩ := jcj.1 h2;have e : l.getD i [] = l[i] := by simp [hi]
  rw [e];refine ⟨q,c,vs,?_,k1,k2,k3,k4⟩;have := flat_get' (j := 0) a6 h1 (by decide);rw [Nat.mul_one,Nat.add_zero,g1] at this
  simpa using this
 refine ⟨p,c,css.flatten,rfl,⟨a2,fun i hi => ?_,rfl,?_⟩,a3,a4,fun i hi => ?_⟩
 · obtain ⟨q,c,vs,k1,k2,k3,k4,_⟩ := hget i hi;exact ⟨q,c,vs,k1,k2,k3,k4⟩
 · rw [flat_len' a6,Nat.mul_one,a5.length]
 · obtain ⟨q,c,vs,k1,k2,k3,k4,k5⟩ := hget i hi;exact Nat.le_trans k4 k5
theorem getD_app {A : Type} (l k : List A) (d : A) (j : Nat) : (l ++ k).getD j d = if j < l.length then l.getD j d else k.getD (j - l.length) d := by
 by_cases h : j < l.length
 · rw [if_pos h];simp [List.getD_eq_getElem?_getD,List.getElem?_append_left h]
 · rw [if_neg h];simp [List.getD_eq_getElem?_getD,List.getElem?_append_right (Nat.le_of_not_lt h)]
theorem getD_appl {A : Type} (l k : List A) (d : A) (j : Nat) (h : j < l.length) : (l ++ k).getD j d = l.getD j d := by rw [getD_app,if_pos h]
theorem jcy {A : Type} (l k : List A) (d : A) (j : Nat) (h : l.length ≤ j) : (l ++ k).getD j d = k.getD (j - l.length) d := by rw [getD_app,if_neg (by omega)]
def ntab (n : Nat) (f : Nat → Nat) : List Nat := (List.range n).map f
theorem jah (n : Nat) (f : Nat → Nat) : (ntab n f).length = n := by simp [ntab]
theorem ntab_get {n i : Nat} (f : Nat → Nat) (h : i < n) : (ntab n f).getD i 0 = f i := by simp [ntab,h]
theorem ntab_succ (n : Nat) (f : Nat → Nat) : ntab (n + 1) f = ntab n f ++ [f n] := by simp [ntab,List.range_succ]
theorem ntab_congr {n : Nat} {f g : Nat → Nat} (h : ∀ i,i < n → f i = g i) : ntab n f = ntab n g := by
 unfold ntab;exact List.map_congr_left fun i hi => h i (by simpa using hi)
theorem ntab_self (xs : List Nat) : ntab xs.length (fun i => xs.getD i 0) = xs := by
 refine List.ext_getElem (by simp [ntab]) fun i h1 h2 => ?_
 simp [ntab,h2]
def addX (n : Nat) (xs ys : List Nat) : List Nat := ntab n fun i => fop .add .f32 (xs.getD i 0) (ys.getD i 0)
def mulX (n : Nat) (xs ys : List Nat) : List Nat := ntab n fun i => fop .mul .f32 (xs.getD i 0) (ys.getD i 0)
def addRX (n c : Nat) (xs ys : List Nat) : List Nat := ntab n fun i => fop .add .f32 (xs.getD i 0) (ys.getD (i % c) 0)
def mulRX (n c : Nat) (xs ys : List Nat) : List Nat := ntab n fun i => fop .mul .f32 (xs.getD i 0) (ys.getD (i % c) 0)
def sclX (n : Nat) (xs : List Nat) (z : Nat) : List Nat := ntab n fun i => fop .mul .f32 (xs.getD i 0) z
def rluX (n : Nat) (xs : List Nat) : List Nat := ntab n fun i => reluF (xs.getD i 0)
def turnX (r c : Nat) (xs : List Nat) : List Nat := ntab (c * r) fun k => xs.getD (k % r * c + k / r) 0
def mmX (a n b : Nat) (xs ys : List Nat) : List Nat := ntab (a * b) fun k => dotG (fun j => xs.getD (k / b * n + j) 0) (fun j => ys.getD (j * b + k % b) 0) n
def colG (c j : Nat) (xs : List Nat) : Nat → Nat
 | 0 => 0
 | m + 1 => if m % c = j then fop .add .f32 (colG c j xs m) (xs.getD m 0) else colG c j xs m
def sumRX (c : Nat) (xs : List Nat) : List Nat := ntab c fun j => colG c j xs xs.length
def rpX (n : Nat) (xs gs : List Nat) : List Nat := ntab n fun i => if fgt .f32 (xs.getD i 0) 0 then gs.getD i 0 else 0
theorem div_mod_at {b i k : Nat} (hk : k < b) : (i * b + k) / b = i ∧ (i * b + k) % b = k := by
 have hb : 0 < b := by omega
 constructor
 · rw [Nat.mul_comm,Nat.mul_add_div hb,Nat.div_eq_of_lt hk,Nat.add_zero]
 · rw [Nat.mul_comm,Nat.mul_add_mod,Nat.mod_eq_of_lt hk]
theorem row_lt {b i k a : Nat} (hi : i < a) (hk : k < b) : i * b + k < a * b := by
 have := Nat.mul_le_mul_right b (show i + 1 ≤ a by omega);rw [Nat.add_mul,Nat.one_mul] at this;omega
end Go.Proofs.Ytmbckkcgiafagaa
