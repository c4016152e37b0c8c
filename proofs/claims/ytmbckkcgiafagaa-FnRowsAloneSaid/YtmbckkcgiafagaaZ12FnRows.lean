/- A part of the proofs: Dr5, Dr6. -/
import Derived.Test.YtmbckkcgiafagaaZ11FnRows
import Derived.Test.YtmbckkcgiafagaaZ06FnRows
import Derived.Test.YtmbckkcgiafagaaZ07FnRows
import Derived.Test.YtmbckkcgiafagaaZ10FnRows
set_option linter.unusedSimpArgs false
set_option linter.unusedVariables false
set_option maxRecDepth 100000
set_option maxHeartbeats 16000000
namespace Go.Proofs.Ytmbckkcgiafagaa
open Go.RowKit
theorem Chg.late {S S' : Nat → Prop} {w w1 w2 : World} (h : Chg S w w1) (k : Chg S' w1 w2) (hS : ∀ b,S' b → w.heap.size ≤ b ∨ S b) : Chg S w w2 :=
 ⟨k.os.trans h.os,k.tape.trans h.tape,k.output.trans h.output,Nat.le_trans h.size k.size,fun i hi hn => (k.block i (Nat.lt_of_lt_of_le hi h.size) (fun hb => by rcases hS i hb with h1 | h1;omega;exact hn h1)).trans (h.block i hi hn)⟩
theorem cnt_bd {k i o : Int} (hi : 1 ≤ i ∧ i ≤ 8) (ho : 1 ≤ o ∧ o ≤ 8) : ∃ nw nb : Nat,wCnt k i o = nw ∧ bCnt k i o = nb ∧ nw ≤ 64 ∧ nb ≤ 64 := by
 have hm := mul_bd hi ho;refine ⟨(wCnt k i o).toNat,(bCnt k i o).toNat,?_,?_,?_,?_⟩
 all_goals (first | unfold wCnt | unfold bCnt);repeat (first | omega | split)
def Full (B : Nat) (w : World) (u : Value) : Prop := ∀ g n c,u = .slice (some ⟨g,0,none⟩) n c → B ≤ g ∧ ∃ Z m,w.heap[g]? = some (.cells Z 33 m) ∧ Z.size = c
theorem full_of {w : World} {B n c : Nat} {q : Option Addr} {vs : List Value} (h : w.ownsRow B 33 1 (.slice q n c) n vs) : Full B w (.slice q n c) := by
 intro g n' c' e
 cases e
 rcases h.2 with ⟨h1,_⟩ | ⟨g',cap,cur,h1,hB,hh,_,_,hs,_⟩
 · cases h1
 · cases h1;exact ⟨hB,cur,_,hh,by omega⟩
theorem Full.chgT {B : Nat} {w w' : World} {u : Value} {S : Nat → Prop} (h : Full B w u) (k : Chg S w w') (hS : ∀ b,S b → b < B ∨ ∃ Z T m,w.heap[b]? = some (.cells Z T m) ∧ T ≠ 33) : Full B w' u := by
 intro g n c e;obtain ⟨h1,Z,m,h2,h3⟩ := h g n c e;refine ⟨h1,Z,m,?_,h3⟩;rw [k.block g (heap_lt h2) (fun hs => ?_)]
 · exact h2
 · rcases hS g hs with h4 | ⟨Z',T,m',h4,h5⟩
   · omega
   · rw [h2] at h4;cases h4;exact h5 rfl
theorem Full.chg {B : Nat} {w w' : World} {u : Value} {S : Nat → Prop} (h : Full B w u) (k : Chg S w w') (hS : ∀ b,S b → b < B) : Full B w' u := h.chgT k fun b hb => .inl (hS b hb)
theorem Full.base {B B' : Nat} {w : World} {u : Value} (h : Full B w u) (hB : B' ≤ B) : Full B' w u := fun g n c e => ⟨Nat.le_trans hB (h g n c e).1,(h g n c e).2⟩
theorem Full.ext {B : Nat} {w w' : World} {u : Value} (h : Full B w u) (e : Ext w w') : Full B w' u := h.chg (Chg.of_ext (S := fun _ => False) e) fun _ h => h.elim
theorem Full.grown {B B' t s n : Nat} {w w' : World} {u v : Value} {vs : List Value} (h : Full B w u) (row : w.ownsRow B' t s v n vs) (ht : t ≠ 33) (gr : w.grownBy w' v.ownBlock) : Full B w' u := by
 refine h.chgT (Chg.of_grown gr) fun b hb => .inr ?_
 rcases row.2 with ⟨h1,_⟩ | ⟨g',cap,cur,h1,_,hh,_⟩
 · rw [h1] at hb;cases hb
 · rw [h1] at hb
   have hb : some b = some g' := hb
   cases hb
   exact ⟨_,_,_,hh,ht⟩
def FullL (B : Nat) (w : World) (css : List (List Value)) : Prop := ∀ cs ∈ css,∀ u ∈ cs,Full B w u
theorem FullL.chgT {B : Nat} {w w' : World} {css : List (List Value)} {S : Nat → Prop} (h : FullL B w css) (k : Chg S w w') (hS : ∀ b,S b → b < B ∨ ∃ Z T m,w.heap[b]? = some (.cells Z T m) ∧ T ≠ 33) : FullL B w' css := fun c hc u hu => (h c hc u hu).chgT k hS
theorem FullL.chg {B : Nat} {w w' : World} {css : List (List Value)} {S : Nat → Prop} (h : FullL B w css) (k : Chg S w w') (hS : ∀ b,S b → b < B) : FullL B w' css := fun c hc u hu => (h c hc u hu).chg k hS
theorem FullL.ext {B : Nat} {w w' : World} {css : List (List Value)} (h : FullL B w css) (e : Ext w w') : FullL B w' css := fun c hc u hu => (h c hc u hu).ext e
theorem FullL.grown {B B' t s n : Nat} {w w' : World} {css : List (List Value)} {v : Value} {vs : List Value} (h : FullL B w css) (row : w.ownsRow B' t s v n vs) (ht : t ≠ 33) (gr : w.grownBy w' v.ownBlock) : FullL B w' css := fun c hc u hu => (h c hc u hu).grown row ht gr
theorem FullL.snoc {B : Nat} {w : World} {css : List (List Value)} {a b o : Int} {u v : Value} (h : FullL B w css) (h1 : Full B w u) (h2 : Full B w v) : FullL B w (css ++ [[.int .i64 a,.int .i64 b,.int .i64 o,u,v]]) := by
 intro c hc x hx;rcases List.mem_append.1 hc with hc | hc
 · exact h c hc x hx
 · have hc := List.mem_singleton.1 hc
   subst hc;simp only [List.mem_cons,List.not_mem_nil,or_false] at hx;rcases hx with rfl | rfl | rfl | rfl | rfl
   · intro g n c e;cases e
   · intro g n c e;cases e
   · intro g n c e;cases e
   · exact h1
   · exact h2
theorem full_nil (B : Nat) (w : World) : Full B w (.slice none 0 0) := fun g n c e => by cases e
def GotLay (sb K : Nat) (k i o : Int) (w : World) (e : Ending) (w' : World) : Prop :=
 ∃ (ws bs : List Nat) (pw pb : Option Addr) (cw cb : Nat),e = .returned (.agg #[.int .i64 k,.int .i64 i,.int .i64 o,.slice pw ws.length cw,.slice pb bs.length cb]) ∧ layB k i o ws.length bs.length = true ∧ (∀ x ∈ ws,x < 4294967296) ∧ (∀ x ∈ bs,x < 4294967296) ∧
   IsOwnY [33] w.heap.size jaa w' [.int .i64 k,.int .i64 i,.int .i64 o,.slice pw ws.length cw,.slice pb bs.length cb] (k,i,o,ws,bs,()) ∧ DrAt w' sb K ∧ Chg (fun b => b = sb) w w' ∧ Full w.heap.size w' (.slice pw ws.length cw) ∧ Full w.heap.size w' (.slice pb bs.length cb)
theorem gotFs_thing {sb K n : Nat} {w w' : World} {e : Ending} (h : GotFs sb K n w e w') : ∃ (xs : List Nat) (q : Option Addr) (c : Nat) (bs : List Nat),e = .returned (.slice q n c) ∧ xs.length = n ∧ (∀ x ∈ xs,x < 4294967296) ∧ Own w' (.sl .flt) [.slice q n c] xs bs ∧ bs.Nodup ∧ (∀ b ∈ bs,w.heap.size ≤ b) ∧ Tys w' [33] bs ∧ DrAt w' sb K ∧ Chg (fun b => b = sb) w w' ∧ Full w.heap.size w' (.slice q n c) := by
 obtain ⟨xs,hx,hb,⟨q,c,vs,he,ho,hf⟩,hd,hc⟩ := h;have F := full_of ho;have H : Own w' (.sl .flt) [.slice q xs.length c] xs (jac q) := jbi.2 ⟨q,c,vs,rfl,ownRow_of ho,hf,(jay ho).1,(jay ho).2,rfl⟩;have T := own_tys ho
 have hlo : ∀ b ∈ jac q,w.heap.size ≤ b := by
  intro b hb
  cases q with
  | none => simp [jac] at hb
  | some a => simp [jac] at hb;subst hb;exact jaf ho _ rfl
 rw [hx] at he H F;exact ⟨xs,q,c,jac q,he,hx,hb,H,by cases q <;> simp [jac],hlo,T,hd,hc,F⟩
theorem l03DrawLayer_any (sb K : Nat) (k i o : Int) (w : World) (h : DrAt w sb K) (hK : K ≤ 1000000) (hk : 0 ≤ k ∧ k ≤ 5) (hi : 1 ≤ i ∧ i ≤ 8) (ho : 1 ≤ o ∧ o ≤ 8) :
 Calls Try.prog 97 #[.pointer (some ⟨sb,0,none⟩),.int .i64 k,.int .i64 i,.int .i64 o] w (GotLay sb (K + 4000) k i (if k = 0 then o else i) w) := by
 have hlt0 := h.lt;obtain ⟨W0,hW0⟩ : ∃ W0,W0 = (w.alloc (.cells #[.int .i64 0,.int .i64 0,.int .i64 0,.slice none 0 0,.slice none 0 0] 41)).alloc (.cells #[.int .i64 k,.int .i64 i,.int .i64 i,.slice none 0 0,.slice none 0 0] 41) := ⟨_,rfl⟩;obtain ⟨E0,s0,b0,b1⟩ := box2 hW0;have b0 : HB W0 w.heap.size #[.int .i64 0,.int .i64 0,.int .i64 0,.slice none 0 0,.slice none 0 0] 41 := b0;have b1 : HB W0 (w.heap.size + 1) #[.int .i64 k,.int .i64 i,.int .i64 i,.slice none 0 0,.slice none 0 0] 41 := b1;have H0 := h.ext E0;clear h
 by_cases hk0 : k = 0
 case pos =>
  subst hk0;rw [if_pos rfl];go_enter Try.func97,Try.ntmps97;go_wp2_with (first | (rw [← hW0];clear hW0;(with_reducible show gx11);refine jbb (j := 2) rfl rfl b1 rfl rfl rfl rfl ?_;intro W1 b1 ch1;have b0 := b0.chg ch1 (fun hh => by omega);have H0 := H0.chg ch1 (fun b hb => by omega);have E0 := E0.chg ch1 (fun b hb => by omega)) | fail);have b1 : HB W1 (w.heap.size + 1) #[.int .i64 0,.int .i64 i,.int .i64 o,.slice none 0 0,.slice none 0 0] 41 := b1;refine (l03Counts_any (sp := none) (w.heap.size + 1) 0 0 i o W1 (b1.cell 0 rfl) (b1.cell 1 rfl) (b1.cell 2 rfl) hi ho).mono ?_;rintro e w2 ⟨rfl,e2⟩
  obtain ⟨nw,nb,hnw,hnb,lw,lb⟩ := cnt_bd (k := 0) hi ho
  have HL : Hid (∀ a b : Nat,a = nw → b = nb → layB 0 i o a b = true) := hid (by
   rintro a b rfl rfl
   unfold layB;simp only [Bool.and_eq_true,jaz,decide_eq_true_eq,Bool.or_eq_true];exact ⟨⟨by omega,by omega⟩,hi,ho,by first | exact Or.inl rfl | exact Or.inr rfl | (left;simp),by omega,by omega⟩)
  rw [hnw,hnb];have S2 := H0.ext e2;have B2 := b1.ext e2;have Z2 := b0.ext e2;have E2 := E0.trans e2;clear hnw hnb b1 b0 H0 E0;have hz := E2.size;go_wp2_with fail;refine (drFloats_any sb K nw w2 S2 (by omega) (by omega)).mono ?_;rintro e w3 h3
  obtain ⟨ws,q,c,bsw,rfl,hwl,hwb,ow,ndw,low,tw,S3,c3,fw⟩ := gotFs_thing h3;have B3 := B2.chg c3 (fun hh => by omega);have Z3 := Z2.chg c3 (fun hh => by omega);have hlt2 := B2.lt;clear h3 S2;go_wp2_with (first | ((with_reducible show gx11);refine jbb (j := 3) rfl rfl B3 rfl rfl rfl rfl ?_;intro w4 B4 ch4;have B4 : HB w4 (w.heap.size + 1) #[.int .i64 0,.int .i64 i,.int .i64 o,.slice q nw c,.slice none 0 0] 41 := B4;have Z4 := Z3.chg ch4 (fun hh => by omega);have S4 := S3.chg ch4 (fun b hb => by omega)) | fail);refine (drFloats_any sb (K + 2 + nw * 30) nb w4 S4 (by omega) (by omega)).mono ?_;rintro e w5 h5
  obtain ⟨bv,q5,c5,bsb,rfl,hbl,hbb,ob,ndb,lob,tb,S5,ch5,fb⟩ := gotFs_thing h5;have B5 := B4.chg ch5 (fun hh => by omega);have Z5 := Z4.chg ch5 (fun hh => by omega);clear h5 S4 S3;have k1 := c3.size;have k2 := ch4.size;have k3 := ch5.size;have ow4 := ow.chg ch4 (fun b hb hh => by have := low b hb;have hh : b = _ := hh;omega);have ow5 := ow4.chg ch5 (fun b hb hh => by have := low b hb;have hh : b = _ := hh;omega);have tw5 := (tw.chg ch4 (fun b hb hh => by have := low b hb;have hh : b = _ := hh;omega)).chg ch5 (fun b hb hh => by have := low b hb;have hh : b = _ := hh;omega);have ltw := ow.lt;have C5 := (((Chg.of_ext (S := fun b => b = sb) E2).trans c3).late ch4 (fun b hb => by left;have hb : b = _ := hb;omega)).trans ch5;go_wp2_with (first | ((with_reducible show gx11);refine jbb (j := 4) rfl rfl B5 rfl rfl rfl rfl ?_;intro w6 B6 ch6;have B6 : HB w6 (w.heap.size + 1) #[.int .i64 0,.int .i64 i,.int .i64 o,.slice q nw c,.slice q5 nb c5] 41 := B6;have Z6 := Z5.chg ch6 (fun hh => by omega);have r0 := B6.cell 0 rfl;have r1 := B6.cell 1 rfl;have r2 := B6.cell 2 rfl;have r3 := B6.cell 3 rfl;have r4 := B6.cell 4 rfl;have f0 := Z6.froz 0;have f1 := Z6.froz 1;have f2 := Z6.froz 2;have f3 := Z6.froz 3;have f4 := Z6.froz 4;have z0 := Z6.cell 0 rfl;have z1 := Z6.cell 1 rfl;have z2 := Z6.cell 2 rfl;have z3 := Z6.cell 3 rfl;have z4 := Z6.cell 4 rfl) | fail);have Z7 : HB (((((w6.setCell ⟨w.heap.size,0,none⟩ (.int .i64 0)).setCell ⟨w.heap.size,1,none⟩ (.int .i64 i)).setCell ⟨w.heap.size,2,none⟩ (.int .i64 o)).setCell ⟨w.heap.size,3,none⟩ (.slice q nw c)).setCell ⟨w.heap.size,4,none⟩ (.slice q5 nb c5)) w.heap.size #[.int .i64 0,.int .i64 i,.int .i64 o,.slice q nw c,.slice q5 nb c5] 41 := ((((Z6.set 0 _).set 1 _).set 2 _).set 3 _).set 4 _;have C7 : Chg (fun b => b = w.heap.size) w6 (((((w6.setCell ⟨w.heap.size,0,none⟩ (.int .i64 0)).setCell ⟨w.heap.size,1,none⟩ (.int .i64 i)).setCell ⟨w.heap.size,2,none⟩ (.int .i64 o)).setCell ⟨w.heap.size,3,none⟩ (.slice q nw c)).setCell ⟨w.heap.size,4,none⟩ (.slice q5 nb c5)) := ((((jae _ _ 0 _).trans (jae _ _ 1 _)).trans (jae _ _ 2 _)).trans (jae _ _ 3 _)).trans (jae _ _ 4 _);clear r0 r1 r2 r3 r4 f0 f1 f2 f3 f4 z0 z1 z2 z3 z4;generalize (((((w6.setCell ⟨w.heap.size,0,none⟩ (.int .i64 0)).setCell ⟨w.heap.size,1,none⟩ (.int .i64 i)).setCell ⟨w.heap.size,2,none⟩ (.int .i64 o)).setCell ⟨w.heap.size,3,none⟩ (.slice q nw c)).setCell ⟨w.heap.size,4,none⟩ (.slice q5 nb c5)) = W7 at *;have y0 := Z7.cell 0 rfl;have y1 := Z7.cell 1 rfl;have y2 := Z7.cell 2 rfl;have y3 := Z7.cell 3 rfl;have y4 := Z7.cell 4 rfl;refine bodyPost_ret (v := .agg #[.int .i64 0,.int .i64 i,.int .i64 o,.slice q nw c,.slice q5 nb c5]) (by simp [results,Try.results97,go_sem,y0,y1,y2,y3,y4]) rfl ?_;have k6 := ch6.size;have ow7 := (ow5.chg ch6 (fun b hb hh => by have := low b hb;have hh : b = _ := hh;omega)).chg C7 (fun b hb hh => by have := low b hb;have hh : b = _ := hh;omega);have ob7 := (ob.chg ch6 (fun b hb hh => by have := lob b hb;have hh : b = _ := hh;omega)).chg C7 (fun b hb hh => by have := lob b hb;have hh : b = _ := hh;omega);have tw7 := (tw5.chg ch6 (fun b hb hh => by have := low b hb;have hh : b = _ := hh;omega)).chg C7 (fun b hb hh => by have := low b hb;have hh : b = _ := hh;omega);have tb7 := (tb.chg ch6 (fun b hb hh => by have := lob b hb;have hh : b = _ := hh;omega)).chg C7 (fun b hb hh => by have := lob b hb;have hh : b = _ := hh;omega);have fw7 := (((fw.chg ch4 (fun b hb => by have hb : b = _ := hb;omega)).chg ch5 (fun b hb => by have hb : b = _ := hb;omega)).chg ch6 (fun b hb => by have hb : b = _ := hb;omega)).chg C7 (fun b hb => by have hb : b = _ := hb;omega);have fb7 := (fb.chg ch6 (fun b hb => by have hb : b = _ := hb;omega)).chg C7 (fun b hb => by have hb : b = _ := hb;omega);subst hwl;subst hbl;refine ⟨ws,bv,q,q5,c,c5,rfl,HL.out _ _ rfl rfl,hwb,hbb,⟨bsw ++ bsb,own_lay (d := (0,i,o,ws,bv,())) ow7 ob7,nodup_app ndw ndb (fun x hx => by have := ltw x hx;omega) (fun x hx => lob x hx),?_,tw7.app tb7⟩,?_,(C5.late ch6 (fun b hb => by left;have hb : b = _ := hb;omega)).late C7 (fun b hb => by left;have hb : b = _ := hb;omega),fw7.base (by omega),fb7.base (by omega)⟩
  · intro b hb
    rcases List.mem_append.1 hb with h | h
    · have := low b h;omega
    · have := lob b h;omega
  · exact ((S5.chg ch6 (fun b hb => by have hb : b = _ := hb;omega)).chg C7 (fun b hb => by have hb : b = _ := hb;omega)).mono (by omega)
 case neg =>
  rw [if_neg hk0];obtain ⟨W1,rfl⟩ : ∃ W1,W1 = W0 := ⟨_,rfl⟩;go_enter Try.func97,Try.ntmps97;go_wp2_with fail;rw [← hW0];clear hW0;refine (l03Counts_any (sp := none) (w.heap.size + 1) 0 k i i W1 (b1.cell 0 rfl) (b1.cell 1 rfl) (b1.cell 2 rfl) hi hi).mono ?_;rintro e w2 ⟨rfl,e2⟩
  obtain ⟨nw,nb,hnw,hnb,lw,lb⟩ := cnt_bd (k := k) hi hi
  have HL : Hid (∀ a b : Nat,a = nw → b = nb → layB k i i a b = true) := hid (by
   rintro a b rfl rfl
   unfold layB;simp only [Bool.and_eq_true,jaz,decide_eq_true_eq,Bool.or_eq_true];exact ⟨⟨by omega,by omega⟩,hi,hi,by first | exact Or.inr rfl | (right;simp),by omega,by omega⟩)
  rw [hnw,hnb];have S2 := H0.ext e2;have B2 := b1.ext e2;have Z2 := b0.ext e2;have E2 := E0.trans e2;clear hnw hnb b1 b0 H0 E0;have hz := E2.size;go_wp2_with fail;refine (drFloats_any sb K nw w2 S2 (by omega) (by omega)).mono ?_;rintro e w3 h3
  obtain ⟨ws,q,c,bsw,rfl,hwl,hwb,ow,ndw,low,tw,S3,c3,fw⟩ := gotFs_thing h3;have B3 := B2.chg c3 (fun hh => by omega);have Z3 := Z2.chg c3 (fun hh => by omega);have hlt2 := B2.lt;clear h3 S2;go_wp2_with (first | ((with_reducible show gx11);refine jbb (j := 3) rfl rfl B3 rfl rfl rfl rfl ?_;intro w4 B4 ch4;have B4 : HB w4 (w.heap.size + 1) #[.int .i64 k,.int .i64 i,.int .i64 i,.slice q nw c,.slice none 0 0] 41 := B4;have Z4 := Z3.chg ch4 (fun hh => by omega);have S4 := S3.chg ch4 (fun b hb => by omega)) | fail);refine (drFloats_any sb (K + 2 + nw * 30) nb w4 S4 (by omega) (by omega)).mono ?_;rintro e w5 h5
  obtain ⟨bv,q5,c5,bsb,rfl,hbl,hbb,ob,ndb,lob,tb,S5,ch5,fb⟩ := gotFs_thing h5;have B5 := B4.chg ch5 (fun hh => by omega);have Z5 := Z4.chg ch5 (fun hh => by omega);clear h5 S4 S3;have k1 := c3.size;have k2 := ch4.size;have k3 := ch5.size;have ow4 := ow.chg ch4 (fun b hb hh => by have := low b hb;have hh : b = _ := hh;omega);have ow5 := ow4.chg ch5 (fun b hb hh => by have := low b hb;have hh : b = _ := hh;omega);have tw5 := (tw.chg ch4 (fun b hb hh => by have := low b hb;have hh : b = _ := hh;omega)).chg ch5 (fun b hb hh => by have := low b hb;have hh : b = _ := hh;omega);have ltw := ow.lt;have C5 := (((Chg.of_ext (S := fun b => b = sb) E2).trans c3).late ch4 (fun b hb => by left;have hb : b = _ := hb;omega)).trans ch5;go_wp2_with (first | ((with_reducible show gx11);refine jbb (j := 4) rfl rfl B5 rfl rfl rfl rfl ?_;intro w6 B6 ch6;have B6 : HB w6 (w.heap.size + 1) #[.int .i64 k,.int .i64 i,.int .i64 i,.slice q nw c,.slice q5 nb c5] 41 := B6;have Z6 := Z5.chg ch6 (fun hh => by omega);have r0 := B6.cell 0 rfl;have r1 := B6.cell 1 rfl;have r2 := B6.cell 2 rfl;have r3 := B6.cell 3 rfl;have r4 := B6.cell 4 rfl;have f0 := Z6.froz 0;have f1 := Z6.froz 1;have f2 := Z6.froz 2;have f3 := Z6.froz 3;have f4 := Z6.froz 4;have z0 := Z6.cell 0 rfl;have z1 := Z6.cell 1 rfl;have z2 := Z6.cell 2 rfl;have z3 := Z6.cell 3 rfl;have z4 := Z6.cell 4 rfl) | fail);have Z7 : HB (((((w6.setCell ⟨w.heap.size,0,none⟩ (.int .i64 k)).setCell ⟨w.heap.size,1,none⟩ (.int .i64 i)).setCell ⟨w.heap.size,2,none⟩ (.int .i64 i)).setCell ⟨w.heap.size,3,none⟩ (.slice q nw c)).setCell ⟨w.heap.size,4,none⟩ (.slice q5 nb c5)) w.heap.size #[.int .i64 k,.int .i64 i,.int .i64 i,.slice q nw c,.slice q5 nb c5] 41 := ((((Z6.set 0 _).set 1 _).set 2 _).set 3 _).set 4 _;have C7 : Chg (fun b => b = w.heap.size) w6 (((((w6.setCell ⟨w.heap.size,0,none⟩ (.int .i64 k)).setCell ⟨w.heap.size,1,none⟩ (.int .i64 i)).setCell ⟨w.heap.size,2,none⟩ (.int .i64 i)).setCell ⟨w.heap.size,3,none⟩ (.slice q nw c)).setCell ⟨w.heap.size,4,none⟩ (.slice q5 nb c5)) := ((((jae _ _ 0 _).trans (jae _ _ 1 _)).trans (jae _ _ 2 _)).trans (jae _ _ 3 _)).trans (jae _ _ 4 _);clear r0 r1 r2 r3 r4 f0 f1 f2 f3 f4 z0 z1 z2 z3 z4;generalize (((((w6.setCell ⟨w.heap.size,0,none⟩ (.int .i64 k)).setCell ⟨w.heap.size,1,none⟩ (.int .i64 i)).setCell ⟨w.heap.size,2,none⟩ (.int .i64 i)).setCell ⟨w.heap.size,3,none⟩ (.slice q nw c)).setCell ⟨w.heap.size,4,none⟩ (.slice q5 nb c5)) = W7 at *;have y0 := Z7.cell 0 rfl;have y1 := Z7.cell 1 rfl;have y2 := Z7.cell 2 rfl;have y3 := Z7.cell 3 rfl;have y4 := Z7.cell 4 rfl;refine bodyPost_ret (v := .agg #[.int .i64 k,.int .i64 i,.int .i64 i,.slice q nw c,.slice q5 nb c5]) (by simp [results,Try.results97,go_sem,y0,y1,y2,y3,y4]) rfl ?_;have k6 := ch6.size;have ow7 := (ow5.chg ch6 (fun b hb hh => by have := low b hb;have hh : b = _ := hh;omega)).chg C7 (fun b hb hh => by have := low b hb;have hh : b = _ := hh;omega);have ob7 := (ob.chg ch6 (fun b hb hh => by have := lob b hb;have hh : b = _ := hh;omega)).chg C7 (fun b hb hh => by have := lob b hb;have hh : b = _ := hh;omega);have tw7 := (tw5.chg ch6 (fun b hb hh => by have := low b hb;have hh : b = _ := hh;omega)).chg C7 (fun b hb hh => by have := low b hb;have hh : b = _ := hh;omega);have tb7 := (tb.chg ch6 (fun b hb hh => by have := lob b hb;have hh : b = _ := hh;omega)).chg C7 (fun b hb hh => by have := lob b hb;have hh : b = _ := hh;omega);have fw7 := (((fw.chg ch4 (fun b hb => by have hb : b = _ := hb;omega)).chg ch5 (fun b hb => by have hb : b = _ := hb;omega)).chg ch6 (fun b hb => by have hb : b = _ := hb;omega)).chg C7 (fun b hb => by have hb : b = _ := hb;omega);have fb7 := (fb.chg ch6 (fun b hb => by have hb : b = _ := hb;omega)).chg C7 (fun b hb => by have hb : b = _ := hb;omega);subst hwl;subst hbl;refine ⟨ws,bv,q,q5,c,c5,rfl,HL.out _ _ rfl rfl,hwb,hbb,⟨bsw ++ bsb,own_lay (d := (k,i,i,ws,bv,())) ow7 ob7,nodup_app ndw ndb (fun x hx => by have := ltw x hx;omega) (fun x hx => lob x hx),?_,tw7.app tb7⟩,?_,(C5.late ch6 (fun b hb => by left;have hb : b = _ := hb;omega)).late C7 (fun b hb => by left;have hb : b = _ := hb;omega),fw7.base (by omega),fb7.base (by omega)⟩
  · intro b hb
    rcases List.mem_append.1 hb with h | h
    · have := low b h;omega
    · have := lob b h;omega
  · exact ((S5.chg ch6 (fun b hb => by have hb : b = _ := hb;omega)).chg C7 (fun b hb => by have hb : b = _ := hb;omega)).mono (by omega)
theorem GrowOwn.snocC {S : Nat → Prop} {w0 w w' : World} {B : Nat} {te : TypeId} {E : Sh} {v : Value} {l : List E.T} {css : List (List Value)} {bss : List (List Nat)} (h : GrowOwn w0 B te E v l css bss) (hx : Chg S w0 w) (hS : ∀ b,S b → b < B) {cs : List Value} {d : E.T} {bs : List Nat}
 (ho : Own w E cs d bs) (hn : bs.Nodup) (hf : ∀ b ∈ bs,w0.heap.size ≤ b) (hB : B ≤ w0.heap.size) {g c n : Nat} (hln : l.length = n) (hr : w'.ownsRow B te E.sz (.slice (some ⟨g,0,none⟩) (n + 1) c) (n + 1) (css.flatten ++ cs)) (hg : w.grownBy w' v.ownBlock) (hw : v.ownBlock = some g ∨ w.heap.size ≤ g) :
 GrowOwn w' B te E (.slice (some ⟨g,0,none⟩) (n + 1) c) (l ++ [d]) (css ++ [cs]) (bss ++ [bs]) := by
 subst hln;have lt0 := h.els.lt;have hv : ∀ k,v.ownBlock = some k → k < w0.heap.size := own_lt h.row;have hsz := hx.size;have ch : Chg (fun k => some k = v.ownBlock) w w' := Chg.of_grown hg;have hlo := h.lo;refine ⟨by simpa [List.flatten_append] using hr,?_,?_,?_⟩
 · refine OwnEs.snoc ((h.els.chg hx (fun b hb hs => by have := (hlo b hb).1;have := hS b hs;omega)).chg ch (fun b hb hk => (hlo b hb).2 hk.symm)) (ho.chg ch fun b hb hk => ?_)
   have := hv b hk.symm;have := hf b hb;omega
 · rw [List.flatten_append,List.flatten_cons,List.flatten_nil,List.append_nil]
   exact nodup_app h.nodup hn lt0 hf
 · intro b hb
   rw [List.flatten_append,List.flatten_cons,List.flatten_nil,List.append_nil,List.mem_append] at hb
   have hlb : b < w.heap.size := by
    rcases hb with hb | hb
    · have := lt0 b hb;omega
    · exact ho.lt b hb
   refine ⟨?_,fun hk => ?_⟩
   · rcases hb with hb | hb
     · exact (hlo b hb).1
     · have := hf b hb;omega
   · simp [Value.ownBlock] at hk;subst hk
     rcases hw with hw | hw
     · rcases hb with hb | hb
       · exact (hlo _ hb).2 hw
       · have := hv _ hw;have := hf _ hb;omega
     · omega
def lastO (i0 : Int) (L : List jaa.T) : Int := match L.getLast? with
 | some d => layO d
 | none => i0
def lastP? (L : List jaa.T) (p : Option Int) : Option Int := match L.getLast? with
 | some d => some (layO d)
 | none => p
theorem modGo_snoc (d : jaa.T) : ∀ (L : List jaa.T) (p : Option Int),modGo p (L ++ [d]) = (modGo p L && (layD d && linkL (lastP? L p) d.2.1))
 | [],p => by simp [modGo,lastP?]
 | x :: L,p => by
   have ih := modGo_snoc d L (some (layO x))
   have hl : lastP? (x :: L) p = lastP? L (some (layO x)) := by
    unfold lastP?
    cases L with
    | nil => rfl
    | cons y L => rw [List.getLast?_cons_cons];cases h : (y :: L).getLast? with
      | none => simp at h
      | some z => rfl
   rw [List.cons_append,modGo,modGo,ih,hl]
   cases layD x <;> cases linkL p x.2.1 <;> simp
theorem lastO_snoc (i0 : Int) (L : List jaa.T) (d : jaa.T) : lastO i0 (L ++ [d]) = layO d := by simp [lastO]
def GoodL (i0 : Int) (L : List jaa.T) : Prop := modGo none L = true ∧ 1 ≤ lastO i0 L ∧ lastO i0 L ≤ 8 ∧ Fit (.sl jaa) L
theorem GoodL.snoc {i0 : Int} {L : List jaa.T} (h : GoodL i0 L) {k o : Int} {ws bs : List Nat} (hl : layB k (lastO i0 L) o ws.length bs.length = true) (hw : ∀ x ∈ ws,x < 4294967296) (hb : ∀ x ∈ bs,x < 4294967296) : GoodL i0 (L ++ [(k,lastO i0 L,o,ws,bs,())]) := by
 obtain ⟨h1,h2,h3,h4⟩ := h;have hl2 := hl;unfold layB at hl2;simp only [Bool.and_eq_true,jaz,decide_eq_true_eq,Bool.or_eq_true] at hl2;refine ⟨?_,?_,?_,?_⟩
 · rw [modGo_snoc,h1]
   have : layD (k,lastO i0 L,o,ws,bs,()) = true := hl;rw [this,Bool.true_and,Bool.true_and];show linkL (lastP? L none) (lastO i0 L) = true;unfold lastP? lastO
   cases L.getLast? with
   | none => rfl
   | some x => simp [linkL]
 · rw [lastO_snoc];exact hl2.2.2.1.1
 · rw [lastO_snoc];exact hl2.2.2.1.2
 · intro x hx
   rcases List.mem_append.1 hx with hx | hx
   · exact h4 x hx
   · simp at hx;subst hx
     have a1 : -9223372036854775808 ≤ k ∧ k ≤ 9223372036854775807 := by omega
     have a2 : -9223372036854775808 ≤ lastO i0 L ∧ lastO i0 L ≤ 9223372036854775807 := by omega
     have a3 : -9223372036854775808 ≤ o ∧ o ≤ 9223372036854775807 := by omega
     exact ⟨a1,a2,a3,hw,hb,trivial⟩
def GotMod (sb K n1 : Nat) (w : World) (e : Ending) (w' : World) : Prop :=
 ∃ (i0 : Int) (L : List jaa.T) (q : Option Addr) (c : Nat),e = .returned (.agg #[.slice q L.length c]) ∧ GoodL i0 L ∧ 1 ≤ L.length ∧ L.length ≤ n1 ∧ (∃ (B : Nat) (cs : List (List Value)) (bss : List (List Nat)),w.heap.size ≤ B ∧ B ≤ w'.heap.size ∧ GrowOwn w' B 41 jaa (.slice q L.length c) L cs bss ∧ Tys w' [33] bss.flatten ∧ FullL B w' cs) ∧ DrAt w' sb K ∧ Chg (fun b => b = sb) w w'
theorem l03DrawSome_any (sb K : Nat) (i0 kinds : Int) (w : World) (h : DrAt w sb K) (hK : K ≤ 100000) (hi : 1 ≤ i0 ∧ i0 ≤ 8) (hkd : 1 ≤ kinds ∧ kinds ≤ 6) :
 Calls Try.prog 55 #[.pointer (some ⟨sb,0,none⟩),.int .i64 i0,.int .i64 kinds] w (GotMod sb (K + 20000) 3 w) := by
 have hlt0 := h.lt;obtain ⟨W0,hW0⟩ : ∃ W0,W0 = (w.alloc (.cells #[.slice none 0 0] 38)).alloc (.cells #[.slice none 0 0] 38) := ⟨_,rfl⟩;obtain ⟨E0,s0,b0,b1⟩ := box2 hW0;have b0 : HB W0 w.heap.size #[.slice none 0 0] 38 := b0;have b1 : HB W0 (w.heap.size + 1) #[.slice none 0 0] 38 := b1;have H0 := h.ext E0;clear h;go_enter Try.func55,Try.ntmps55;go_wp2_with fail;rw [← hW0];clear hW0;refine (jam sb K 3 W0 H0 (by omega) (by omega)).mono ?_;rintro e w1 ⟨x,rfl,hx,_,H1,c1⟩
 have hx := hx (by omega);obtain ⟨M,hM⟩ : ∃ M : Nat,(1 : Int) + (x : Int) = (M : Int) := ⟨1 + x,by omega⟩;have hM1 : 1 ≤ M ∧ M ≤ 3 := by omega
 have B0 := b0.chg c1 (fun hh => by omega);have B1 := b1.chg c1 (fun hh => by omega);have C1 := (Chg.of_ext (S := fun b => b = sb) E0).trans c1;have z1 := c1.size;have hst : w1.ownsRow w1.heap.size 41 jaa.sz (.slice none 0 0) 0 [] := ⟨rfl,.inl ⟨rfl,rfl⟩⟩;have hG0 : GoodL i0 [] := ⟨rfl,hi.1,hi.2,fun x hx => by simp at hx⟩;clear b0 b1 H0 c1 E0 hx;go_wp2;go_loopw [1,8] (fun inv kv wr => ∃ (i c : Nat) (L : List jaa.T) (q : Option Addr) (cs : List (List Value)) (bss : List (List Nat)),i ≤ M ∧ inv = .int .i64 (lastO i0 L) ∧ kv = .int .i64 ((M : Int) - (i : Int)) ∧ Hid (L.length = i) ∧ HB wr (w.heap.size + 1) #[.slice q i c] 38 ∧ HB wr w.heap.size #[.slice none 0 0] 38 ∧ Hid (GrowOwn wr w1.heap.size 41 jaa (.slice q i c) L cs bss) ∧ Hid (Tys wr [33] bss.flatten) ∧ Hid (GoodL i0 L) ∧ DrAt wr sb (K + 2 + i * 5000) ∧ Chg (fun b => b = sb) w wr ∧ w1.heap.size ≤ wr.heap.size ∧ Hid (FullL w1.heap.size wr cs)) (fun _ kv _ => (intOf kv).toNat)
 case atStart => exact ⟨0,0,[],none,[],[],by omega,rfl,by simp,rfl,B1,B0,GrowOwn.empty hst,fun b hb => by simp at hb,hG0,H1,C1,Nat.le_refl _,fun c hc => by simp at hc⟩
 case round =>
  clear B1 B0 hst hG0 H1 C1;obtain ⟨i,c,L,q,cs,bss,hi2,rfl,rfl,HL,B1,B0,HG,HT,HQ,S,C,hz,HF⟩ := hrel
  by_cases hlt : i < M
  · have hgt : decide (0 < (M : Int) - (i : Int)) = true := by simp;omega
    have hq1 := HQ.out.2.1;have hq2 := HQ.out.2.2.1;have HIN := hid (rfl : lastO i0 L = lastO i0 L);obtain ⟨inn,hinn⟩ : ∃ z,z = lastO i0 L := ⟨_,rfl⟩;rw [← hinn] at hq1 hq2 ⊢;have HI := hid hinn;clear hinn HIN;go_wp2_with fail;refine (jam sb (K + 2 + i * 5000) kinds wr S (by omega) (by omega)).mono ?_;rintro e w2 ⟨kd,rfl,hk1,_,S2,c2⟩
    have hk1 := hk1 (by omega);go_wp2_with fail;refine (drOne_any sb (K + 2 + i * 5000 + 2) 2 w2 S2 (by omega) (by omega)).mono ?_;rintro e w3 ⟨bb,rfl,S3,c3⟩
    clear S2 S
    cases bb
    · go_wp2_with fail
      refine (jam sb (K + 2 + i * 5000 + 4) 4 w3 S3 (by omega) (by omega)).mono ?_;rintro e w4 ⟨y,rfl,hy,_,S4,c4⟩
      have hy := hy (by omega);clear S3;have HC := l03DrawLayer_any sb (K + 2 + i * 5000 + 6) (kd : Int) inn (1 + (y : Int)) w4 S4 (by omega) (by omega) (by omega) (by omega);generalize (if ((kd : Int) : Int) = 0 then (1 + (y : Int)) else inn) = O at HC;go_wp2_with fail;refine HC.mono ?_;rintro e w5 ⟨ws,bs,pw,pb,cw,cb,rfl,hlb,hws,hbs,⟨bl,ol,ndl,lol,tyl⟩,S5,c5,fw,fb⟩
      have CC := ((c2.trans c3).trans c4).trans c5;have C5 := C.trans CC;have z2 := (c2.trans (c3.trans c4)).size;have z5 := c5.size;have B5 := B1.chg CC (fun hh => by omega);have Z5 := B0.chg CC (fun hh => by omega);have hrow := HG.out.row;rw [HL.out] at hrow;have row5 := jav hrow CC (fun b hb => by have hb : b = sb := hb;omega);have hlw := hid (rfl : ws.length = ws.length);obtain ⟨lw,hlw⟩ : ∃ lw,lw = ws.length := ⟨_,rfl⟩;obtain ⟨lb,hlb2⟩ : ∃ lb,lb = bs.length := ⟨_,rfl⟩;rw [← hlw,← hlb2] at ol ⊢;rw [← hlw,← hlb2] at hlb;rw [← hlw] at fw;rw [← hlb2] at fb;have HLW := hid hlw;have HLB := hid hlb2;clear hlw hlb2 c2 c3 c4 c5 HC S4 C B1 B0;have E6 := Ext.alloc w5 (.cells #[.int .i64 (kd : Int),.int .i64 inn,.int .i64 O,.slice pw lw cw,.slice pb lb cb] 41);have b10 := HB.new w5 #[.int .i64 (kd : Int),.int .i64 inn,.int .i64 O,.slice pw lw cw,.slice pb lb cb] 41;obtain ⟨W6,hW6⟩ : ∃ W6,W6 = w5.alloc (.cells #[.int .i64 (kd : Int),.int .i64 inn,.int .i64 O,.slice pw lw cw,.slice pb lb cb] 41) := ⟨_,rfl⟩;rw [← hW6] at E6 b10;have g7 := E6.cell (B5.cell 0 rfl);have k0 := b10.cell 0 rfl;have k1 := b10.cell 1 rfl;have k2 := b10.cell 2 rfl;have k3 := b10.cell 3 rfl;have k4 := b10.cell 4 rfl;have z6 := E6.size;have l6 := b10.lt;have HW6 := hid hW6;clear hW6;rw [HW6.out] at g7 k0 k1 k2 k3 k4;go_wp2_with (first | ((with_reducible show gx9);rw [← HW6.out];refine ja3 (u := .agg #[.int .i64 (kd : Int),.int .i64 inn,.int .i64 O,.slice pw lw cw,.slice pb lb cb]) rfl rfl rfl rfl rfl (by rfl) (by rfl) (fun _ => rfl) (fun _ => rfl) (jaj row5 E6) (by unfold maxLen;omega) (by omega) (by omega) ?_;intro g9 c9 w9 own9 gr9 hw9;have hg9 : HB w9 (w.heap.size + 1) #[.slice q i c] 38 := (B5.ext E6).chg (.of_grown gr9) (fun h => by have := jaf row5 _ h.symm;omega);have r9 : HB w9 w5.heap.size #[.int .i64 (kd : Int),.int .i64 inn,.int .i64 O,.slice pw lw cw,.slice pb lb cb] 41 := b10.chg (.of_grown gr9) (fun h => by have := own_lt row5 _ h.symm;omega)) | ((with_reducible show gx11);refine jbb (j := 0) rfl rfl hg9 rfl rfl rfl rfl ?_;intro w10 b11 ch10;have r10 := r9.chg ch10 (fun h => by omega);have o2 := r10.cell 2 rfl));go_roundw
      case rel =>
       have hw : ws.length = lw := HLW.out.symm;have hb : bs.length = lb := HLB.out.symm
       have G10 : GoodL i0 (L ++ [((kd : Int),inn,O,ws,bs,())]) := by
        rw [HI.out];exact HQ.out.snoc (by rw [hw,hb,← HI.out];exact hlb) hws hbs
       have ol6 : Own W6 jaa [.int .i64 (kd : Int),.int .i64 inn,.int .i64 O,.slice pw lw cw,.slice pb lb cb] ((kd : Int),inn,O,ws,bs,()) bl := ol.chg (Chg.of_ext (S := fun _ => False) E6) (fun _ _ h => h);have CC6 := CC.trans (.of_ext E6);have H9 := (HG.out.snocC CC6 (fun b hb => by have hb : b = sb := hb;omega) ol6 ndl (fun b hb => by have := lol b hb;omega) hz (n := i) HL.out own9 gr9 (by rcases hw9 with h | h;exact .inl h;right;omega)).chgB ch10 (fun b hb => by have hb : b = _ := hb;omega);have F9 := (((HF.out.chg CC6 (fun b hb => by have hb : b = sb := hb;omega)).snoc (a := (kd : Int)) (b := inn) (o := O) ((fw.ext E6).base (by omega)) ((fb.ext E6).base (by omega))).grown (jaj row5 E6) (by decide) gr9).chg ch10 (fun b hb => by have hb : b = _ := hb;omega)
       have T9 : Tys w10 [33] (bss ++ [bl]).flatten := by
        have hh : (bss ++ [bl]).flatten = bss.flatten ++ bl := by simp
        rw [hh];refine ((((HT.out.chg CC6 (fun b hb h => by have h : b = sb := h;have := (HG.out.lo b hb).1;omega)).app (tyl.ext E6)).chg (.of_grown gr9) (fun b hb h => ?_)).chg ch10 (fun b hb h => ?_))
        · rcases List.mem_append.1 hb with hb | hb
          · exact (HG.out.lo b hb).2 h.symm
          · have := own_lt hrow b h.symm;have := lol b hb;omega
        · have h : b = _ := h
          rcases List.mem_append.1 hb with hb | hb
          · have := (HG.out.lo b hb).1;omega
          · have := lol b hb;omega
       have S9 := (((S5.ext E6).chg (.of_grown gr9) (fun b hb => by have := jaf row5 b hb.symm;omega)).chg ch10 (fun b hb => by have hb : b = _ := hb;omega)).mono (show K + 2 + i * 5000 + 6 + 4000 ≤ K + 2 + (i + 1) * 5000 by omega);have C9 := ((C5.trans (.of_ext E6)).late (.of_grown gr9) (fun b hb => by left;have := jaf row5 b hb.symm;omega)).late ch10 (fun b hb => by left;have hb : b = _ := hb;omega);have Z9 : HB w10 w.heap.size #[.slice none 0 0] 38 := ((Z5.ext E6).chg (.of_grown gr9) (fun h => by have := jaf row5 _ h.symm;omega)).chg ch10 (fun h => by omega);exact ⟨i + 1,c9,L ++ [((kd : Int),inn,O,ws,bs,())],some ⟨g9,0,none⟩,_,_,by omega,by rw [lastO_snoc];rfl,by go_num,by rw [Hid,List.length_append,HL.out];rfl,b11,Z9,H9,T9,G10,S9,C9,by have := gr9.size;have := ch10.size;omega,F9⟩
      case measure => simp [intOf];omega
    · go_wp2_with fail
      refine (jam sb (K + 2 + i * 5000 + 4) 4 w3 S3 (by omega) (by omega)).mono ?_;rintro e w4 ⟨y,rfl,hy,_,S4,c4⟩
      have hy := hy (by omega);clear S3;have HC := l03DrawLayer_any sb (K + 2 + i * 5000 + 6) 0 inn (1 + (y : Int)) w4 S4 (by omega) (by omega) (by omega) (by omega);generalize (if (0 : Int) = 0 then (1 + (y : Int)) else inn) = O at HC;go_wp2_with fail;refine HC.mono ?_;rintro e w5 ⟨ws,bs,pw,pb,cw,cb,rfl,hlb,hws,hbs,⟨bl,ol,ndl,lol,tyl⟩,S5,c5,fw,fb⟩
      have CC := ((c2.trans c3).trans c4).trans c5;have C5 := C.trans CC;have z2 := (c2.trans (c3.trans c4)).size;have z5 := c5.size;have B5 := B1.chg CC (fun hh => by omega);have Z5 := B0.chg CC (fun hh => by omega);have hrow := HG.out.row;rw [HL.out] at hrow;have row5 := jav hrow CC (fun b hb => by have hb : b = sb := hb;omega);have hlw := hid (rfl : ws.length = ws.length);obtain ⟨lw,hlw⟩ : ∃ lw,lw = ws.length := ⟨_,rfl⟩;obtain ⟨lb,hlb2⟩ : ∃ lb,lb = bs.length := ⟨_,rfl⟩;rw [← hlw,← hlb2] at ol ⊢;rw [← hlw,← hlb2] at hlb;rw [← hlw] at fw;rw [← hlb2] at fb;have HLW := hid hlw;have HLB := hid hlb2;clear hlw hlb2 c2 c3 c4 c5 HC S4 C B1 B0;have E6 := Ext.alloc w5 (.cells #[.int .i64 0,.int .i64 inn,.int .i64 O,.slice pw lw cw,.slice pb lb cb] 41);have b10 := HB.new w5 #[.int .i64 0,.int .i64 inn,.int .i64 O,.slice pw lw cw,.slice pb lb cb] 41;obtain ⟨W6,hW6⟩ : ∃ W6,W6 = w5.alloc (.cells #[.int .i64 0,.int .i64 inn,.int .i64 O,.slice pw lw cw,.slice pb lb cb] 41) := ⟨_,rfl⟩;rw [← hW6] at E6 b10;have g7 := E6.cell (B5.cell 0 rfl);have k0 := b10.cell 0 rfl;have k1 := b10.cell 1 rfl;have k2 := b10.cell 2 rfl;have k3 := b10.cell 3 rfl;have k4 := b10.cell 4 rfl;have z6 := E6.size;have l6 := b10.lt;have HW6 := hid hW6;clear hW6;rw [HW6.out] at g7 k0 k1 k2 k3 k4;go_wp2_with (first | ((with_reducible show gx9);rw [← HW6.out];refine ja3 (u := .agg #[.int .i64 0,.int .i64 inn,.int .i64 O,.slice pw lw cw,.slice pb lb cb]) rfl rfl rfl rfl rfl (by rfl) (by rfl) (fun _ => rfl) (fun _ => rfl) (jaj row5 E6) (by unfold maxLen;omega) (by omega) (by omega) ?_;intro g9 c9 w9 own9 gr9 hw9;have hg9 : HB w9 (w.heap.size + 1) #[.slice q i c] 38 := (B5.ext E6).chg (.of_grown gr9) (fun h => by have := jaf row5 _ h.symm;omega);have r9 : HB w9 w5.heap.size #[.int .i64 0,.int .i64 inn,.int .i64 O,.slice pw lw cw,.slice pb lb cb] 41 := b10.chg (.of_grown gr9) (fun h => by have := own_lt row5 _ h.symm;omega)) | ((with_reducible show gx11);refine jbb (j := 0) rfl rfl hg9 rfl rfl rfl rfl ?_;intro w10 b11 ch10;have r10 := r9.chg ch10 (fun h => by omega);have o2 := r10.cell 2 rfl));go_roundw
      case rel =>
       have hw : ws.length = lw := HLW.out.symm;have hb : bs.length = lb := HLB.out.symm
       have G10 : GoodL i0 (L ++ [((0 : Int),inn,O,ws,bs,())]) := by
        rw [HI.out];exact HQ.out.snoc (by rw [hw,hb,← HI.out];exact hlb) hws hbs
       have ol6 : Own W6 jaa [.int .i64 (0 : Int),.int .i64 inn,.int .i64 O,.slice pw lw cw,.slice pb lb cb] ((0 : Int),inn,O,ws,bs,()) bl := ol.chg (Chg.of_ext (S := fun _ => False) E6) (fun _ _ h => h);have CC6 := CC.trans (.of_ext E6);have H9 := (HG.out.snocC CC6 (fun b hb => by have hb : b = sb := hb;omega) ol6 ndl (fun b hb => by have := lol b hb;omega) hz (n := i) HL.out own9 gr9 (by rcases hw9 with h | h;exact .inl h;right;omega)).chgB ch10 (fun b hb => by have hb : b = _ := hb;omega);have F9 := (((HF.out.chg CC6 (fun b hb => by have hb : b = sb := hb;omega)).snoc (a := 0) (b := inn) (o := O) ((fw.ext E6).base (by omega)) ((fb.ext E6).base (by omega))).grown (jaj row5 E6) (by decide) gr9).chg ch10 (fun b hb => by have hb : b = _ := hb;omega)
       have T9 : Tys w10 [33] (bss ++ [bl]).flatten := by
        have hh : (bss ++ [bl]).flatten = bss.flatten ++ bl := by simp
        rw [hh];refine ((((HT.out.chg CC6 (fun b hb h => by have h : b = sb := h;have := (HG.out.lo b hb).1;omega)).app (tyl.ext E6)).chg (.of_grown gr9) (fun b hb h => ?_)).chg ch10 (fun b hb h => ?_))
        · rcases List.mem_append.1 hb with hb | hb
          · exact (HG.out.lo b hb).2 h.symm
          · have := own_lt hrow b h.symm;have := lol b hb;omega
        · have h : b = _ := h
          rcases List.mem_append.1 hb with hb | hb
          · have := (HG.out.lo b hb).1;omega
          · have := lol b hb;omega
       have S9 := (((S5.ext E6).chg (.of_grown gr9) (fun b hb => by have := jaf row5 b hb.symm;omega)).chg ch10 (fun b hb => by have hb : b = _ := hb;omega)).mono (show K + 2 + i * 5000 + 6 + 4000 ≤ K + 2 + (i + 1) * 5000 by omega);have C9 := ((C5.trans (.of_ext E6)).late (.of_grown gr9) (fun b hb => by left;have := jaf row5 b hb.symm;omega)).late ch10 (fun b hb => by left;have hb : b = _ := hb;omega);have Z9 : HB w10 w.heap.size #[.slice none 0 0] 38 := ((Z5.ext E6).chg (.of_grown gr9) (fun h => by have := jaf row5 _ h.symm;omega)).chg ch10 (fun h => by omega);exact ⟨i + 1,c9,L ++ [((0 : Int),inn,O,ws,bs,())],some ⟨g9,0,none⟩,_,_,by omega,by rw [lastO_snoc];rfl,by go_num,by rw [Hid,List.length_append,HL.out];rfl,b11,Z9,H9,T9,G10,S9,C9,by have := gr9.size;have := ch10.size;omega,F9⟩
      case measure => simp [intOf];omega
  · obtain rfl : M = i := by omega
    have hB0 := B0.lt;have g2 := B1.cell 0 rfl;have g1 := B0.cell 0 rfl;have g3 := B0.froz 0;go_wp2;refine bodyPost_ret (v := .agg #[.slice q M c]) (by simp [results,Try.results55,go_sem,g1,g3]) rfl ?_;have ch := jae wr w.heap.size 0 (.slice q M c);have HLo := HL.out;subst HLo;exact ⟨i0,L,q,c,rfl,HQ.out,hM1.1,hM1.2,⟨w1.heap.size,cs,bss,by omega,by have := ch.size;omega,HG.out.chgB ch (fun b hb => by have hb : b = _ := hb;omega),HT.out.chg ch (fun b hb h => by have h : b = _ := h;have := (HG.out.lo b hb).1;omega),HF.out.chg ch (fun b hb => by have hb : b = _ := hb;omega)⟩,(S.chg ch (fun b hb => by have hb : b = _ := hb;omega)).mono (by omega),C.late ch (fun b hb => by left;have hb : b = _ := hb;omega)⟩
end Go.Proofs.Ytmbckkcgiafagaa
