/- A part of the proofs: Dr5, Fus. -/
import Derived.Test.YtmbckkcgiafagaaZ12FnFuse
import Derived.Test.YtmbckkcgiafagaaZ07FnFuse
import Derived.Test.YtmbckkcgiafagaaZ11FnFuse
import Derived.Test.YtmbckkcgiafagaaZ06FnFuse
set_option linter.unusedSimpArgs false
set_option linter.unusedVariables false
set_option maxRecDepth 100000
set_option maxHeartbeats 16000000
namespace Go.Proofs.Ytmbckkcgiafagaa
open Go.RowKit
theorem Chg.late {S S' : Nat → Prop} {w w1 w2 : World} (h : Chg S w w1) (k : Chg S' w1 w2) (hS : ∀ b,S' b → w.heap.size ≤ b ∨ S b) : Chg S w w2 :=
 ⟨k.os.trans h.os,k.tape.trans h.tape,k.output.trans h.output,Nat.le_trans h.size k.size,fun i hi hn => (k.block i (Nat.lt_of_lt_of_le hi h.size) (fun hb => by rcases hS i hb with h1 | h1;omega;exact hn h1)).trans (h.block i hi hn)⟩
theorem cnt_bd {k i o : Int} (hi : 1 ≤ i ∧ i ≤ 8) (ho : 1 ≤ o ∧ o ≤ 8) : ∃ nw nb : Nat,wCnt k i o = nw ∧ bCnt k i o = nb ∧ nw ≤ 64 ∧ nb ≤ 64 := by
 have hm := mul_bd hi ho;refine ⟨(wCnt k i o).toNat,(bCnt k i o).toNat,?_,?_,?_,?_⟩
 all_goals (first | unfold wCnt | unfold bCnt);repeat (first | omega | split)
def Full (B : Nat) (w : World) (u : Value) : Prop := ∀ g n c,u = .slice (some ⟨g,0,none⟩) n c → B ≤ g ∧ ∃ Z m,w.heap[g]? = some (.cells Z 33 m) ∧ Z.size = c
theorem full_of {w : World} {B n c : Nat} {q : Option Addr} {vs : List Value} (h : w.ownsRow B 33 1 (.slice q n c) n vs) : Full B w (.slice q n c) := by
 intro g n' c' e
 cases e
 rcases h.2 with ⟨h1,_⟩ | ⟨g',cap,cur,h1,hB,hh,_,_,hs,_⟩
 · cases h1
 · cases h1;exact ⟨hB,cur,_,hh,by omega⟩
theorem Full.chgT {B : Nat} {w w' : World} {u : Value} {S : Nat → Prop} (h : Full B w u) (k : Chg S w w') (hS : ∀ b,S b → b < B ∨ ∃ Z T m,w.heap[b]? = some (.cells Z T m) ∧ T ≠ 33) : Full B w' u := by
 intro g n c e;obtain ⟨h1,Z,m,h2,h3⟩ := h g n c e;refine ⟨h1,Z,m,?_,h3⟩;rw [k.block g (heap_lt h2) (fun hs => ?_)]
 · exact h2
 · rcases hS g hs with h4 | ⟨Z',T,m',h4,h5⟩
   · omega
   · rw [h2] at h4;cases h4;exact h5 rfl
theorem Full.chg {B : Nat} {w w' : World} {u : Value} {S : Nat → Prop} (h : Full B w u) (k : Chg S w w') (hS : ∀ b,S b → b < B) : Full B w' u := h.chgT k fun b hb => .inl (hS b hb)
theorem Full.base {B B' : Nat} {w : World} {u : Value} (h : Full B w u) (hB : B' ≤ B) : Full B' w u := fun g n c e => ⟨Nat.le_trans hB (h g n c e).1,(h g n c e).2⟩
theorem Full.ext {B : Nat} {w w' : World} {u : Value} (h : Full B w u) (e : Ext w w') : Full B w' u := h.chg (Chg.of_ext (S := fun _ => False) e) fun _ h => h.elim
theorem Full.grown {B B' t s n : Nat} {w w' : World} {u v : Value} {vs : List Value} (h : Full B w u) (row : w.ownsRow B' t s v n vs) (ht : t ≠ 33) (gr : w.grownBy w' v.ownBlock) : Full B w' u := by
 refine h.chgT (Chg.of_grown gr) fun b hb => .inr ?_
 rcases row.2 with ⟨h1,_⟩ | ⟨g',cap,cur,h1,_,hh,_⟩
 · rw [h1] at hb;cases hb
 · rw [h1] at hb
   have hb : some b = some g' := hb
   cases hb
   exact ⟨_,_,_,hh,ht⟩
def FullL (B : Nat) (w : World) (css : List (List Value)) : Prop := ∀ cs ∈ css,∀ u ∈ cs,Full B w u
theorem FullL.chgT {B : Nat} {w w' : World} {css : List (List Value)} {S : Nat → Prop} (h : FullL B w css) (k : Chg S w w') (hS : ∀ b,S b → b < B ∨ ∃ Z T m,w.heap[b]? = some (.cells Z T m) ∧ T ≠ 33) : FullL B w' css := fun c hc u hu => (h c hc u hu).chgT k hS
theorem FullL.chg {B : Nat} {w w' : World} {css : List (List Value)} {S : Nat → Prop} (h : FullL B w css) (k : Chg S w w') (hS : ∀ b,S b → b < B) : FullL B w' css := fun c hc u hu => (h c hc u hu).chg k hS
theorem FullL.ext {B : Nat} {w w' : World} {css : List (List Value)} (h : FullL B w css) (e : Ext w w') : FullL B w' css := fun c hc u hu => (h c hc u hu).ext e
theorem FullL.base {B B' : Nat} {w : World} {css : List (List Value)} (h : FullL B w css) (hB : B' ≤ B) : FullL B' w css := fun c hc u hu => (h c hc u hu).base hB
theorem FullL.grown {B B' t s n : Nat} {w w' : World} {css : List (List Value)} {v : Value} {vs : List Value} (h : FullL B w css) (row : w.ownsRow B' t s v n vs) (ht : t ≠ 33) (gr : w.grownBy w' v.ownBlock) : FullL B w' css := fun c hc u hu => (h c hc u hu).grown row ht gr
theorem FullL.snoc {B : Nat} {w : World} {css : List (List Value)} {a b o : Int} {u v : Value} (h : FullL B w css) (h1 : Full B w u) (h2 : Full B w v) : FullL B w (css ++ [[.int .i64 a,.int .i64 b,.int .i64 o,u,v]]) := by
 intro c hc x hx;rcases List.mem_append.1 hc with hc | hc
 · exact h c hc x hx
 · have hc := List.mem_singleton.1 hc
   subst hc;simp only [List.mem_cons,List.not_mem_nil,or_false] at hx;rcases hx with rfl | rfl | rfl | rfl | rfl
   · intro g n c e;cases e
   · intro g n c e;cases e
   · intro g n c e;cases e
   · exact h1
   · exact h2
theorem full_nil (B : Nat) (w : World) : Full B w (.slice none 0 0) := fun g n c e => by cases e
def GotLay (sb K : Nat) (k i o : Int) (w : World) (e : Ending) (w' : World) : Prop :=
 ∃ (ws bs : List Nat) (pw pb : Option Addr) (cw cb : Nat),e = .returned (.agg #[.int .i64 k,.int .i64 i,.int .i64 o,.slice pw ws.length cw,.slice pb bs.length cb]) ∧ layB k i o ws.length bs.length = true ∧ (∀ x ∈ ws,x < 4294967296) ∧ (∀ x ∈ bs,x < 4294967296) ∧
   jbu [33] w.heap.size jaa w' [.int .i64 k,.int .i64 i,.int .i64 o,.slice pw ws.length cw,.slice pb bs.length cb] (k,i,o,ws,bs,()) ∧ DrAt w' sb K ∧ Chg (fun b => b = sb) w w' ∧ Full w.heap.size w' (.slice pw ws.length cw) ∧ Full w.heap.size w' (.slice pb bs.length cb)
theorem gotFs_thing {sb K n : Nat} {w w' : World} {e : Ending} (h : GotFs sb K n w e w') : ∃ (xs : List Nat) (q : Option Addr) (c : Nat) (bs : List Nat),e = .returned (.slice q n c) ∧ xs.length = n ∧ (∀ x ∈ xs,x < 4294967296) ∧ Own w' (.sl .flt) [.slice q n c] xs bs ∧ bs.Nodup ∧ (∀ b ∈ bs,w.heap.size ≤ b) ∧ Tys w' [33] bs ∧ DrAt w' sb K ∧ Chg (fun b => b = sb) w w' ∧ Full w.heap.size w' (.slice q n c) := by
 obtain ⟨xs,hx,hb,⟨q,c,vs,he,ho,hf⟩,hd,hc⟩ := h;have F := full_of ho;have H : Own w' (.sl .flt) [.slice q xs.length c] xs (jac q) := jbv.2 ⟨q,c,vs,rfl,jbl ho,hf,(jat ho).1,(jat ho).2,rfl⟩;have T := own_tys ho
 have hlo : ∀ b ∈ jac q,w.heap.size ≤ b := by
  intro b hb
  cases q with
  | none => simp [jac] at hb
  | some a => simp [jac] at hb;subst hb;exact jah ho _ rfl
 rw [hx] at he H F;exact ⟨xs,q,c,jac q,he,hx,hb,H,by cases q <;> simp [jac],hlo,T,hd,hc,F⟩
theorem l03DrawLayer_any (sb K : Nat) (k i o : Int) (w : World) (h : DrAt w sb K) (hK : K ≤ 1000000) (hk : 0 ≤ k ∧ k ≤ 5) (hi : 1 ≤ i ∧ i ≤ 8) (ho : 1 ≤ o ∧ o ≤ 8) :
 Calls Try.prog 97 #[.pointer (some ⟨sb,0,none⟩),.int .i64 k,.int .i64 i,.int .i64 o] w (GotLay sb (K + 4000) k i (if k = 0 then o else i) w) := by
 have hlt0 := h.lt;obtain ⟨W0,hW0⟩ : ∃ W0,W0 = (w.alloc (.cells #[.int .i64 0,.int .i64 0,.int .i64 0,.slice none 0 0,.slice none 0 0] 41)).alloc (.cells #[.int .i64 k,.int .i64 i,.int .i64 i,.slice none 0 0,.slice none 0 0] 41) := ⟨_,rfl⟩;obtain ⟨E0,s0,b0,b1⟩ := box2 hW0;have b0 : HB W0 w.heap.size #[.int .i64 0,.int .i64 0,.int .i64 0,.slice none 0 0,.slice none 0 0] 41 := b0;have b1 : HB W0 (w.heap.size + 1) #[.int .i64 k,.int .i64 i,.int .i64 i,.slice none 0 0,.slice none 0 0] 41 := b1;have H0 := h.ext E0;clear h
 by_cases hk0 : k = 0
 case pos =>
  subst hk0;rw [if_pos rfl];go_enter Try.func97,Try.ntmps97;go_wp2_with (first | (rw [← hW0];clear hW0;(with_reducible show gx11);refine jbp (j := 2) rfl rfl b1 rfl rfl rfl rfl ?_;intro W1 b1 ch1;have b0 := b0.chg ch1 (fun hh => by omega);have H0 := H0.chg ch1 (fun b hb => by omega);have E0 := E0.chg ch1 (fun b hb => by omega)) | fail);have b1 : HB W1 (w.heap.size + 1) #[.int .i64 0,.int .i64 i,.int .i64 o,.slice none 0 0,.slice none 0 0] 41 := b1;refine (l03Counts_any (sp := none) (w.heap.size + 1) 0 0 i o W1 (b1.cell 0 rfl) (b1.cell 1 rfl) (b1.cell 2 rfl) hi ho).mono ?_;rintro e w2 ⟨rfl,e2⟩
  obtain ⟨nw,nb,hnw,hnb,lw,lb⟩ := cnt_bd (k := 0) hi ho
  have HL : Hid (∀ a b : Nat,a = nw → b = nb → layB 0 i o a b = true) := hid (by
   rintro a b rfl rfl
   unfold layB;simp only [Bool.and_eq_true,jas,decide_eq_true_eq,Bool.or_eq_true];exact ⟨⟨by omega,by omega⟩,hi,ho,by first | exact Or.inl rfl | exact Or.inr rfl | (left;simp),by omega,by omega⟩)
  rw [hnw,hnb];have S2 := H0.ext e2;have B2 := b1.ext e2;have Z2 := b0.ext e2;have E2 := E0.trans e2;clear hnw hnb b1 b0 H0 E0;have hz := E2.size;go_wp2_with fail;refine (drFloats_any sb K nw w2 S2 (by omega) (by omega)).mono ?_;rintro e w3 h3
  obtain ⟨ws,q,c,bsw,rfl,hwl,hwb,ow,ndw,low,tw,S3,c3,fw⟩ := gotFs_thing h3;have B3 := B2.chg c3 (fun hh => by omega);have Z3 := Z2.chg c3 (fun hh => by omega);have hlt2 := B2.lt;clear h3 S2;go_wp2_with (first | ((with_reducible show gx11);refine jbp (j := 3) rfl rfl B3 rfl rfl rfl rfl ?_;intro w4 B4 ch4;have B4 : HB w4 (w.heap.size + 1) #[.int .i64 0,.int .i64 i,.int .i64 o,.slice q nw c,.slice none 0 0] 41 := B4;have Z4 := Z3.chg ch4 (fun hh => by omega);have S4 := S3.chg ch4 (fun b hb => by omega)) | fail);refine (drFloats_any sb (K + 2 + nw * 30) nb w4 S4 (by omega) (by omega)).mono ?_;rintro e w5 h5
  obtain ⟨bv,q5,c5,bsb,rfl,hbl,hbb,ob,ndb,lob,tb,S5,ch5,fb⟩ := gotFs_thing h5;have B5 := B4.chg ch5 (fun hh => by omega);have Z5 := Z4.chg ch5 (fun hh => by omega);clear h5 S4 S3;have k1 := c3.size;have k2 := ch4.size;have k3 := ch5.size;have ow4 := ow.chg ch4 (fun b hb hh => by have := low b hb;have hh : b = _ := hh;omega);have ow5 := ow4.chg ch5 (fun b hb hh => by have := low b hb;have hh : b = _ := hh;omega);have tw5 := (tw.chg ch4 (fun b hb hh => by have := low b hb;have hh : b = _ := hh;omega)).chg ch5 (fun b hb hh => by have := low b hb;have hh : b = _ := hh;omega);have ltw := ow.lt;have C5 := (((Chg.of_ext (S := fun b => b = sb) E2).trans c3).late ch4 (fun b hb => by left;have hb : b = _ := hb;omega)).trans ch5;go_wp2_with (first | ((with_reducible show gx11);refine jbp (j := 4) rfl rfl B5 rfl rfl rfl rfl ?_;intro w6 B6 ch6;have B6 : HB w6 (w.heap.size + 1) #[.int .i64 0,.int .i64 i,.int .i64 o,.slice q nw c,.slice q5 nb c5] 41 := B6;have Z6 := Z5.chg ch6 (fun hh => by omega);have r0 := B6.cell 0 rfl;have r1 := B6.cell 1 rfl;have r2 := B6.cell 2 rfl;have r3 := B6.cell 3 rfl;have r4 := B6.cell 4 rfl;have f0 := Z6.froz 0;have f1 := Z6.froz 1;have f2 := Z6.froz 2;have f3 := Z6.froz 3;have f4 := Z6.froz 4;have z0 := Z6.cell 0 rfl;have z1 := Z6.cell 1 rfl;have z2 := Z6.cell 2 rfl;have z3 := Z6.cell 3 rfl;have z4 := Z6.cell 4 rfl) | fail);have Z7 : HB (((((w6.setCell ⟨w.heap.size,0,none⟩ (.int .i64 0)).setCell ⟨w.heap.size,1,none⟩ (.int .i64 i)).setCell ⟨w.heap.size,2,none⟩ (.int .i64 o)).setCell ⟨w.heap.size,3,none⟩ (.slice q nw c)).setCell ⟨w.heap.size,4,none⟩ (.slice q5 nb c5)) w.heap.size #[.int .i64 0,.int .i64 i,.int .i64 o,.slice q nw c,.slice q5 nb c5] 41 := ((((Z6.set 0 _).set 1 _).set 2 _).set 3 _).set 4 _;have C7 : Chg (fun b => b = w.heap.size) w6 (((((w6.setCell ⟨w.heap.size,0,none⟩ (.int .i64 0)).setCell ⟨w.heap.size,1,none⟩ (.int .i64 i)).setCell ⟨w.heap.size,2,none⟩ (.int .i64 o)).setCell ⟨w.heap.size,3,none⟩ (.slice q nw c)).setCell ⟨w.heap.size,4,none⟩ (.slice q5 nb c5)) := ((((jaj _ _ 0 _).trans (jaj _ _ 1 _)).trans (jaj _ _ 2 _)).trans (jaj _ _ 3 _)).trans (jaj _ _ 4 _);clear r0 r1 r2 r3 r4 f0 f1 f2 f3 f4 z0 z1 z2 z3 z4;generalize (((((w6.setCell ⟨w.heap.size,0,none⟩ (.int .i64 0)).setCell ⟨w.heap.size,1,none⟩ (.int .i64 i)).setCell ⟨w.heap.size,2,none⟩ (.int .i64 o)).setCell ⟨w.heap.size,3,none⟩ (.slice q nw c)).setCell ⟨w.heap.size,4,none⟩ (.slice q5 nb c5)) = W7 at *;have y0 := Z7.cell 0 rfl;have y1 := Z7.cell 1 rfl;have y2 := Z7.cell 2 rfl;have y3 := Z7.cell 3 rfl;have y4 := Z7.cell 4 rfl;refine bodyPost_ret (v := .agg #[.int .i64 0,.int .i64 i,.int .i64 o,.slice q nw c,.slice q5 nb c5]) (by simp [results,Try.results97,go_sem,y0,y1,y2,y3,y4]) rfl ?_;have k6 := ch6.size;have ow7 := (ow5.chg ch6 (fun b hb hh => by have := low b hb;have hh : b = _ := hh;omega)).chg C7 (fun b hb hh => by have := low b hb;have hh : b = _ := hh;omega);have ob7 := (ob.chg ch6 (fun b hb hh => by have := lob b hb;have hh : b = _ := hh;omega)).chg C7 (fun b hb hh => by have := lob b hb;have hh : b = _ := hh;omega);have tw7 := (tw5.chg ch6 (fun b hb hh => by have := low b hb;have hh : b = _ := hh;omega)).chg C7 (fun b hb hh => by have := low b hb;have hh : b = _ := hh;omega);have tb7 := (tb.chg ch6 (fun b hb hh => by have := lob b hb;have hh : b = _ := hh;omega)).chg C7 (fun b hb hh => by have := lob b hb;have hh : b = _ := hh;omega);have fw7 := (((fw.chg ch4 (fun b hb => by have hb : b = _ := hb;omega)).chg ch5 (fun b hb => by have hb : b = _ := hb;omega)).chg ch6 (fun b hb => by have hb : b = _ := hb;omega)).chg C7 (fun b hb => by have hb : b = _ := hb;omega);have fb7 := (fb.chg ch6 (fun b hb => by have hb : b = _ := hb;omega)).chg C7 (fun b hb => by have hb : b = _ := hb;omega);subst hwl;subst hbl;refine ⟨ws,bv,q,q5,c,c5,rfl,HL.out _ _ rfl rfl,hwb,hbb,⟨bsw ++ bsb,own_lay (d := (0,i,o,ws,bv,())) ow7 ob7,nodup_app ndw ndb (fun x hx => by have := ltw x hx;omega) (fun x hx => lob x hx),?_,tw7.app tb7⟩,?_,(C5.late ch6 (fun b hb => by left;have hb : b = _ := hb;omega)).late C7 (fun b hb => by left;have hb : b = _ := hb;omega),fw7.base (by omega),fb7.base (by omega)⟩
  · intro b hb
    rcases List.mem_append.1 hb with h | h
    · have := low b h;omega
    · have := lob b h;omega
  · exact ((S5.chg ch6 (fun b hb => by have hb : b = _ := hb;omega)).chg C7 (fun b hb => by have hb : b = _ := hb;omega)).mono (by omega)
 case neg =>
  rw [if_neg hk0];obtain ⟨W1,rfl⟩ : ∃ W1,W1 = W0 := ⟨_,rfl⟩;go_enter Try.func97,Try.ntmps97;go_wp2_with fail;rw [← hW0];clear hW0;refine (l03Counts_any (sp := none) (w.heap.size + 1) 0 k i i W1 (b1.cell 0 rfl) (b1.cell 1 rfl) (b1.cell 2 rfl) hi hi).mono ?_;rintro e w2 ⟨rfl,e2⟩
  obtain ⟨nw,nb,hnw,hnb,lw,lb⟩ := cnt_bd (k := k) hi hi
  have HL : Hid (∀ a b : Nat,a = nw → b = nb → layB k i i a b = true) := hid (by
   rintro a b rfl rfl
   unfold layB;simp only [Bool.and_eq_true,jas,decide_eq_true_eq,Bool.or_eq_true];exact ⟨⟨by omega,by omega⟩,hi,hi,by first | exact Or.inr rfl | (right;simp),by omega,by omega⟩)
  rw [hnw,hnb];have S2 := H0.ext e2;have B2 := b1.ext e2;have Z2 := b0.ext e2;have E2 := E0.trans e2;clear hnw hnb b1 b0 H0 E0;have hz := E2.size;go_wp2_with fail;refine (drFloats_any sb K nw w2 S2 (by omega) (by omega)).mono ?_;rintro e w3 h3
  obtain ⟨ws,q,c,bsw,rfl,hwl,hwb,ow,ndw,low,tw,S3,c3,fw⟩ := gotFs_thing h3;have B3 := B2.chg c3 (fun hh => by omega);have Z3 := Z2.chg c3 (fun hh => by omega);have hlt2 := B2.lt;clear h3 S2;go_wp2_with (first | ((with_reducible show gx11);refine jbp (j := 3) rfl rfl B3 rfl rfl rfl rfl ?_;intro w4 B4 ch4;have B4 : HB w4 (w.heap.size + 1) #[.int .i64 k,.int .i64 i,.int .i64 i,.slice q nw c,.slice none 0 0] 41 := B4;have Z4 := Z3.chg ch4 (fun hh => by omega);have S4 := S3.chg ch4 (fun b hb => by omega)) | fail);refine (drFloats_any sb (K + 2 + nw * 30) nb w4 S4 (by omega) (by omega)).mono ?_;rintro e w5 h5
  obtain ⟨bv,q5,c5,bsb,rfl,hbl,hbb,ob,ndb,lob,tb,S5,ch5,fb⟩ := gotFs_thing h5;have B5 := B4.chg ch5 (fun hh => by omega);have Z5 := Z4.chg ch5 (fun hh => by omega);clear h5 S4 S3;have k1 := c3.size;have k2 := ch4.size;have k3 := ch5.size;have ow4 := ow.chg ch4 (fun b hb hh => by have := low b hb;have hh : b = _ := hh;omega);have ow5 := ow4.chg ch5 (fun b hb hh => by have := low b hb;have hh : b = _ := hh;omega);have tw5 := (tw.chg ch4 (fun b hb hh => by have := low b hb;have hh : b = _ := hh;omega)).chg ch5 (fun b hb hh => by have := low b hb;have hh : b = _ := hh;omega);have ltw := ow.lt;have C5 := (((Chg.of_ext (S := fun b => b = sb) E2).trans c3).late ch4 (fun b hb => by left;have hb : b = _ := hb;omega)).trans ch5;go_wp2_with (first | ((with_reducible show gx11);refine jbp (j := 4) rfl rfl B5 rfl rfl rfl rfl ?_;intro w6 B6 ch6;have B6 : HB w6 (w.heap.size + 1) #[.int .i64 k,.int .i64 i,.int .i64 i,.slice q nw c,.slice q5 nb c5] 41 := B6;have Z6 := Z5.chg ch6 (fun hh => by omega);have r0 := B6.cell 0 rfl;have r1 := B6.cell 1 rfl;have r2 := B6.cell 2 rfl;have r3 := B6.cell 3 rfl;have r4 := B6.cell 4 rfl;have f0 := Z6.froz 0;have f1 := Z6.froz 1;have f2 := Z6.froz 2;have f3 := Z6.froz 3;have f4 := Z6.froz 4;have z0 := Z6.cell 0 rfl;have z1 := Z6.cell 1 rfl;have z2 := Z6.cell 2 rfl;have z3 := Z6.cell 3 rfl;have z4 := Z6.cell 4 rfl) | fail);have Z7 : HB (((((w6.setCell ⟨w.heap.size,0,none⟩ (.int .i64 k)).setCell ⟨w.heap.size,1,none⟩ (.int .i64 i)).setCell ⟨w.heap.size,2,none⟩ (.int .i64 i)).setCell ⟨w.heap.size,3,none⟩ (.slice q nw c)).setCell ⟨w.heap.size,4,none⟩ (.slice q5 nb c5)) w.heap.size #[.int .i64 k,.int .i64 i,.int .i64 i,.slice q nw c,.slice q5 nb c5] 41 := ((((Z6.set 0 _).set 1 _).set 2 _).set 3 _).set 4 _;have C7 : Chg (fun b => b = w.heap.size) w6 (((((w6.setCell ⟨w.heap.size,0,none⟩ (.int .i64 k)).setCell ⟨w.heap.size,1,none⟩ (.int .i64 i)).setCell ⟨w.heap.size,2,none⟩ (.int .i64 i)).setCell ⟨w.heap.size,3,none⟩ (.slice q nw c)).setCell ⟨w.heap.size,4,none⟩ (.slice q5 nb c5)) := ((((jaj _ _ 0 _).trans (jaj _ _ 1 _)).trans (jaj _ _ 2 _)).trans (jaj _ _ 3 _)).trans (jaj _ _ 4 _);clear r0 r1 r2 r3 r4 f0 f1 f2 f3 f4 z0 z1 z2 z3 z4;generalize (((((w6.setCell ⟨w.heap.size,0,none⟩ (.int .i64 k)).setCell ⟨w.heap.size,1,none⟩ (.int .i64 i)).setCell ⟨w.heap.size,2,none⟩ (.int .i64 i)).setCell ⟨w.heap.size,3,none⟩ (.slice q nw c)).setCell ⟨w.heap.size,4,none⟩ (.slice q5 nb c5)) = W7 at *;have y0 := Z7.cell 0 rfl;have y1 := Z7.cell 1 rfl;have y2 := Z7.cell 2 rfl;have y3 := Z7.cell 3 rfl;have y4 := Z7.cell 4 rfl;refine bodyPost_ret (v := .agg #[.int .i64 k,.int .i64 i,.int .i64 i,.slice q nw c,.slice q5 nb c5]) (by simp [results,Try.results97,go_sem,y0,y1,y2,y3,y4]) rfl ?_;have k6 := ch6.size;have ow7 := (ow5.chg ch6 (fun b hb hh => by have := low b hb;have hh : b = _ := hh;omega)).chg C7 (fun b hb hh => by have := low b hb;have hh : b = _ := hh;omega);have ob7 := (ob.chg ch6 (fun b hb hh => by have := lob b hb;have hh : b = _ := hh;omega)).chg C7 (fun b hb hh => by have := lob b hb;have hh : b = _ := hh;omega);have tw7 := (tw5.chg ch6 (fun b hb hh => by have := low b hb;have hh : b = _ := hh;omega)).chg C7 (fun b hb hh => by have := low b hb;have hh : b = _ := hh;omega);have tb7 := (tb.chg ch6 (fun b hb hh => by have := lob b hb;have hh : b = _ := hh;omega)).chg C7 (fun b hb hh => by have := lob b hb;have hh : b = _ := hh;omega);have fw7 := (((fw.chg ch4 (fun b hb => by have hb : b = _ := hb;omega)).chg ch5 (fun b hb => by have hb : b = _ := hb;omega)).chg ch6 (fun b hb => by have hb : b = _ := hb;omega)).chg C7 (fun b hb => by have hb : b = _ := hb;omega);have fb7 := (fb.chg ch6 (fun b hb => by have hb : b = _ := hb;omega)).chg C7 (fun b hb => by have hb : b = _ := hb;omega);subst hwl;subst hbl;refine ⟨ws,bv,q,q5,c,c5,rfl,HL.out _ _ rfl rfl,hwb,hbb,⟨bsw ++ bsb,own_lay (d := (k,i,i,ws,bv,())) ow7 ob7,nodup_app ndw ndb (fun x hx => by have := ltw x hx;omega) (fun x hx => lob x hx),?_,tw7.app tb7⟩,?_,(C5.late ch6 (fun b hb => by left;have hb : b = _ := hb;omega)).late C7 (fun b hb => by left;have hb : b = _ := hb;omega),fw7.base (by omega),fb7.base (by omega)⟩
  · intro b hb
    rcases List.mem_append.1 hb with h | h
    · have := low b h;omega
    · have := lob b h;omega
  · exact ((S5.chg ch6 (fun b hb => by have hb : b = _ := hb;omega)).chg C7 (fun b hb => by have hb : b = _ := hb;omega)).mono (by omega)
end Go.Proofs.Ytmbckkcgiafagaa
namespace Go.Proofs.Ytmbckkcgiafagaa
open Go.RowKit Ex
def ZL (xs : List Nat) (f : Nat → Int) (M : Nat) : Prop := ∀ i,i < xs.length → IZ .f32 (xs.getD i 0) (f i) ∧ (f i).natAbs ≤ M
theorem iz0 : IZ .f64 0 0 := ⟨false,0,-1074,by decide +kernel,by decide,.inl rfl,by rw [vs_zero,Int.zero_mul]⟩
theorem DotWide_whole (p q : Option Addr) (n c d M N : Nat) (us vs : List Value) (xs ys : List Nat) (f g : Nat → Int) (w : World) (hx : xs.length = n) (hy : ys.length = n) (hn : n ≤ 16) (hp : Cs w p us) (hf : F32s us xs) (hq : Cs w q vs) (hg : F32s vs ys) (zf : ZL xs f M) (zg : ZL ys g N) (hMN : M * N ≤ 100000) (hM : M ≤ 100000) (hN : N ≤ 100000) :
 Calls Try.prog 127 #[.slice p n c,.slice q n d] w fun e w' => ∃ b,e = .returned (.tuple #[.float .f32 b,.bool true]) ∧ IZ .f32 (cn .f32 b) (SZ (fun i => f i * g i) n) ∧ Ext w w' := by
 have hb : ∀ i,i < n → (f i * g i).natAbs ≤ M * N := fun i hi => by
  rw [Int.natAbs_mul];exact Nat.mul_le_mul (zf i (by omega)).2 (zg i (by omega)).2
 have hS : ∀ i,i ≤ n → (SZ (fun i => f i * g i) i).natAbs ≤ 1600000 := fun i hi => by
  have h1 := SZ_bd (h := fun i => f i * g i) (M := M * N) i (fun j hj => hb j (by omega));have h2 : i * (M * N) ≤ 16 * 100000 := Nat.mul_le_mul (by omega) hMN;omega
 have HX := hid hx;have HY := hid hy;have HS := hid hS;have HB := hid hb;have ZF := hid zf;have ZG := hid zg;have hnn := bne_f (rfl : (n : Int) = (n : Int));have hgt : decide ((256 : Int) < (n : Int)) = false := by simp;omega
 clear hx hy hS hb zf zg;go_enter Try.func127,Try.ntmps127;go_wp2;go_loopw [6,20] (fun sv iv wr => ∃ (i r : Nat),i ≤ n ∧ iv = .int .i64 (i : Int) ∧ sv = .float .f64 r ∧ Hid (IZ .f64 (cn .f64 r) (SZ (fun i => f i * g i) i)) ∧ Ext w wr) (fun _ iv _ => n - (intOf iv).toNat)
 case atStart => exact ⟨0,0,by omega,rfl,rfl,iz_cn iz0,Ext.refl _⟩
 case round =>
  obtain ⟨i,r,hi,rfl,rfl,HR,he⟩ := hrel
  by_cases hlt : i < n
  · have hdl : decide ((i : Int) < (n : Int)) = true := by simp;omega
    have k1 := (hp.ext he).ext (Ext.drew wr);have k2 := (hq.ext he).ext (Ext.drew wr);go_wp2_with fail;refine jab (F := fun _ _ _ => False) (by kernel_rfl) (by kernel_rfl) (by kernel_rfl) ?_;intro wf hwf
    repeat (first
     | ((first | (refine jar rfl ?_) | (refine x_mv rfl rfl rfl ?_) | (refine x_as rfl rfl rfl ?_) | ((with_reducible show gx0);first | (refine x_ldF rfl rfl (fun _ => rfl) rfl (fun _ => rfl) rfl rfl k1 hf HX.out (by omega) (by omega) ?_;intro r1 g1;rw [Int.toNat_natCast] at g1;have G1 := hid g1;clear g1) | (refine x_ldF rfl rfl (fun _ => rfl) rfl (fun _ => rfl) rfl rfl k2 hg HY.out (by omega) (by omega) ?_;intro r2 g2;rw [Int.toNat_natCast] at g2;have G2 := hid g2;clear g2)) | ((with_reducible show gx16);refine x_conv rfl rfl rfl (by rw [jaq];rfl) jax (jbd _) ?_;(first | (have zz := G3;intro r4 g4;have G4 := hid g4;clear g4 zz) | (intro r3 g3;have G3 := hid g3;clear g3))) | ((with_reducible show gx1);refine x_fop rfl rfl rfl rfl rfl ?_;(first | (have zz := G5;intro r6 g6;have G6 := hid g6;clear g6 zz) | (intro r5 g5;have G5 := hid g5;clear g5))));simp only [Act.put,jad,pu1,pu2,pu3,pu4,pu5])
     | (refine ja7 rfl fun K hK w1 hw1 => ?_;go_simp;refine hK _ ?_;clear hK K  hw1 w1))
    refine ja6 ?_;have hW := (he.trans (Ext.drew wr)).trans hwf;go_wp2;go_roundw
    case rel =>
     refine ⟨i + 1,r6,by omega,by go_num,rfl,?_,hW⟩;have a1 := (ZF.out i (by rw [HX.out];exact hlt)).1;have a2 := (ZG.out i (by rw [HY.out];exact hlt)).1;have b1 := (ZF.out i (by rw [HX.out];exact hlt)).2;have b2 := (ZG.out i (by rw [HY.out];exact hlt)).2;have c1 := HB.out i hlt;have c2 := HS.out (i + 1) hlt;rw [Hid,G6.out,G5.out,G3.out,G4.out,G1.out,G2.out];exact iz_add HR.out (iz_mul (iz_wide a1 (by omega)) (iz_wide a2 (by omega)) (by omega)) (Nat.lt_of_le_of_lt (show (SZ (fun i => f i * g i) i + f i * g i).natAbs ≤ 1600000 from c2) (by decide))
    case measure => simp [intOf];omega
  · obtain rfl : n = i := by omega
    have hbk := iz_back HR.out (by have := HS.out n (Nat.le_refl _);omega);have HOV := hid hbk.2;have HBK := hid hbk.1;clear hbk;go_wp2_with (first | ((with_reducible show gx4);refine wl_conv rfl rfl rfl (by kernel_rfl) jaq HOV.out ?_;intro r0 w0 e0 g0;have G0 := hid g0;clear g0) | fail);go_ret2;exact ⟨r0,rfl,by rw [G0.out];exact HBK.out,he.trans e0⟩
theorem dotWide_whole (p q : Option Addr) (n c d M N : Nat) (us vs : List Value) (xs ys : List Nat) (f g : Nat → Int) (w : World) (hx : xs.length = n) (hy : ys.length = n) (hn : n ≤ 16) (hp : Cs w p us) (hf : F32s us xs) (hq : Cs w q vs) (hg : F32s vs ys) (zf : ZL xs f M) (zg : ZL ys g N) (hMN : M * N ≤ 100000) (hM : M ≤ 100000) (hN : N ≤ 100000) :
 Calls Try.prog 81 #[.slice p n c,.slice q n d] w fun e w' => ∃ b,e = .returned (.float .f32 b) ∧ IZ .f32 (cn .f32 b) (SZ (fun i => f i * g i) n) ∧ Ext w w' := by
 have C := hid (DotWide_whole p q n c d M N us vs xs ys f g w hx hy hn hp hf hq hg zf zg hMN hM hN);go_enter Try.func81,Try.ntmps81;go_wp2_with fail;refine C.out.mono ?_;rintro e w1 ⟨b,rfl,hb,e1⟩
 go_wp2;go_ret;exact ⟨b,rfl,hb,e1⟩
end Go.Proofs.Ytmbckkcgiafagaa
