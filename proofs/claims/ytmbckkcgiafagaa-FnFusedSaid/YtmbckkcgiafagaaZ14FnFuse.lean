/- A part of the proofs: Dr6, Dr7. -/
import Derived.Test.YtmbckkcgiafagaaZ13FnFuse
import Derived.Test.YtmbckkcgiafagaaZ11FnFuse
import Derived.Test.YtmbckkcgiafagaaZ10FnFuse
set_option linter.unusedSimpArgs false
set_option linter.unusedVariables false
set_option maxRecDepth 100000
set_option maxHeartbeats 16000000
namespace Go.Proofs.Ytmbckkcgiafagaa
open Go.RowKit
theorem GrowOwn.snocC {S : Nat → Prop} {w0 w w' : World} {B : Nat} {te : TypeId} {E : Sh} {v : Value} {l : List E.T} {css : List (List Value)} {bss : List (List Nat)} (h : GrowOwn w0 B te E v l css bss) (hx : Chg S w0 w) (hS : ∀ b,S b → b < B) {cs : List Value} {d : E.T} {bs : List Nat}
 (ho : Own w E cs d bs) (hn : bs.Nodup) (hf : ∀ b ∈ bs,w0.heap.size ≤ b) (hB : B ≤ w0.heap.size) {g c n : Nat} (hln : l.length = n) (hr : w'.ownsRow B te E.sz (.slice (some ⟨g,0,none⟩) (n + 1) c) (n + 1) (css.flatten ++ cs)) (hg : w.grownBy w' v.ownBlock) (hw : v.ownBlock = some g ∨ w.heap.size ≤ g) :
 GrowOwn w' B te E (.slice (some ⟨g,0,none⟩) (n + 1) c) (l ++ [d]) (css ++ [cs]) (bss ++ [bs]) := by
 subst hln;have lt0 := h.els.lt;have hv : ∀ k,v.ownBlock = some k → k < w0.heap.size := own_lt h.row;have hsz := hx.size;have ch : Chg (fun k => some k = v.ownBlock) w w' := Chg.of_grown hg;have hlo := h.lo;refine ⟨by simpa [List.flatten_append] using hr,?_,?_,?_⟩
 · refine OwnEs.snoc ((h.els.chg hx (fun b hb hs => by have := (hlo b hb).1;have := hS b hs;omega)).chg ch (fun b hb hk => (hlo b hb).2 hk.symm)) (ho.chg ch fun b hb hk => ?_)
   have := hv b hk.symm;have := hf b hb;omega
 · rw [List.flatten_append,List.flatten_cons,List.flatten_nil,List.append_nil]
   exact nodup_app h.nodup hn lt0 hf
 · intro b hb
   rw [List.flatten_append,List.flatten_cons,List.flatten_nil,List.append_nil,List.mem_append] at hb
   have hlb : b < w.heap.size := by
    rcases hb with hb | hb
    · have := lt0 b hb;omega
    · exact ho.lt b hb
   refine ⟨?_,fun hk => ?_⟩
   · rcases hb with hb | hb
     · exact (hlo b hb).1
     · have := hf b hb;omega
   · simp [Value.ownBlock] at hk;subst hk
     rcases hw with hw | hw
     · rcases hb with hb | hb
       · exact (hlo _ hb).2 hw
       · have := hv _ hw;have := hf _ hb;omega
     · omega
def lastO (i0 : Int) (L : List jaa.T) : Int := match L.getLast? with
 | some d => layO d
 | none => i0
def lastP? (L : List jaa.T) (p : Option Int) : Option Int := match L.getLast? with
 | some d => some (layO d)
 | none => p
theorem modGo_snoc (d : jaa.T) : ∀ (L : List jaa.T) (p : Option Int),modGo p (L ++ [d]) = (modGo p L && (layD d && linkL (lastP? L p) d.2.1))
 | [],p => by simp [modGo,lastP?]
 | x :: L,p => by
   have ih := modGo_snoc d L (some (layO x))
   have hl : lastP? (x :: L) p = lastP? L (some (layO x)) := by
    unfold lastP?
    cases L with
    | nil => rfl
    | cons y L => rw [List.getLast?_cons_cons];cases h : (y :: L).getLast? with
      | none => simp at h
      | some z => rfl
   rw [List.cons_append,modGo,modGo,ih,hl]
   cases layD x <;> cases linkL p x.2.1 <;> simp
theorem lastO_snoc (i0 : Int) (L : List jaa.T) (d : jaa.T) : lastO i0 (L ++ [d]) = layO d := by simp [lastO]
def GoodL (i0 : Int) (L : List jaa.T) : Prop := modGo none L = true ∧ 1 ≤ lastO i0 L ∧ lastO i0 L ≤ 8 ∧ Fit (.sl jaa) L
theorem GoodL.snoc {i0 : Int} {L : List jaa.T} (h : GoodL i0 L) {k o : Int} {ws bs : List Nat} (hl : layB k (lastO i0 L) o ws.length bs.length = true) (hw : ∀ x ∈ ws,x < 4294967296) (hb : ∀ x ∈ bs,x < 4294967296) : GoodL i0 (L ++ [(k,lastO i0 L,o,ws,bs,())]) := by
 obtain ⟨h1,h2,h3,h4⟩ := h;have hl2 := hl;unfold layB at hl2;simp only [Bool.and_eq_true,jas,decide_eq_true_eq,Bool.or_eq_true] at hl2;refine ⟨?_,?_,?_,?_⟩
 · rw [modGo_snoc,h1]
   have : layD (k,lastO i0 L,o,ws,bs,()) = true := hl;rw [this,Bool.true_and,Bool.true_and];show linkL (lastP? L none) (lastO i0 L) = true;unfold lastP? lastO
   cases L.getLast? with
   | none => rfl
   | some x => simp [linkL]
 · rw [lastO_snoc];exact hl2.2.2.1.1
 · rw [lastO_snoc];exact hl2.2.2.1.2
 · intro x hx
   rcases List.mem_append.1 hx with hx | hx
   · exact h4 x hx
   · simp at hx;subst hx
     have a1 : -9223372036854775808 ≤ k ∧ k ≤ 9223372036854775807 := by omega
     have a2 : -9223372036854775808 ≤ lastO i0 L ∧ lastO i0 L ≤ 9223372036854775807 := by omega
     have a3 : -9223372036854775808 ≤ o ∧ o ≤ 9223372036854775807 := by omega
     exact ⟨a1,a2,a3,hw,hb,trivial⟩
def GotMod (sb K n1 : Nat) (w : World) (e : Ending) (w' : World) : Prop :=
 ∃ (i0 : Int) (L : List jaa.T) (q : Option Addr) (c : Nat),e = .returned (.agg #[.slice q L.length c]) ∧ GoodL i0 L ∧ 1 ≤ L.length ∧ L.length ≤ n1 ∧ (∃ (B : Nat) (cs : List (List Value)) (bss : List (List Nat)),w.heap.size ≤ B ∧ B ≤ w'.heap.size ∧ GrowOwn w' B 41 jaa (.slice q L.length c) L cs bss ∧ Tys w' [33] bss.flatten ∧ FullL B w' cs) ∧ DrAt w' sb K ∧ Chg (fun b => b = sb) w w'
theorem l03DrawSome_any (sb K : Nat) (i0 kinds : Int) (w : World) (h : DrAt w sb K) (hK : K ≤ 100000) (hi : 1 ≤ i0 ∧ i0 ≤ 8) (hkd : 1 ≤ kinds ∧ kinds ≤ 6) :
 Calls Try.prog 55 #[.pointer (some ⟨sb,0,none⟩),.int .i64 i0,.int .i64 kinds] w (GotMod sb (K + 20000) 3 w) := by
 have hlt0 := h.lt;obtain ⟨W0,hW0⟩ : ∃ W0,W0 = (w.alloc (.cells #[.slice none 0 0] 38)).alloc (.cells #[.slice none 0 0] 38) := ⟨_,rfl⟩;obtain ⟨E0,s0,b0,b1⟩ := box2 hW0;have b0 : HB W0 w.heap.size #[.slice none 0 0] 38 := b0;have b1 : HB W0 (w.heap.size + 1) #[.slice none 0 0] 38 := b1;have H0 := h.ext E0;clear h;go_enter Try.func55,Try.ntmps55;go_wp2_with fail;rw [← hW0];clear hW0;refine (jaw sb K 3 W0 H0 (by omega) (by omega)).mono ?_;rintro e w1 ⟨x,rfl,hx,_,H1,c1⟩
 have hx := hx (by omega);obtain ⟨M,hM⟩ : ∃ M : Nat,(1 : Int) + (x : Int) = (M : Int) := ⟨1 + x,by omega⟩;have hM1 : 1 ≤ M ∧ M ≤ 3 := by omega
 have B0 := b0.chg c1 (fun hh => by omega);have B1 := b1.chg c1 (fun hh => by omega);have C1 := (Chg.of_ext (S := fun b => b = sb) E0).trans c1;have z1 := c1.size;have hst : w1.ownsRow w1.heap.size 41 jaa.sz (.slice none 0 0) 0 [] := ⟨rfl,.inl ⟨rfl,rfl⟩⟩;have hG0 : GoodL i0 [] := ⟨rfl,hi.1,hi.2,fun x hx => by simp at hx⟩;clear b0 b1 H0 c1 E0 hx;go_wp2;go_loopw [1,8] (fun inv kv wr => ∃ (i c : Nat) (L : List jaa.T) (q : Option Addr) (cs : List (List Value)) (bss : List (List Nat)),i ≤ M ∧ inv = .int .i64 (lastO i0 L) ∧ kv = .int .i64 ((M : Int) - (i : Int)) ∧ Hid (L.length = i) ∧ HB wr (w.heap.size + 1) #[.slice q i c] 38 ∧ HB wr w.heap.size #[.slice none 0 0] 38 ∧ Hid (GrowOwn wr w1.heap.size 41 jaa (.slice q i c) L cs bss) ∧ Hid (Tys wr [33] bss.flatten) ∧ Hid (GoodL i0 L) ∧ DrAt wr sb (K + 2 + i * 5000) ∧ Chg (fun b => b = sb) w wr ∧ w1.heap.size ≤ wr.heap.size ∧ Hid (FullL w1.heap.size wr cs)) (fun _ kv _ => (intOf kv).toNat)
 case atStart => exact ⟨0,0,[],none,[],[],by omega,rfl,by simp,rfl,B1,B0,GrowOwn.empty hst,fun b hb => by simp at hb,hG0,H1,C1,Nat.le_refl _,fun c hc => by simp at hc⟩
 case round =>
  clear B1 B0 hst hG0 H1 C1;obtain ⟨i,c,L,q,cs,bss,hi2,rfl,rfl,HL,B1,B0,HG,HT,HQ,S,C,hz,HF⟩ := hrel
  by_cases hlt : i < M
  · have hgt : decide (0 < (M : Int) - (i : Int)) = true := by simp;omega
    have hq1 := HQ.out.2.1;have hq2 := HQ.out.2.2.1;have HIN := hid (rfl : lastO i0 L = lastO i0 L);obtain ⟨inn,hinn⟩ : ∃ z,z = lastO i0 L := ⟨_,rfl⟩;rw [← hinn] at hq1 hq2 ⊢;have HI := hid hinn;clear hinn HIN;go_wp2_with fail;refine (jaw sb (K + 2 + i * 5000) kinds wr S (by omega) (by omega)).mono ?_;rintro e w2 ⟨kd,rfl,hk1,_,S2,c2⟩
    have hk1 := hk1 (by omega);go_wp2_with fail;refine (drOne_any sb (K + 2 + i * 5000 + 2) 2 w2 S2 (by omega) (by omega)).mono ?_;rintro e w3 ⟨bb,rfl,S3,c3⟩
    clear S2 S
    cases bb
    · go_wp2_with fail
      refine (jaw sb (K + 2 + i * 5000 + 4) 4 w3 S3 (by omega) (by omega)).mono ?_;rintro e w4 ⟨y,rfl,hy,_,S4,c4⟩
      have hy := hy (by omega);clear S3;have HC := l03DrawLayer_any sb (K + 2 + i * 5000 + 6) (kd : Int) inn (1 + (y : Int)) w4 S4 (by omega) (by omega) (by omega) (by omega);generalize (if ((kd : Int) : Int) = 0 then (1 + (y : Int)) else inn) = O at HC;go_wp2_with fail;refine HC.mono ?_;rintro e w5 ⟨ws,bs,pw,pb,cw,cb,rfl,hlb,hws,hbs,⟨bl,ol,ndl,lol,tyl⟩,S5,c5,fw,fb⟩
      have CC := ((c2.trans c3).trans c4).trans c5;have C5 := C.trans CC;have z2 := (c2.trans (c3.trans c4)).size;have z5 := c5.size;have B5 := B1.chg CC (fun hh => by omega);have Z5 := B0.chg CC (fun hh => by omega);have hrow := HG.out.row;rw [HL.out] at hrow;have row5 := ja3 hrow CC (fun b hb => by have hb : b = sb := hb;omega);have hlw := hid (rfl : ws.length = ws.length);obtain ⟨lw,hlw⟩ : ∃ lw,lw = ws.length := ⟨_,rfl⟩;obtain ⟨lb,hlb2⟩ : ∃ lb,lb = bs.length := ⟨_,rfl⟩;rw [← hlw,← hlb2] at ol ⊢;rw [← hlw,← hlb2] at hlb;rw [← hlw] at fw;rw [← hlb2] at fb;have HLW := hid hlw;have HLB := hid hlb2;clear hlw hlb2 c2 c3 c4 c5 HC S4 C B1 B0;have E6 := Ext.alloc w5 (.cells #[.int .i64 (kd : Int),.int .i64 inn,.int .i64 O,.slice pw lw cw,.slice pb lb cb] 41);have b10 := HB.new w5 #[.int .i64 (kd : Int),.int .i64 inn,.int .i64 O,.slice pw lw cw,.slice pb lb cb] 41;obtain ⟨W6,hW6⟩ : ∃ W6,W6 = w5.alloc (.cells #[.int .i64 (kd : Int),.int .i64 inn,.int .i64 O,.slice pw lw cw,.slice pb lb cb] 41) := ⟨_,rfl⟩;rw [← hW6] at E6 b10;have g7 := E6.cell (B5.cell 0 rfl);have k0 := b10.cell 0 rfl;have k1 := b10.cell 1 rfl;have k2 := b10.cell 2 rfl;have k3 := b10.cell 3 rfl;have k4 := b10.cell 4 rfl;have z6 := E6.size;have l6 := b10.lt;have HW6 := hid hW6;clear hW6;rw [HW6.out] at g7 k0 k1 k2 k3 k4;go_wp2_with (first | ((with_reducible show gx9);rw [← HW6.out];refine ja4 (u := .agg #[.int .i64 (kd : Int),.int .i64 inn,.int .i64 O,.slice pw lw cw,.slice pb lb cb]) rfl rfl rfl rfl rfl (by rfl) (by rfl) (fun _ => rfl) (fun _ => rfl) (jak row5 E6) (by unfold maxLen;omega) (by omega) (by omega) ?_;intro g9 c9 w9 own9 gr9 hw9;have hg9 : HB w9 (w.heap.size + 1) #[.slice q i c] 38 := (B5.ext E6).chg (.of_grown gr9) (fun h => by have := jah row5 _ h.symm;omega);have r9 : HB w9 w5.heap.size #[.int .i64 (kd : Int),.int .i64 inn,.int .i64 O,.slice pw lw cw,.slice pb lb cb] 41 := b10.chg (.of_grown gr9) (fun h => by have := own_lt row5 _ h.symm;omega)) | ((with_reducible show gx11);refine jbp (j := 0) rfl rfl hg9 rfl rfl rfl rfl ?_;intro w10 b11 ch10;have r10 := r9.chg ch10 (fun h => by omega);have o2 := r10.cell 2 rfl));go_roundw
      case rel =>
       have hw : ws.length = lw := HLW.out.symm;have hb : bs.length = lb := HLB.out.symm
       have G10 : GoodL i0 (L ++ [((kd : Int),inn,O,ws,bs,())]) := by
        rw [HI.out];exact HQ.out.snoc (by rw [hw,hb,← HI.out];exact hlb) hws hbs
       have ol6 : Own W6 jaa [.int .i64 (kd : Int),.int .i64 inn,.int .i64 O,.slice pw lw cw,.slice pb lb cb] ((kd : Int),inn,O,ws,bs,()) bl := ol.chg (Chg.of_ext (S := fun _ => False) E6) (fun _ _ h => h);have CC6 := CC.trans (.of_ext E6);have H9 := (HG.out.snocC CC6 (fun b hb => by have hb : b = sb := hb;omega) ol6 ndl (fun b hb => by have := lol b hb;omega) hz (n := i) HL.out own9 gr9 (by rcases hw9 with h | h;exact .inl h;right;omega)).chgB ch10 (fun b hb => by have hb : b = _ := hb;omega);have F9 := (((HF.out.chg CC6 (fun b hb => by have hb : b = sb := hb;omega)).snoc (a := (kd : Int)) (b := inn) (o := O) ((fw.ext E6).base (by omega)) ((fb.ext E6).base (by omega))).grown (jak row5 E6) (by decide) gr9).chg ch10 (fun b hb => by have hb : b = _ := hb;omega)
       have T9 : Tys w10 [33] (bss ++ [bl]).flatten := by
        have hh : (bss ++ [bl]).flatten = bss.flatten ++ bl := by simp
        rw [hh];refine ((((HT.out.chg CC6 (fun b hb h => by have h : b = sb := h;have := (HG.out.lo b hb).1;omega)).app (tyl.ext E6)).chg (.of_grown gr9) (fun b hb h => ?_)).chg ch10 (fun b hb h => ?_))
        · rcases List.mem_append.1 hb with hb | hb
          · exact (HG.out.lo b hb).2 h.symm
          · have := own_lt hrow b h.symm;have := lol b hb;omega
        · have h : b = _ := h
          rcases List.mem_append.1 hb with hb | hb
          · have := (HG.out.lo b hb).1;omega
          · have := lol b hb;omega
       have S9 := (((S5.ext E6).chg (.of_grown gr9) (fun b hb => by have := jah row5 b hb.symm;omega)).chg ch10 (fun b hb => by have hb : b = _ := hb;omega)).mono (show K + 2 + i * 5000 + 6 + 4000 ≤ K + 2 + (i + 1) * 5000 by omega);have C9 := ((C5.trans (.of_ext E6)).late (.of_grown gr9) (fun b hb => by left;have := jah row5 b hb.symm;omega)).late ch10 (fun b hb => by left;have hb : b = _ := hb;omega);have Z9 : HB w10 w.heap.size #[.slice none 0 0] 38 := ((Z5.ext E6).chg (.of_grown gr9) (fun h => by have := jah row5 _ h.symm;omega)).chg ch10 (fun h => by omega);exact ⟨i + 1,c9,L ++ [((kd : Int),inn,O,ws,bs,())],some ⟨g9,0,none⟩,_,_,by omega,by rw [lastO_snoc];rfl,by go_num,by rw [Hid,List.length_append,HL.out];rfl,b11,Z9,H9,T9,G10,S9,C9,by have := gr9.size;have := ch10.size;omega,F9⟩
      case measure => simp [intOf];omega
    · go_wp2_with fail
      refine (jaw sb (K + 2 + i * 5000 + 4) 4 w3 S3 (by omega) (by omega)).mono ?_;rintro e w4 ⟨y,rfl,hy,_,S4,c4⟩
      have hy := hy (by omega);clear S3;have HC := l03DrawLayer_any sb (K + 2 + i * 5000 + 6) 0 inn (1 + (y : Int)) w4 S4 (by omega) (by omega) (by omega) (by omega);generalize (if (0 : Int) = 0 then (1 + (y : Int)) else inn) = O at HC;go_wp2_with fail;refine HC.mono ?_;rintro e w5 ⟨ws,bs,pw,pb,cw,cb,rfl,hlb,hws,hbs,⟨bl,ol,ndl,lol,tyl⟩,S5,c5,fw,fb⟩
      have CC := ((c2.trans c3).trans c4).trans c5;have C5 := C.trans CC;have z2 := (c2.trans (c3.trans c4)).size;have z5 := c5.size;have B5 := B1.chg CC (fun hh => by omega);have Z5 := B0.chg CC (fun hh => by omega);have hrow := HG.out.row;rw [HL.out] at hrow;have row5 := ja3 hrow CC (fun b hb => by have hb : b = sb := hb;omega);have hlw := hid (rfl : ws.length = ws.length);obtain ⟨lw,hlw⟩ : ∃ lw,lw = ws.length := ⟨_,rfl⟩;obtain ⟨lb,hlb2⟩ : ∃ lb,lb = bs.length := ⟨_,rfl⟩;rw [← hlw,← hlb2] at ol ⊢;rw [← hlw,← hlb2] at hlb;rw [← hlw] at fw;rw [← hlb2] at fb;have HLW := hid hlw;have HLB := hid hlb2;clear hlw hlb2 c2 c3 c4 c5 HC S4 C B1 B0;have E6 := Ext.alloc w5 (.cells #[.int .i64 0,.int .i64 inn,.int .i64 O,.slice pw lw cw,.slice pb lb cb] 41);have b10 := HB.new w5 #[.int .i64 0,.int .i64 inn,.int .i64 O,.slice pw lw cw,.slice pb lb cb] 41;obtain ⟨W6,hW6⟩ : ∃ W6,W6 = w5.alloc (.cells #[.int .i64 0,.int .i64 inn,.int .i64 O,.slice pw lw cw,.slice pb lb cb] 41) := ⟨_,rfl⟩;rw [← hW6] at E6 b10;have g7 := E6.cell (B5.cell 0 rfl);have k0 := b10.cell 0 rfl;have k1 := b10.cell 1 rfl;have k2 := b10.cell 2 rfl;have k3 := b10.cell 3 rfl;have k4 := b10.cell 4 rfl;have z6 := E6.size;have l6 := b10.lt;have HW6 := hid hW6;clear hW6;rw [HW6.out] at g7 k0 k1 k2 k3 k4;go_wp2_with (first | ((with_reducible show gx9);rw [← HW6.out];refine ja4 (u := .agg #[.int .i64 0,.int .i64 inn,.int .i64 O,.slice pw lw cw,.slice pb lb cb]) rfl rfl rfl rfl rfl (by rfl) (by rfl) (fun _ => rfl) (fun _ => rfl) (jak row5 E6) (by unfold maxLen;omega) (by omega) (by omega) ?_;intro g9 c9 w9 own9 gr9 hw9;have hg9 : HB w9 (w.heap.size + 1) #[.slice q i c] 38 := (B5.ext E6).chg (.of_grown gr9) (fun h => by have := jah row5 _ h.symm;omega);have r9 : HB w9 w5.heap.size #[.int .i64 0,.int .i64 inn,.int .i64 O,.slice pw lw cw,.slice pb lb cb] 41 := b10.chg (.of_grown gr9) (fun h => by have := own_lt row5 _ h.symm;omega)) | ((with_reducible show gx11);refine jbp (j := 0) rfl rfl hg9 rfl rfl rfl rfl ?_;intro w10 b11 ch10;have r10 := r9.chg ch10 (fun h => by omega);have o2 := r10.cell 2 rfl));go_roundw
      case rel =>
       have hw : ws.length = lw := HLW.out.symm;have hb : bs.length = lb := HLB.out.symm
       have G10 : GoodL i0 (L ++ [((0 : Int),inn,O,ws,bs,())]) := by
        rw [HI.out];exact HQ.out.snoc (by rw [hw,hb,← HI.out];exact hlb) hws hbs
       have ol6 : Own W6 jaa [.int .i64 (0 : Int),.int .i64 inn,.int .i64 O,.slice pw lw cw,.slice pb lb cb] ((0 : Int),inn,O,ws,bs,()) bl := ol.chg (Chg.of_ext (S := fun _ => False) E6) (fun _ _ h => h);have CC6 := CC.trans (.of_ext E6);have H9 := (HG.out.snocC CC6 (fun b hb => by have hb : b = sb := hb;omega) ol6 ndl (fun b hb => by have := lol b hb;omega) hz (n := i) HL.out own9 gr9 (by rcases hw9 with h | h;exact .inl h;right;omega)).chgB ch10 (fun b hb => by have hb : b = _ := hb;omega);have F9 := (((HF.out.chg CC6 (fun b hb => by have hb : b = sb := hb;omega)).snoc (a := 0) (b := inn) (o := O) ((fw.ext E6).base (by omega)) ((fb.ext E6).base (by omega))).grown (jak row5 E6) (by decide) gr9).chg ch10 (fun b hb => by have hb : b = _ := hb;omega)
       have T9 : Tys w10 [33] (bss ++ [bl]).flatten := by
        have hh : (bss ++ [bl]).flatten = bss.flatten ++ bl := by simp
        rw [hh];refine ((((HT.out.chg CC6 (fun b hb h => by have h : b = sb := h;have := (HG.out.lo b hb).1;omega)).app (tyl.ext E6)).chg (.of_grown gr9) (fun b hb h => ?_)).chg ch10 (fun b hb h => ?_))
        · rcases List.mem_append.1 hb with hb | hb
          · exact (HG.out.lo b hb).2 h.symm
          · have := own_lt hrow b h.symm;have := lol b hb;omega
        · have h : b = _ := h
          rcases List.mem_append.1 hb with hb | hb
          · have := (HG.out.lo b hb).1;omega
          · have := lol b hb;omega
       have S9 := (((S5.ext E6).chg (.of_grown gr9) (fun b hb => by have := jah row5 b hb.symm;omega)).chg ch10 (fun b hb => by have hb : b = _ := hb;omega)).mono (show K + 2 + i * 5000 + 6 + 4000 ≤ K + 2 + (i + 1) * 5000 by omega);have C9 := ((C5.trans (.of_ext E6)).late (.of_grown gr9) (fun b hb => by left;have := jah row5 b hb.symm;omega)).late ch10 (fun b hb => by left;have hb : b = _ := hb;omega);have Z9 : HB w10 w.heap.size #[.slice none 0 0] 38 := ((Z5.ext E6).chg (.of_grown gr9) (fun h => by have := jah row5 _ h.symm;omega)).chg ch10 (fun h => by omega);exact ⟨i + 1,c9,L ++ [((0 : Int),inn,O,ws,bs,())],some ⟨g9,0,none⟩,_,_,by omega,by rw [lastO_snoc];rfl,by go_num,by rw [Hid,List.length_append,HL.out];rfl,b11,Z9,H9,T9,G10,S9,C9,by have := gr9.size;have := ch10.size;omega,F9⟩
      case measure => simp [intOf];omega
  · obtain rfl : M = i := by omega
    have hB0 := B0.lt;have g2 := B1.cell 0 rfl;have g1 := B0.cell 0 rfl;have g3 := B0.froz 0;go_wp2;refine bodyPost_ret (v := .agg #[.slice q M c]) (by simp [results,Try.results55,go_sem,g1,g3]) rfl ?_;have ch := jaj wr w.heap.size 0 (.slice q M c);have HLo := HL.out;subst HLo;exact ⟨i0,L,q,c,rfl,HQ.out,hM1.1,hM1.2,⟨w1.heap.size,cs,bss,by omega,by have := ch.size;omega,HG.out.chgB ch (fun b hb => by have hb : b = _ := hb;omega),HT.out.chg ch (fun b hb h => by have h : b = _ := h;have := (HG.out.lo b hb).1;omega),HF.out.chg ch (fun b hb => by have hb : b = _ := hb;omega)⟩,(S.chg ch (fun b hb => by have hb : b = _ := hb;omega)).mono (by omega),C.late ch (fun b hb => by left;have hb : b = _ := hb;omega)⟩
theorem outL_last {L : List jaa.T} (h : 1 ≤ L.length) (i0 : Int) : outL L = lastO i0 L := by
 unfold outL lastO;rw [List.getLast?_eq_getElem?,List.getElem?_eq_getElem (show L.length - 1 < L.length by omega)];rfl
theorem layB_relu {n : Int} (h1 : 1 ≤ n) (h2 : n ≤ 8) : layB 1 n n 0 0 = true := by
 have a : inB 1 0 5 = true := by decide
 have b : inB n 1 8 = true := jas.2 ⟨h1,h2⟩;unfold layB;rw [a,b];simp [wCnt,bCnt]
def lenAt (W : World) (b : Nat) : Nat := match W.cell? ⟨b,0,none⟩ with
 | some (.slice _ n _) => n
 | _ => 0
theorem lenAt_of {w : World} {b n c : Nat} {q : Option Addr} {t : TypeId} (h : HB w b #[.slice q n c] t) : lenAt w b = n := by
 unfold lenAt;rw [h.cell 0 rfl];rfl
theorem GrowOwn.chgN {S : Nat → Prop} {w w' : World} {B : Nat} {te : TypeId} {E : Sh} {v : Value} {l : List E.T} {css : List (List Value)} {bss : List (List Nat)} (h : GrowOwn w B te E v l css bss) (k : Chg S w w') (h1 : ∀ b,v.ownBlock = some b → ¬ S b) (h2 : ∀ b ∈ bss.flatten,¬ S b) : GrowOwn w' B te E v l css bss :=
 ⟨ja2 h.row k h1,h.els.chg k (fun b hb hs => h2 b hb hs),h.nodup,h.lo⟩
theorem l03DrawOk_any (sb K : Nat) (w : World) (h : DrAt w sb K) (hK : K ≤ 10000) :
 Calls Try.prog 150 #[.pointer (some ⟨sb,0,none⟩)] w (GotMod sb (K + 30000) 6 w) := by
 have hlt0 := h.lt;obtain ⟨W0,hW0⟩ : ∃ W0,W0 = w.alloc (.cells #[.slice none 0 0] 38) := ⟨_,rfl⟩;have E0 : Ext w W0 := by rw [hW0];exact Ext.alloc _ _
 have b0 : HB W0 w.heap.size #[.slice none 0 0] 38 := by rw [hW0];exact HB.new _ _ _
 have s0 := b0.lt;have H0 := h.ext E0;clear h;go_enter Try.func150,Try.ntmps150;go_wp2_with fail;rw [← hW0];clear hW0;refine (jaw sb K 4 W0 H0 (by omega) (by omega)).mono ?_;rintro e w1 ⟨x,rfl,hx,_,H1,c1⟩
 have hx := hx (by omega);have B0 := b0.chg c1 (fun hh => by omega);have C1 := (Chg.of_ext (S := fun b => b = sb) E0).trans c1;clear b0 H0 E0;go_wp2_with fail;refine (l03DrawSome_any sb (K + 2) (1 + (x : Int)) 6 w1 H1 (by omega) (by omega) (by omega)).mono ?_;rintro e w2 ⟨i0,L,q,c,rfl,hG,hn1,hn3,⟨B,cs,bss,hB,hB2,G,T,F⟩,H2,c2⟩
 have B02 := B0.chg c2 (fun hh => by omega);have C2 := C1.trans c2;have z1 := c1.size;have z2 := c2.size;obtain ⟨W3,hW3⟩ : ∃ W3,W3 = w2.alloc (.cells #[.slice q L.length c] 38) := ⟨_,rfl⟩;have E3 : Ext w2 W3 := by rw [hW3];exact Ext.alloc _ _
 have b4 : HB W3 w2.heap.size #[.slice q L.length c] 38 := by rw [hW3];exact HB.new _ _ _
 have H3 := H2.ext E3;clear H2 H1 c1 c2 B0;go_wp2_with fail;rw [← hW3];clear hW3;refine (drOne_any sb (K + 2 + 20000) 20 W3 H3 (by omega) (by omega)).mono ?_;rintro e w4 ⟨bb,rfl,H4,c4⟩
 have B4 := b4.chg c4 (fun hh => by omega);have B04 := (B02.ext E3).chg c4 (fun hh => by omega);have C4 := (C2.trans (.of_ext E3)).trans c4;have F4 := (F.ext E3).chg c4 (fun b hb => by have hb : b = sb := hb;omega);have T4 := (T.ext E3).chg c4 (fun b hb h => by have h : b = sb := h;have := (G.lo b hb).1;omega);have G4 := (G.ext E3).chgB c4 (fun b hb => by have hb : b = sb := hb;omega);have z4 := c4.size;have l3 := b4.lt;have lB : ∀ b,(Value.slice q L.length c).ownBlock = some b → B ≤ b ∧ b < w2.heap.size := fun b hb => ⟨jah G.row b hb,own_lt G.row b hb⟩
 have hBw : ∀ b ∈ bss.flatten,b < w2.heap.size := G.els.lt;clear G T H3 b4 B02
 cases bb
 · have r4 := B4.cell 0 rfl
   have r0 := B04.cell 0 rfl;have f0 := B04.froz 0;go_wp2;refine bodyPost_ret (v := .agg #[.slice q L.length c]) (by simp [results,Try.results150,go_sem,r0,f0]) rfl ?_;have ch := jaj w4 w.heap.size 0 (.slice q L.length c);exact ⟨i0,L,q,c,rfl,hG,hn1,by omega,⟨B,cs,bss,by omega,by have := ch.size;omega,G4.chgB ch (fun b hb => by have hb : b = _ := hb;omega),T4.chg ch (fun b hb h => by have h : b = _ := h;have := (G4.lo b hb).1;omega),F4.chg ch (fun b hb => by have hb : b = _ := hb;omega)⟩,(H4.chg ch (fun b hb => by have hb : b = _ := hb;omega)).mono (by omega),C4.late ch (fun b hb => by left;have hb : b = _ := hb;omega)⟩
 · go_wp2
   go_loopw [5] (fun uv wr => Hid (uv = uv) ∧ ∃ (n c : Nat) (L : List jaa.T) (q : Option Addr) (cs : List (List Value)) (bss : List (List Nat)),1 ≤ n ∧ n ≤ 6 ∧ Hid (L.length = n) ∧ HB wr w2.heap.size #[.slice q n c] 38 ∧ HB wr w.heap.size #[.slice none 0 0] 38 ∧ Hid (GrowOwn wr B 41 jaa (.slice q n c) L cs bss) ∧ Hid (Tys wr [33] bss.flatten) ∧ Hid (GoodL i0 L) ∧ DrAt wr sb (K + 2 + 20000 + 2) ∧ Chg (fun b => b = sb) w wr ∧ w4.heap.size ≤ wr.heap.size ∧ Hid ((∀ b,(Value.slice q n c).ownBlock = some b → b ≠ w2.heap.size) ∧ ∀ b ∈ bss.flatten,b ≠ w2.heap.size) ∧ Hid (FullL B wr cs)) (fun _ W => 6 - lenAt W w2.heap.size)
   case atStart => exact ⟨rfl,L.length,c,L,q,cs,bss,hn1,by omega,rfl,B4,B04,G4,T4,hG,H4,C4,Nat.le_refl _,hid ⟨fun b hb => by have := lB b hb;omega,fun b hb => by have := hBw b hb;omega⟩,F4⟩
   case round =>
    clear B4 B04 G4 T4 F4 hG H4 C4 hn1 hn3 lB hBw C2 E3;obtain ⟨_,n,c,L,q,cs,bss,hn1,hn6,HL,B4,B0,HG,HT,HQ,S,C,hz,HN,HF⟩ := hrel;have r4 := B4.cell 0 rfl;have r0 := B0.cell 0 rfl;have f0 := B0.froz 0
    by_cases hlt : n < 6
    · obtain ⟨ob,o1,_,_⟩ := HG.out.own
      obtain ⟨p',c',css',hv,LY⟩ := lays_of o1.rep HQ.out.2.2.2;rw [HL.out] at hv LY
      cases hv
      have hO := outL_last (L := L) (by rw [HL.out];exact hn1) i0;have CO := l03Out_any (sp := none) w2.heap.size 0 q n c css' L wr LY hn1 r4;rw [hO] at CO;have hq1 := HQ.out.2.1;have hq2 := HQ.out.2.2.1;obtain ⟨inn,hinn⟩ : ∃ z,z = lastO i0 L := ⟨_,rfl⟩;rw [← hinn] at hq1 hq2 CO;have HI := hid hinn;clear hinn hO LY o1 r0 f0;go_wp2_with fail;refine CO.mono ?_;rintro e w5 ⟨rfl,e5⟩
      have hrow := HG.out.row;rw [HL.out] at hrow;have row5 := jak hrow e5;have B5 := B4.ext e5;have Z5 := B0.ext e5;have r5 := B5.cell 0 rfl;have z5 := e5.size;have l4 := B4.lt;go_wp2_with (first | ((with_reducible show gx9);refine ja4 (u := .agg #[.int .i64 1,.int .i64 inn,.int .i64 inn,.slice none 0 0,.slice none 0 0]) rfl rfl rfl rfl rfl (by rfl) (by rfl) (fun _ => rfl) (fun _ => rfl) row5 (by unfold maxLen;omega) (by omega) (by omega) ?_;intro g9 c9 w9 own9 gr9 hw9;have hg9 : HB w9 w2.heap.size #[.slice q n c] 38 := B5.chg (.of_grown gr9) (fun h => HN.out.1 _ h.symm rfl)) | ((with_reducible show gx11);refine jbp (j := 0) rfl rfl hg9 rfl rfl rfl rfl ?_;intro w10 b11 ch10));have b11 : HB w10 w2.heap.size #[.slice (some ⟨g9,0,none⟩) (n + 1) c9] 38 := b11;go_roundw
      case rel =>
       have G10 : GoodL i0 (L ++ [((1 : Int),inn,inn,[],[],())]) := by
        rw [HI.out];exact HQ.out.snoc (k := 1) (o := lastO i0 L) (ws := []) (bs := []) (layB_relu HQ.out.2.1 HQ.out.2.2.1) (fun x hx => by simp at hx) (fun x hx => by simp at hx)
       have ol : Own w5 jaa [.int .i64 1,.int .i64 inn,.int .i64 inn,.slice none 0 0,.slice none 0 0] ((1 : Int),inn,inn,[],[],()) ([] ++ []) := own_lay (d := ((1 : Int),inn,inn,[],[],())) own_nil own_nil;have H9 := HG.out.snocC (Chg.of_ext (S := fun _ => False) e5) (fun b hb => hb.elim) ol (by simp) (fun b hb => by simp at hb) (by omega) (n := n) HL.out own9 gr9 (by rcases hw9 with h | h;exact .inl h;right;omega)
       have hg9ne : g9 ≠ w2.heap.size := by
        rcases hw9 with h | h
        · exact HN.out.1 _ h
        · omega
       have hne2 : ∀ b ∈ (bss ++ [[] ++ []]).flatten,b ≠ w2.heap.size := fun b hb => by
        have hh : (bss ++ [([] ++ [] : List Nat)]).flatten = bss.flatten := by simp
        rw [hh] at hb;exact HN.out.2 b hb
       have H10 := H9.chgN ch10 (fun b hb hs => by have hs : b = _ := hs;simp [Value.ownBlock] at hb;omega) (fun b hb hs => hne2 b hb hs);have F10 := (((HF.out.ext e5).snoc (a := 1) (b := inn) (o := inn) (full_nil _ _) (full_nil _ _)).grown row5 (by decide) gr9).chgT ch10 (fun b hb => .inr (by have hb : b = _ := hb;subst hb;exact ⟨_,_,_,hg9,by decide⟩))
       have T10 : Tys w10 [33] (bss ++ [[] ++ []]).flatten := by
        have hh : (bss ++ [([] ++ [] : List Nat)]).flatten = bss.flatten := by simp
        rw [hh];exact ((HT.out.ext e5).chg (.of_grown gr9) (fun b hb h => (HG.out.lo b hb).2 h.symm)).chg ch10 (fun b hb h => HN.out.2 b hb h)
       have S10 := ((S.ext e5).chg (.of_grown gr9) (fun b hb => by have := jah row5 b hb.symm;omega)).chg ch10 (fun b hb => by have hb : b = _ := hb;omega);have C10 := ((C.trans (.of_ext e5)).late (.of_grown gr9) (fun b hb => by left;have := jah row5 b hb.symm;omega)).late ch10 (fun b hb => by left;have hb : b = _ := hb;omega);have Z10 : HB w10 w.heap.size #[.slice none 0 0] 38 := (Z5.chg (.of_grown gr9) (fun h => by have := jah row5 _ h.symm;omega)).chg ch10 (fun h => by omega);refine ⟨_,_,_,_,_,_,_,_,_,_,_,_,_,_,?_,rfl⟩;exact ⟨trivial,n + 1,c9,L ++ [((1 : Int),inn,inn,[],[],())],some ⟨g9,0,none⟩,_,_,by omega,by omega,by rw [Hid,List.length_append,HL.out];rfl,b11,Z10,H10,T10,G10,S10,C10,by have := gr9.size;have := ch10.size;omega,hid ⟨fun b hb => by simp [Value.ownBlock] at hb;omega,hne2⟩,F10⟩
      case measure => rw [lenAt_of b11,lenAt_of B4];omega
    · obtain rfl : n = 6 := by omega
      go_wp2;refine bodyPost_ret (v := .agg #[.slice q 6 c]) (by simp [results,Try.results150,go_sem,r0,f0]) rfl ?_;have ch := jaj wr w.heap.size 0 (.slice q 6 c);have HLo := HL.out;exact ⟨i0,L,q,c,by rw [HLo];try rfl,HQ.out,by omega,by omega,⟨B,cs,bss,by omega,by have := ch.size;omega,by rw [HLo];exact HG.out.chgB ch (fun b hb => by have hb : b = _ := hb;omega),HT.out.chg ch (fun b hb h => by have h : b = _ := h;have := (HG.out.lo b hb).1;omega),HF.out.chg ch (fun b hb => by have hb : b = _ := hb;omega)⟩,(S.chg ch (fun b hb => by have hb : b = _ := hb;omega)).mono (by omega),C.late ch (fun b hb => by left;have hb : b = _ := hb;omega)⟩
def GotM (w : World) (e : Ending) (w' : World) : Prop :=
 ∃ (L : List jaa.T) (q : Option Addr) (c : Nat),e = .returned (.agg #[.slice q L.length c]) ∧ modB L = true ∧ Fit (.sl jaa) L ∧ jbu [41,33] w.heap.size (.sl jaa) w' [.slice q L.length c] L ∧ Ext w w'
end Go.Proofs.Ytmbckkcgiafagaa
