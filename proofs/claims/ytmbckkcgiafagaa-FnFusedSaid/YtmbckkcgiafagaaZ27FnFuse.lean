/- A part of the proofs: Dr10, Lbl, ConfD, Key, Stp, Dr11. -/
import Derived.Test.YtmbckkcgiafagaaDr9FnFu
import Derived.Test.YtmbckkcgiafagaaZ02FnFuse
import Derived.Test.YtmbckkcgiafagaaZ03FnFuse
import Derived.Test.YtmbckkcgiafagaaZ23FnFuse
import Derived.Test.YtmbckkcgiafagaaZ08FnFuse
import Derived.Test.YtmbckkcgiafagaaZ10FnFuse
import Derived.Test.YtmbckkcgiafagaaZ05FnFuse
import Derived.Test.YtmbckkcgiafagaaZ12FnFuse
import Derived.Test.YtmbckkcgiafagaaZ21FnFuse
import Derived.Test.YtmbckkcgiafagaaZ13FnFuse
import Derived.Test.YtmbckkcgiafagaaZ06FnFuse
import Derived.Test.YtmbckkcgiafagaaZ14FnFuse
set_option linter.unusedSimpArgs false
set_option linter.unusedVariables false
set_option maxRecDepth 100000
set_option maxHeartbeats 16000000
namespace Go.Proofs.Ytmbckkcgiafagaa
open Go.RowKit
theorem tys_ne {w : World} {bl : List Nat} {b : Nat} {Z : Array Value} {t : TypeId} (T : Tys w [33] bl) (h : HB w b Z t) (ht : t ≠ 33) : b ∉ bl := by
 intro hm;obtain ⟨Z',t',m,h1,h2⟩ := T b hm;have h1 := List.mem_singleton.1 h1;have h3 : w.heap[b]? = some (.cells Z t) := h;rw [h3] at h2
 cases h2
 exact ht h1
theorem l09DrawModel_any (sb K : Nat) (w : World) (h : DrAt w sb K) (hK : K ≤ 1000) :
 Calls Try.prog 74 #[.pointer (some ⟨sb,0,none⟩)] w (AnyMod sb (K + 80000) w) := by
 have hlt0 := h.lt;obtain ⟨W0,hW0⟩ : ∃ W0,W0 = w.alloc (.cells #[.slice none 0 0] 38) := ⟨_,rfl⟩;have E0 : Ext w W0 := by rw [hW0];exact Ext.alloc _ _
 have b0 : HB W0 w.heap.size #[.slice none 0 0] 38 := by rw [hW0];exact HB.new _ _ _
 have s0 := b0.lt;have H0 := h.ext E0;clear h;go_enter Try.func74,Try.ntmps74;go_wp2_with fail;rw [← hW0];clear hW0;refine (l03Draw_any sb K W0 H0 hK).mono ?_;rintro e w1 ⟨L,q,c,rfl,hf,hr,hown,H1,c1⟩
 obtain ⟨n,hn⟩ : ∃ n,L.length = n := ⟨_,rfl⟩;obtain ⟨p',c',css,hv,LY⟩ := lays_of (hr w1 (Chg.refl _ _)) hf
 cases hv
 rw [hn] at hr hown LY ⊢;have HN := hid hn;clear hn;obtain ⟨W2,hW2⟩ : ∃ W2,W2 = w1.alloc (.cells #[.slice q n c] 38) := ⟨_,rfl⟩;have E2 : Ext w1 W2 := by rw [hW2];exact Ext.alloc _ _
 have b3 : HB W2 w1.heap.size #[.slice q n c] 38 := by rw [hW2];exact HB.new _ _ _
 have H2 := H1.ext E2;have B02 := (b0.chg c1 (fun hh => by omega)).ext E2;have C2 := ((Chg.of_ext (S := fun b => b = sb) E0).trans c1).trans (.of_ext E2);have LY2 := LY.ext E2;have zW := b3.lt;have zc1 := c1.size;clear H1 H0 E0 b0 c1 LY;rw [hW2] at b3;go_wp2_with fail;rw [← hW2] at b3 ⊢;clear hW2;refine (l03Is_any (sp := none) w1.heap.size 0 q n c L css W2 (b3.cell 0 rfl) LY2.len LY2.le LY2.cs LY2.all LY2.size LY2.cnt).mono ?_;rintro e w3 ⟨rfl,e3⟩
 have B3 := b3.ext e3;have B03 := B02.ext e3;have H3 := H2.ext e3;have C3 := C2.trans (.of_ext e3);have z3 := e3.size
 cases hmb : modB L with
 | false =>
   have r0 := B3.cell 0 rfl;have r1 := B03.cell 0 rfl;have r2 := B03.froz 0;go_wp2;refine bodyPost_ret (v := .agg #[.slice q n c]) (by simp [results,Try.results74,go_sem,r0,r1,r2]) rfl ?_;have ch := jaj w3 w.heap.size 0 (.slice q n c);exact AnyMod.bad rfl HN.out hf (fun W hk => hr W (((Chg.of_ext (S := fun b => b < W0.heap.size) (E2.trans e3)).trans (ch.cut fun b h => .inl (by have h : b = w.heap.size := h;omega))).trans (hk.cut fun b h => .inl (by have h : b < w.heap.size := h;omega)))) hmb ((H3.chg ch (fun b hb => by have hb : b = _ := hb;omega)).mono (by omega)) (C3.late ch (fun b hb => by left;have hb : b = _ := hb;omega))
 | true =>
   obtain ⟨B,cs,bss,hB,hB2,G,T⟩ := hown hmb;have hM6 := (modOk hmb).few;have hM1 := (modOk hmb).pos;rw [HN.out] at hM6 hM1;have hGL := hid (goodL_of (i0 := 1) hmb hf);have G3 := (G.ext E2).ext e3;have T3 := (T.ext E2).ext e3;clear G T hown hr hf LY2 b3 B02 H2 C2 E2 e3;go_wp2;go_loopw [4] (fun uv wr => Hid (uv = uv) ∧ ∃ (n c : Nat) (L : List jaa.T) (q : Option Addr) (cs : List (List Value)) (bss : List (List Nat)),1 ≤ n ∧ n ≤ 6 ∧ Hid (L.length = n) ∧ HB wr w1.heap.size #[.slice q n c] 38 ∧ HB wr w.heap.size #[.slice none 0 0] 38 ∧ Hid (GrowOwn wr B 41 jaa (.slice q n c) L cs bss) ∧ Hid (Tys wr [33] bss.flatten) ∧ Hid (GoodL 1 L) ∧ DrAt wr sb (K + 40000 + n * 5000) ∧ Chg (fun b => b = sb) w wr) (fun _ W => 6 - lenAt W w1.heap.size)
   case atStart => exact ⟨rfl,n,c,L,q,cs,bss,hM1,hM6,HN.out,B3,B03,G3,T3,hGL.out,H3.mono (by omega),C3⟩
   case round =>
    clear B3 B03 G3 T3 hGL H3 C3 hM6 hM1 hmb HN;obtain ⟨_,n,c,L,q,cs,bss,hn1,hn6,HL,B3,B0,HG,HT,HQ,S,C⟩ := hrel;have hbw := B3.lt;have r4 := B3.cell 0 rfl;have r0 := B0.cell 0 rfl;have f0 := B0.froz 0;have hrow : wr.ownsRow B 41 5 (.slice q n c) n cs.flatten := by have h := HG.out.row;rw [HL.out] at h;exact h
    by_cases hlt : n < 6
    · have hd6 : decide ((n : Int) < 6) = true := by simp;omega
      go_wp2_with fail;refine (drOne_any sb (K + 40000 + n * 5000) 3 wr S (by omega) (by omega)).mono ?_;rintro e w4 ⟨bb,rfl,S4,c4⟩
      have B34 := B3.chg c4 (fun hh => by omega);have B04 := B0.chg c4 (fun hh => by omega)
      cases bb
      · obtain ⟨ob,o1,_,_⟩ := (HG.out.chgB c4 (fun b hb => by have hb : b = sb := hb;omega)).own
        obtain ⟨p',c',css',hv,LY⟩ := lays_of o1.rep HQ.out.2.2.2;rw [HL.out] at hv LY
        cases hv
        have hO := outL_last (L := L) (by rw [HL.out];exact hn1) 1;have CO := l03Out_any (sp := none) w1.heap.size 0 q n c css' L w4 LY hn1 (B34.cell 0 rfl);rw [hO] at CO;have hq1 := HQ.out.2.1;have hq2 := HQ.out.2.2.1;obtain ⟨inn,hinn⟩ : ∃ z,z = lastO 1 L := ⟨_,rfl⟩;rw [← hinn] at hq1 hq2 CO;have HI := hid hinn;clear hinn hO LY o1 r0 f0 r4;go_wp2_with fail;refine CO.mono ?_;rintro e w5 ⟨rfl,e5⟩
        have S5 := S4.ext e5;have B35 := B34.ext e5;have B05 := B04.ext e5;have C5 := c4.trans (.of_ext e5);clear S4 S B34 B04 CO;go_wp2_with fail;obtain ⟨w6,hw6⟩ : ∃ w6,w6 = w5.alloc (.cells #[.int .i64 1,.int .i64 2,.int .i64 4,.int .i64 0,.int .i64 1] 2) := ⟨_,rfl⟩;have e6 : Ext w5 w6 := by rw [hw6];exact Ext.alloc _ _
        have k6 : Cs w6 (some ⟨w5.heap.size,0,none⟩) (([1,2,4,0,1] : List Int).map (Value.int .i64)) := by rw [hw6];exact cs_heap (HB.new w5 #[.int .i64 1,.int .i64 2,.int .i64 4,.int .i64 0,.int .i64 1] 2)
        rw [← hw6];clear hw6;have y5 := C5.size;refine (drAmong_any sb (K + 40000 + n * 5000 + 2) (some ⟨w5.heap.size,0,none⟩) 5 5 [1,2,4,0,1] w6 (S5.ext e6) (by omega) k6 rfl (by omega) (by omega) (fun a ha => by cases ha;exact (show sb < w5.heap.size from S5.lt))).mono ?_;rintro e w7 ⟨kd,hkd,rfl,S7,c7⟩
        have hkd : 0 ≤ kd ∧ kd ≤ 5 := by simp at hkd;omega
        go_wp2_with fail;refine (jaw sb (K + 40000 + n * 5000 + 2 + 2) 4 w7 S7 (by omega) (by omega)).mono ?_;rintro e w8 ⟨y,rfl,hy,_,S8,c8⟩
        have hy := hy (by omega);have HC := l03DrawLayer_any sb (K + 40000 + n * 5000 + 2 + 2 + 2) kd inn (1 + (y : Int)) w8 S8 (by omega) (by omega) (by omega) (by omega);generalize (if kd = 0 then (1 + (y : Int)) else inn) = O at HC;go_wp2_with fail;refine HC.mono ?_;rintro e w9 ⟨ws,bs,pw,pb,cw,cb,rfl,hlb,hws,hbs,⟨bl,ol,ndl,lol,tyl⟩,S9,c9,fw9,_⟩
        have C9 := (((C5.trans (.of_ext e6)).trans c7).trans c8).trans c9;have z8 := (((C5.trans (.of_ext e6)).trans c7).trans c8).size;have z9 := c9.size;have c79 := (c7.trans c8).trans c9;obtain ⟨lw,hlw⟩ : ∃ lw,ws.length = lw := ⟨_,rfl⟩;obtain ⟨lb,hlb2⟩ : ∃ lb,bs.length = lb := ⟨_,rfl⟩;rw [hlw,hlb2] at ol hlb ⊢;rw [hlw] at fw9;have HLW := hid hlw;have HLB := hid hlb2;have B39 := (B35.ext e6).chg c79 (fun hh => by omega);have B09 := (B05.ext e6).chg c79 (fun hh => by omega);have oll := ol.lt;clear hlw hlb2 S8 S7 S5 HC c7 c8 c9 c79 k6 e6 B35 B05 C5 e5 c4 y5;obtain ⟨W10,hW10⟩ : ∃ W10,W10 = w9.alloc (.cells #[.int .i64 kd,.int .i64 inn,.int .i64 O,.slice pw lw cw,.slice pb lb cb] 41) := ⟨_,rfl⟩;have E10 : Ext w9 W10 := by rw [hW10];exact Ext.alloc _ _
        have B6 : HB W10 w9.heap.size #[.int .i64 kd,.int .i64 inn,.int .i64 O,.slice pw lw cw,.slice pb lb cb] 41 := by rw [hW10];exact HB.new _ _ _
        have B310 := B39.ext E10;have B010 := B09.ext E10;have S10 := S9.ext E10;have C10 := C9.trans (.of_ext E10);have OL10 := ol.chg (Chg.of_ext (S := fun _ => False) E10) (fun _ _ h => h);have TY10 := tyl.ext E10;have FU10 := fw9.ext E10;have z10 := B6.lt;clear S9 C9 B39 B09 ol tyl
        by_cases hk2 : kd = 2
        · subst hk2
          go_wp2_with fail;rw [← hW10];clear hW10;refine (drOne_any sb (K + 40000 + n * 5000 + 2 + 2 + 2 + 4000) 2 W10 S10 (by omega) (by omega)).mono ?_;rintro e w11 ⟨b2,rfl,S11,c11⟩
          have B3x := B310.chg c11 (fun hh => by omega);have B0x := B010.chg c11 (fun hh => by omega);have B6x := B6.chg c11 (fun hh => by omega);have CX := C10.trans c11;have OLx := OL10.chg c11 (fun b hb h => by have h : b = sb := h;have := lol b hb;omega);have TYx := TY10.chg c11 (fun b hb h => by have h : b = sb := h;have := lol b hb;omega);have SX := S11;have FUx := FU10.chg c11 (fun b hb => by have hb : b = sb := hb;omega);clear S11 S10 B310 B010 B6 C10 OL10 TY10
          cases b2
          ·
           have rowX := ja3 hrow CX (fun b hb => by have hb : b = sb := hb;omega);have g7 := B3x.cell 0 rfl;have k0 := B6x.cell 0 rfl;have k1 := B6x.cell 1 rfl;have k2 := B6x.cell 2 rfl;have k3 := B6x.cell 3 rfl;have k4 := B6x.cell 4 rfl;have zX := CX.size;go_wp2_with (first | ((with_reducible show gx9);refine ja4 (u := .agg #[.int .i64 2,.int .i64 inn,.int .i64 O,.slice pw lw cw,.slice pb lb cb]) rfl rfl rfl rfl rfl (by rfl) (by rfl) (fun _ => rfl) (fun _ => rfl) rowX (by unfold maxLen;omega) (by omega) (by omega) ?_;intro g9 c9 w9 own9 gr9 hw9;have hg9 : HB w9 w1.heap.size #[.slice q n c] 38 := B3x.chg (.of_grown gr9) (fun h => own_ne rowX B3x (by decide) h.symm)) | ((with_reducible show gx11);refine jbp (j := 0) rfl rfl hg9 rfl rfl rfl rfl ?_;intro wz b11 ch10) | fail);have b11 : HB wz w1.heap.size #[.slice (some ⟨g9,0,none⟩) (n + 1) c9] 38 := b11;go_roundw
           case rel =>
            have hgl : GoodL 1 (L ++ [((2 : Int),inn,O,ws,bs,())]) := by
             rw [HI.out];exact HQ.out.snoc (by rw [HLW.out,HLB.out,← HI.out];exact hlb) hws hbs
            have TX := (HT.out.chg CX (fun b hb h => by have h : b = sb := h;have := (HG.out.lo b hb).1;omega)).app TYx;have hfl : bss.flatten ++ bl = (bss ++ [bl]).flatten := by simp
            rw [hfl] at TX;have T9 := TX.chg (.of_grown gr9) (fun b hb h => own_notT rowX TX (by decide) b h.symm hb);have T10 := T9.chg ch10 (fun b hb h => by have h : b = w1.heap.size := h;subst h;exact tys_ne T9 hg9 (by decide) hb);have H9 := HG.out.snocC CX (fun b hb => by have hb : b = sb := hb;omega) OLx ndl (fun b hb => by have := lol b hb;omega) (by omega) (n := n) HL.out own9 gr9 (by rcases hw9 with h | h;exact .inl h;right;omega);have H10 := H9.chgN ch10 (fun b hb h => by have h : b = w1.heap.size := h;subst h;exact own_ne own9 hg9 (by decide) hb) (fun b hb h => by have h : b = w1.heap.size := h;subst h;exact tys_ne T9 hg9 (by decide) hb);have S10 := ((SX.chg (.of_grown gr9) (fun b hb => by have := jah rowX b hb.symm;omega)).chg ch10 (fun b hb => by have hb : b = _ := hb;omega)).mono (show K + 40000 + n * 5000 + 2 + 2 + 2 + 4000 + 2 ≤ K + 40000 + (n + 1) * 5000 by omega);have C10 := ((C.trans CX).late (.of_grown gr9) (fun b hb => by left;have := jah rowX b hb.symm;omega)).late ch10 (fun b hb => by left;have hb : b = _ := hb;omega);have Z10 := (B0x.chg (.of_grown gr9) (fun h => by have := jah rowX _ h.symm;omega)).chg ch10 (fun h => by omega)
            repeat apply Exists.intro
            refine ⟨?_,rfl⟩;exact ⟨trivial,n + 1,c9,L ++ [((2 : Int),inn,O,ws,bs,())],some ⟨g9,0,none⟩,_,_,by omega,by omega,by rw [Hid,List.length_append,HL.out];rfl,b11,Z10,H10,T10,hgl,S10,C10⟩
           case measure => rw [lenAt_of b11,lenAt_of B3];omega
          · obtain ⟨pw',pb',cw',cb',us,vs,hce,⟨ow,fw,lw1,lw2⟩,⟨ob,fb,lb1,lb2⟩,hbq⟩ := lay_own OLx
            simp only [List.cons.injEq,Value.slice.injEq,and_true,true_and] at hce;obtain ⟨⟨rfl,e3w,rfl⟩,rfl,e3b,rfl⟩ := hce;rw [← e3w] at ow lw1;rw [← e3b] at ob lb1;have hbW : ∀ b ∈ jac pw,b ∈ bl := fun b hb => by rw [hbq];simp [hb]
            have hbB : ∀ b ∈ jac pb,b ∈ bl := fun b hb => by rw [hbq];simp [hb]
            have hnd2 := nodup_split (show (jac pw ++ jac pb).Nodup by rw [← hbq];exact ndl);have HBQ := hid hbq;have k3 := B6x.cell 3 rfl;have hul : us.length = lw := by rw [fw.1];exact e3w.symm
            have row0 := full_row ow hul FUx lw1 lw2;have HFUB := hid ob;have HFB := hid fb;have HL1 := hid lb1;have HE3 := hid e3w;have HEB := hid e3b;have hlwm := Nat.le_trans lw1 lw2;unfold maxLen at hlwm;clear hbq e3w e3b hul;go_wp2;go_loopw [42] (fun iv wq => ∃ (W : World) (i : Nat) (vs' : List Value) (ws' : List Nat),W = wq ∧ i ≤ lw ∧ iv = .int .i64 (i : Int) ∧ wq.ownsRow w8.heap.size 33 1 (.slice pw lw cw) lw vs' ∧ Hid (F32s vs' ws') ∧ Hid (ws'.length = lw ∧ ∀ x ∈ ws',x < 4294967296) ∧ Chg (fun b => b ∈ jac pw) w11 wq) (fun iv _ => lw - (intOf iv).toNat)
            case atStart => exact ⟨_,0,us,ws,rfl,by omega,rfl,row0,fw,⟨HLW.out,hws⟩,Chg.refl _ _⟩
            case round =>
             obtain ⟨W,i,vs',ws',hWe,hi,rfl,ow',HF',HW',ch'⟩ := hrel;subst hWe;have hvl : vs'.length = lw := by rw [HF'.out.1];exact HW'.out.1
             have h6 : w9.heap.size ∉ jac pw := fun h => by have := oll _ (hbW _ h);omega
             by_cases hil : i < lw
             · have hdi : decide ((i : Int) < (lw : Int)) = true := by simp;omega
               have k3 := (B6x.chg ch' h6).cell 3 rfl;have HVL := hid hvl;clear hvl;go_wp2_with (first | ((with_reducible show gx10);refine wl_stRowT (j := i) (u := .float .f32 1065353216) rfl rfl rfl rfl (fun _ => rfl) rfl rfl (fun _ => rfl) rfl ow' hil ?_;intro wz ownz grz) | fail);go_roundw
               case rel =>
                have hone : cn .f32 1065353216 = 1065353216 := by decide +kernel
                exact ⟨_,i + 1,_,ws'.set i 1065353216,rfl,by omega,by go_num,ownz,HF'.out.setV hone,⟨by rw [List.length_set];exact HW'.out.1,fun x hx => by rcases List.mem_or_eq_of_mem_set hx with h | h;exact HW'.out.2 x h;rw [h];decide⟩,ch'.trans ((Chg.of_grown grz).mono fun b hb => by cases pw with | none => simp [Value.ownBlock] at hb | some a => simp [Value.ownBlock] at hb;simp [jac,hb])⟩
               case measure => simp [intOf];omega
             · obtain rfl : lw = i := by omega
               have B3y := B3x.chg ch' (fun h => by have h1 := lol _ (hbW _ h);omega);have B0y := B0x.chg ch' (fun h => by have h1 := lol _ (hbW _ h);omega);have B6y := B6x.chg ch' h6;have CY := CX.late ch' (fun b hb => by left;have h1 := lol _ (hbW _ hb);omega);have SY := SX.chg ch' (fun b hb => by have h1 := lol _ (hbW _ hb);omega);have TYw := own_tys ow';have OBo := jbv.2 ⟨pb,cb,vs,rfl,show jbb w11 pb _ cb vs by rw [← HEB.out];exact ob,fb,show _ ≤ cb by rw [← HEB.out];exact lb1,lb2,rfl⟩;have OBy := OBo.chg ch' (fun b hb h => hnd2.2.2.2 b hb h);rw [← HEB.out] at OBy
               have OWy : Own W (.sl .flt) [.slice pw lw cw] ws' (jac pw) := by
                have h := rep_fl HW'.out.1 ow' HF'.out;have hw1 := HW'.out.1;subst hw1;exact jbv.2 ⟨pw,cw,vs',rfl,jbl ow',HF'.out,(jat ow').1,(jat ow').2,rfl⟩
               have OLy : Own W jaa [.int .i64 2,.int .i64 inn,.int .i64 O,.slice pw lw cw,.slice pb lb cb] ((2 : Int),inn,O,ws',bs,()) bl := by
                rw [HBQ.out];exact own_lay (d := ((2 : Int),inn,O,ws',bs,())) OWy OBy
               have TYy : Tys W [33] bl := by
                rw [HBQ.out];exact TYw.app ((show Tys w11 [33] (jac pb) from fun b hb => TYx b (hbB b hb)).chg ch' (fun b hb h => hnd2.2.2.2 b hb h))
               clear B3x B0x B6x CX SX OLx TYx;have B3x := B3y;have B0x := B0y;have B6x := B6y;have CX := CY;have OLx := OLy;have TYx := TYy;have SX := SY;clear B3y B0y B6y CY OLy TYy SY;have rowX := ja3 hrow CX (fun b hb => by have hb : b = sb := hb;omega);have g7 := B3x.cell 0 rfl;have k0 := B6x.cell 0 rfl;have k1 := B6x.cell 1 rfl;have k2 := B6x.cell 2 rfl;have k3 := B6x.cell 3 rfl;have k4 := B6x.cell 4 rfl;have zX := CX.size;go_wp2_with (first | ((with_reducible show gx9);refine ja4 (u := .agg #[.int .i64 2,.int .i64 inn,.int .i64 O,.slice pw lw cw,.slice pb lb cb]) rfl rfl rfl rfl rfl (by rfl) (by rfl) (fun _ => rfl) (fun _ => rfl) rowX (by unfold maxLen;omega) (by omega) (by omega) ?_;intro g9 c9 w9 own9 gr9 hw9;have hg9 : HB w9 w1.heap.size #[.slice q n c] 38 := B3x.chg (.of_grown gr9) (fun h => own_ne rowX B3x (by decide) h.symm)) | ((with_reducible show gx11);refine jbp (j := 0) rfl rfl hg9 rfl rfl rfl rfl ?_;intro wz b11 ch10) | fail);have b11 : HB wz w1.heap.size #[.slice (some ⟨g9,0,none⟩) (n + 1) c9] 38 := b11;go_roundw
               case rel =>
                have hgl : GoodL 1 (L ++ [((2 : Int),inn,O,ws',bs,())]) := by
                 rw [HI.out];exact HQ.out.snoc (by rw [HW'.out.1,HLB.out,← HI.out];exact hlb) HW'.out.2 hbs
                have TX := (HT.out.chg CX (fun b hb h => by have h : b = sb := h;have := (HG.out.lo b hb).1;omega)).app TYx;have hfl : bss.flatten ++ bl = (bss ++ [bl]).flatten := by simp
                rw [hfl] at TX;have T9 := TX.chg (.of_grown gr9) (fun b hb h => own_notT rowX TX (by decide) b h.symm hb);have T10 := T9.chg ch10 (fun b hb h => by have h : b = w1.heap.size := h;subst h;exact tys_ne T9 hg9 (by decide) hb);have H9 := HG.out.snocC CX (fun b hb => by have hb : b = sb := hb;omega) OLx ndl (fun b hb => by have := lol b hb;omega) (by omega) (n := n) HL.out own9 gr9 (by rcases hw9 with h | h;exact .inl h;right;omega);have H10 := H9.chgN ch10 (fun b hb h => by have h : b = w1.heap.size := h;subst h;exact own_ne own9 hg9 (by decide) hb) (fun b hb h => by have h : b = w1.heap.size := h;subst h;exact tys_ne T9 hg9 (by decide) hb);have S10 := ((SX.chg (.of_grown gr9) (fun b hb => by have := jah rowX b hb.symm;omega)).chg ch10 (fun b hb => by have hb : b = _ := hb;omega)).mono (show K + 40000 + n * 5000 + 2 + 2 + 2 + 4000 + 2 ≤ K + 40000 + (n + 1) * 5000 by omega);have C10 := ((C.trans CX).late (.of_grown gr9) (fun b hb => by left;have := jah rowX b hb.symm;omega)).late ch10 (fun b hb => by left;have hb : b = _ := hb;omega);have Z10 := (B0x.chg (.of_grown gr9) (fun h => by have := jah rowX _ h.symm;omega)).chg ch10 (fun h => by omega)
                repeat apply Exists.intro
                refine ⟨?_,rfl⟩;exact ⟨trivial,n + 1,c9,L ++ [((2 : Int),inn,O,ws',bs,())],some ⟨g9,0,none⟩,_,_,by omega,by omega,by rw [Hid,List.length_append,HL.out];rfl,b11,Z10,H10,T10,hgl,S10,C10⟩
               case measure => rw [lenAt_of b11,lenAt_of B3];omega
        · have hq2' : (kd == 2) = false := jbt hk2
          have hk2d : ((kd : Int) == (2 : Int)) = false := jbt hk2;have B3x := B310;have B0x := B010;have B6x := B6;have CX := C10;have OLx := OL10;have TYx := TY10;have SX := S10;clear S10 B310 B010 B6 C10 OL10 TY10;rw [hW10] at B3x B0x B6x CX OLx TYx SX;have rowX := ja3 hrow CX (fun b hb => by have hb : b = sb := hb;omega);have g7 := B3x.cell 0 rfl;have k0 := B6x.cell 0 rfl;have k1 := B6x.cell 1 rfl;have k2 := B6x.cell 2 rfl;have k3 := B6x.cell 3 rfl;have k4 := B6x.cell 4 rfl;have zX := CX.size;go_wp2_with (first | ((with_reducible show gx9);refine ja4 (u := .agg #[.int .i64 kd,.int .i64 inn,.int .i64 O,.slice pw lw cw,.slice pb lb cb]) rfl rfl rfl rfl rfl (by rfl) (by rfl) (fun _ => rfl) (fun _ => rfl) rowX (by unfold maxLen;omega) (by omega) (by omega) ?_;intro g9 c9 w9 own9 gr9 hw9;have hg9 : HB w9 w1.heap.size #[.slice q n c] 38 := B3x.chg (.of_grown gr9) (fun h => own_ne rowX B3x (by decide) h.symm)) | ((with_reducible show gx11);refine jbp (j := 0) rfl rfl hg9 rfl rfl rfl rfl ?_;intro wz b11 ch10) | fail);have b11 : HB wz w1.heap.size #[.slice (some ⟨g9,0,none⟩) (n + 1) c9] 38 := b11;go_roundw
          case rel =>
           have hgl : GoodL 1 (L ++ [((kd : Int),inn,O,ws,bs,())]) := by
            rw [HI.out];exact HQ.out.snoc (by rw [HLW.out,HLB.out,← HI.out];exact hlb) hws hbs
           have TX := (HT.out.chg CX (fun b hb h => by have h : b = sb := h;have := (HG.out.lo b hb).1;omega)).app TYx;have hfl : bss.flatten ++ bl = (bss ++ [bl]).flatten := by simp
           rw [hfl] at TX;have T9 := TX.chg (.of_grown gr9) (fun b hb h => own_notT rowX TX (by decide) b h.symm hb);have T10 := T9.chg ch10 (fun b hb h => by have h : b = w1.heap.size := h;subst h;exact tys_ne T9 hg9 (by decide) hb);have H9 := HG.out.snocC CX (fun b hb => by have hb : b = sb := hb;omega) OLx ndl (fun b hb => by have := lol b hb;omega) (by omega) (n := n) HL.out own9 gr9 (by rcases hw9 with h | h;exact .inl h;right;omega);have H10 := H9.chgN ch10 (fun b hb h => by have h : b = w1.heap.size := h;subst h;exact own_ne own9 hg9 (by decide) hb) (fun b hb h => by have h : b = w1.heap.size := h;subst h;exact tys_ne T9 hg9 (by decide) hb);have S10 := ((SX.chg (.of_grown gr9) (fun b hb => by have := jah rowX b hb.symm;omega)).chg ch10 (fun b hb => by have hb : b = _ := hb;omega)).mono (show K + 40000 + n * 5000 + 2 + 2 + 2 + 4000 ≤ K + 40000 + (n + 1) * 5000 by omega);have C10 := ((C.trans CX).late (.of_grown gr9) (fun b hb => by left;have := jah rowX b hb.symm;omega)).late ch10 (fun b hb => by left;have hb : b = _ := hb;omega);have Z10 := (B0x.chg (.of_grown gr9) (fun h => by have := jah rowX _ h.symm;omega)).chg ch10 (fun h => by omega)
           repeat apply Exists.intro
           refine ⟨?_,rfl⟩;exact ⟨trivial,n + 1,c9,L ++ [((kd : Int),inn,O,ws,bs,())],some ⟨g9,0,none⟩,_,_,by omega,by omega,by rw [Hid,List.length_append,HL.out];rfl,b11,Z10,H10,T10,hgl,S10,C10⟩
          case measure => rw [lenAt_of b11,lenAt_of B3];omega
      · have r4 := B34.cell 0 rfl
        have r0 := B04.cell 0 rfl;have f0 := B04.froz 0;go_wp2;refine bodyPost_ret (v := .agg #[.slice q n c]) (by simp [results,Try.results74,go_sem,r4,r0,f0]) rfl ?_;have ch := jaj w4 w.heap.size 0 (.slice q n c);have G4 := HG.out.chgB c4 (fun b hb => by have hb : b = sb := hb;omega);have T4 := HT.out.chg c4 (fun b hb h => by have h : b = sb := h;have := (HG.out.lo b hb).1;omega);have z4 := c4.size;have q7 := ch.size;exact AnyMod.of (B := B) rfl HL.out HQ.out.2.2.2 (by omega) (by omega) (G4.chgB ch (fun b hb => by have hb : b = _ := hb;omega)) (T4.chg ch (fun b hb h => by have h : b = _ := h;have := (HG.out.lo b hb).1;omega)) ((S4.chg ch (fun b hb => by have hb : b = _ := hb;omega)).mono (show K + 40000 + n * 5000 + 2 ≤ K + 80000 by omega)) ((C.trans c4).late ch (fun b hb => by left;have hb : b = _ := hb;omega))
    · obtain rfl : n = 6 := by omega
      go_wp2;refine bodyPost_ret (v := .agg #[.slice q 6 c]) (by simp [results,Try.results74,go_sem,r4,r0,f0]) rfl ?_;have ch := jaj wr w.heap.size 0 (.slice q 6 c);have q7 := ch.size;exact AnyMod.of (B := B) rfl HL.out HQ.out.2.2.2 (by omega) (by omega) (HG.out.chgB ch (fun b hb => by have hb : b = _ := hb;omega)) (HT.out.chg ch (fun b hb h => by have h : b = _ := h;have := (HG.out.lo b hb).1;omega)) ((S.chg ch (fun b hb => by have hb : b = _ := hb;omega)).mono (show K + 40000 + 6 * 5000 ≤ K + 80000 by omega)) (C.late ch (fun b hb => by left;have hb : b = _ := hb;omega))
def lblB (O : Int) (l : List Int) : Bool := l.all fun n => inB n 0 (O - 1)
def okL (d : jag.T) (x : jae.T) (l : List Int) : Prop := (modB d.1 = true ∧ tenB x.1 x.2.1 (x.2.2.1 : List Nat).length = true ∧ x.2.1 = inL d.1 0) ∧ (l.length : Int) = x.1 ∧ lblB (outL d.1) l = true
instance (d : jag.T) (x : jae.T) (l : List Int) : Decidable (okL d x l) := by unfold okL;infer_instance
def key (b : Nat) : Int := match FloatKind.f32.decode b with
 | .number s m e => Rnd.sg s (Rnd.cnt m e)
 | .infinity s => Rnd.sg s (pw 6000)
 | .nan _ _ => 0
theorem b10Long_any (p q : Option Addr) (n c m d : Nat) (w : World) : Calls Try.prog 30 #[.slice p n c,.slice q m d] w fun e w' => e = .returned (.bool (decide (1048576 < n) || decide (1048576 < m))) ∧ w = w' := by
 by_cases h : 1048576 < n
 · have h1 : decide (1048576 < n) = true := decide_eq_true h
   go_enter Try.func30,Try.ntmps30;go_wp2;go_ret;exact ⟨by simp [h],rfl⟩
 · by_cases h2 : 1048576 < m
   · go_enter Try.func30,Try.ntmps30
     go_wp2;go_ret;exact ⟨by first | (simp [h,h2];done) | (simp [h,h2];omega),rfl⟩
   · go_enter Try.func30,Try.ntmps30
     go_wp2;go_ret;exact ⟨by first | (simp [h,h2];done) | (simp [h,h2];omega),rfl⟩
theorem b10At_any (p : Option Addr) (n c : Nat) (bs : List Nat) (i N : Nat) (w : World) (hc : Cs w p (u8s bs)) (hl : bs.length = n) (hn : n ≤ 1048576) (hb : ∀ b ∈ bs,b < 256) (hi : i ≤ 100000) (hN : N ≤ 100000) :
 Calls Try.prog 39 #[.slice p n c,.int .i64 i,.int .i64 N] w fun e w' => ∃ x : Nat,e = .returned (.int .i64 x) ∧ (1 ≤ N → x < N) ∧ w = w' := by
 have hlen : (u8s bs).length = n := by simp [u8s,hl]
 by_cases h1 : N ≤ 1
 · go_enter Try.func39,Try.ntmps39
   go_wp2;go_ret;exact ⟨0,rfl,fun h => by omega,rfl⟩
 · have d3 : ((N : Int) = 0) = False := by simp;omega
   have d4 : ((N : Int) = -1) = False := by first | (simp;done) | (simp;omega)
   by_cases h2 : i < n
   · have hib : i < bs.length := by omega
     have hv : (u8s bs)[i]? = some (.int .u8 ((bs[i] : Nat) : Int)) := by simp [u8s,hib]
     have hb2 := hb bs[i] (by simp);generalize bs[i] = b at *;have wb : IntKind.i64.wrap (b : Int) = (b : Int) := jao _ (by omega) (by omega);have Hv := hid hv;have Hl := hid hlen;clear hv hlen hl hib hb;go_enter Try.func39,Try.ntmps39;go_wp2_with ((with_reducible show gx2);refine wl_idxload rfl rfl rfl rfl (fun _ => rfl) rfl rfl hc Hl.out (by omega) (by omega) ?_;intro u hu;rw [Int.toNat_natCast,Hv.out] at hu;cases hu);go_ret;have g1 := Int.emod_nonneg (b : Int) (show (N : Int) ≠ 0 by omega);have g2 := Int.emod_lt_of_pos (b : Int) (show (0 : Int) < N by omega);exact ⟨((b : Int) % N).toNat,by rw [Int.toNat_of_nonneg g1];rfl,fun h => by omega,rfl⟩
   · have w1 : IntKind.i64.wrap ((i : Int) * 37) = (i : Int) * 37 := jao _ (by omega) (by omega)
     have w2 : IntKind.i64.wrap ((i : Int) * 37 + 11) = (i : Int) * 37 + 11 := jao _ (by omega) (by omega);go_enter Try.func39,Try.ntmps39;go_wp2;go_ret;have g1 := Int.emod_nonneg ((i : Int) * 37 + 11) (show (N : Int) ≠ 0 by omega);have g2 := Int.emod_lt_of_pos ((i : Int) * 37 + 11) (show (0 : Int) < N by omega);exact ⟨(((i : Int) * 37 + 11) % N).toNat,by rw [Int.toNat_of_nonneg g1];rfl,fun h => by omega,rfl⟩
theorem l03DrawTensor_any (sb K R C : Nat) (w : World) (h : DrAt w sb K) (hR : R ≤ 16) (hC : C ≤ 16) (hK : K ≤ 1000000) : Calls Try.prog 76 #[.pointer (some ⟨sb,0,none⟩),.int .i64 R,.int .i64 C] w fun e w' => ∃ (xs : List Nat) (q : Option Addr) (c : Nat) (vs : List Value),e = .returned (.agg #[.int .i64 R,.int .i64 C,.slice q (R * C) c]) ∧ xs.length = R * C ∧ (∀ x ∈ xs,x < 4294967296) ∧ w'.ownsRow w.heap.size 33 1 (.slice q (R * C) c) (R * C) vs ∧ F32s vs xs ∧ DrAt w' sb (K + 10000) ∧ Chg (fun b => b = sb) w w' := by
 have hlt0 := h.lt;have hRC : R * C ≤ 16 * 16 := Nat.mul_le_mul hR hC;obtain ⟨W0,hW0⟩ : ∃ W0,W0 = w.alloc (.cells #[.int .i64 0,.int .i64 0,.slice none 0 0] 27) := ⟨_,rfl⟩;have E0 : Ext w W0 := by rw [hW0];exact Ext.alloc _ _
 have b0 : HB W0 w.heap.size #[.int .i64 0,.int .i64 0,.slice none 0 0] 27 := by rw [hW0];exact HB.new _ _ _
 have hm : IntKind.i64.wrap ((R : Int) * (C : Int)) = ((R * C : Nat) : Int) := by rw [← Int.natCast_mul];exact jao _ (by omega) (by omega)
 have H0 := h.ext E0;have z0 := b0.lt;generalize hRM : R * C = RM at *;go_enter Try.func76,Try.ntmps76;go_wp2_with fail;rw [← hW0];clear hW0;refine (drFloats_any sb K RM W0 H0 (by omega) (by omega)).mono ?_;rintro e w1 ⟨xs,hx,hxb,⟨q,c,vs,rfl,ho,hf⟩,S1,c1⟩
 rw [hx] at ho ⊢;have B1 := b0.chg c1 (fun hh => by omega);have n0 := B1.froz 0;have n1 := B1.froz 1;have n2 := B1.froz 2;have y0 := B1.cell 0 rfl;have y1 := B1.cell 1 rfl;have y2 := B1.cell 2 rfl;have HX := hid hx;clear hx;go_wp2;have Z7 : HB (((w1.setCell ⟨w.heap.size,0,none⟩ (.int .i64 R)).setCell ⟨w.heap.size,1,none⟩ (.int .i64 C)).setCell ⟨w.heap.size,2,none⟩ (.slice q RM c)) w.heap.size #[.int .i64 R,.int .i64 C,.slice q RM c] 27 := ((B1.set 0 _).set 1 _).set 2 _;have C7 : Chg (fun b => b = w.heap.size) w1 (((w1.setCell ⟨w.heap.size,0,none⟩ (.int .i64 R)).setCell ⟨w.heap.size,1,none⟩ (.int .i64 C)).setCell ⟨w.heap.size,2,none⟩ (.slice q RM c)) := ((jaj _ _ 0 _).trans (jaj _ _ 1 _)).trans (jaj _ _ 2 _);clear n0 n1 n2 y0 y1 y2;generalize (((w1.setCell ⟨w.heap.size,0,none⟩ (.int .i64 R)).setCell ⟨w.heap.size,1,none⟩ (.int .i64 C)).setCell ⟨w.heap.size,2,none⟩ (.slice q RM c)) = W7 at *;have y0 := Z7.cell 0 rfl;have y1 := Z7.cell 1 rfl;have y2 := Z7.cell 2 rfl;refine bodyPost_ret (v := .agg #[.int .i64 R,.int .i64 C,.slice q RM c]) (by simp [results,Try.results76,go_sem,y0,y1,y2]) rfl ?_;exact ⟨xs,q,c,vs,rfl,HX.out,hxb,ja0 (ja2 ho C7 (fun k hk hs => by have hs : k = _ := hs;have := jah ho k hk;omega)) (by omega),hf,(S1.chg C7 (fun b hb => by have hb : b = _ := hb;omega)).mono (by omega),((Chg.of_ext (S := fun b => b = sb) E0).trans c1).late C7 (fun b hb => by left;have hb : b = _ := hb;omega)⟩
def GotRows (C : Nat) (w : World) (e : Ending) (w' : World) : Prop := ∃ R : Nat,1 ≤ R ∧ R ≤ 5 ∧ GotT R C w e w'
theorem B10Rows_any (p : Option Addr) (n c : Nat) (bs : List Nat) (C : Nat) (w : World) (hc : Cs w p (u8s bs)) (hl : bs.length = n) (hn : n ≤ 1048576) (hb : ∀ b ∈ bs,b < 256) (hC : C ≤ 16) :
 Calls Try.prog 32 #[.slice p n c,.int .i64 C] w (GotRows C w) := by
 obtain ⟨W0,hW0⟩ : ∃ W0,W0 = w.alloc (.cells #[.int .i64 0,.int .i64 0,.slice none 0 0] 27) := ⟨_,rfl⟩;have E0 : Ext w W0 := by rw [hW0];exact Ext.alloc _ _
 have b0 : HB W0 w.heap.size #[.int .i64 0,.int .i64 0,.slice none 0 0] 27 := by rw [hW0];exact HB.new _ _ _
 have z0 := b0.lt;go_enter Try.func32,Try.ntmps32;go_wp2_with fail;rw [← hW0];clear hW0;refine (l00From_any p n c bs W0 (hc.ext E0) hl hn hb).mono ?_;rintro e w1 ⟨rfl,src,e1⟩
 have hsz := e1.size;go_wp2_with fail;refine (jaw W0.heap.size 0 5 w1 src (by omega) (by omega)).mono ?_;rintro e wp ⟨x,rfl,hx,_,src2,cp⟩
 have hx := hx (by omega);obtain ⟨R,hR⟩ : ∃ R : Nat,(1 : Int) + (x : Int) = (R : Int) := ⟨1 + x,by omega⟩;have hR1 : 1 ≤ R ∧ R ≤ 5 := by omega
 clear hx;go_wp2_with fail;refine (l03DrawTensor_any W0.heap.size 2 R C wp src2 (by omega) hC (by omega)).mono ?_;rintro e w2 ⟨xs,q,c2,vs,rfl,hx,hxb,ho,hf,_,c3⟩
 have cc := cp.trans c3;have E2 := chg_new (E0.trans e1) cc (by omega);have B1 := (b0.ext e1).chg cc (fun hh => by omega);have n0 := B1.froz 0;have n1 := B1.froz 1;have n2 := B1.froz 2;have y0 := B1.cell 0 rfl;have y1 := B1.cell 1 rfl;have y2 := B1.cell 2 rfl;have HX := hid hx;have zp := cp.size;clear hx;generalize hRM : R * C = RM at *;go_wp2;have Z7 : HB (((w2.setCell ⟨w.heap.size,0,none⟩ (.int .i64 R)).setCell ⟨w.heap.size,1,none⟩ (.int .i64 C)).setCell ⟨w.heap.size,2,none⟩ (.slice q RM c2)) w.heap.size #[.int .i64 R,.int .i64 C,.slice q RM c2] 27 := ((B1.set 0 _).set 1 _).set 2 _;have C7 : Chg (fun b => b = w.heap.size) w2 (((w2.setCell ⟨w.heap.size,0,none⟩ (.int .i64 R)).setCell ⟨w.heap.size,1,none⟩ (.int .i64 C)).setCell ⟨w.heap.size,2,none⟩ (.slice q RM c2)) := ((jaj _ _ 0 _).trans (jaj _ _ 1 _)).trans (jaj _ _ 2 _);clear n0 n1 n2 y0 y1 y2;generalize (((w2.setCell ⟨w.heap.size,0,none⟩ (.int .i64 R)).setCell ⟨w.heap.size,1,none⟩ (.int .i64 C)).setCell ⟨w.heap.size,2,none⟩ (.slice q RM c2)) = W7 at *;have y0 := Z7.cell 0 rfl;have y1 := Z7.cell 1 rfl;have y2 := Z7.cell 2 rfl;refine bodyPost_ret (v := .agg #[.int .i64 R,.int .i64 C,.slice q RM c2]) (by simp [results,Try.results32,go_sem,y0,y1,y2]) rfl ?_;subst hRM;exact ⟨R,hR1.1,hR1.2,xs,q,c2,vs,rfl,HX.out,hxb,ja0 (ja2 ho C7 (fun k hk hs => by have hs : k = _ := hs;have := jah ho k hk;omega)) (by omega),hf,E2.chg C7 (fun b hb => by have hb : b = _ := hb;omega)⟩
theorem gotAny_M {sb K : Nat} {w w1 w' : World} {e : Ending} (e1 : Ext w w1) (hs : w.heap.size ≤ sb) {L : List jaa.T} {q : Option Addr} {c n : Nat} (hn : L.length = n) (hm : modB L = true) (hf : Fit (.sl jaa) L) (ho : ∃ (B : Nat) (cs : List (List Value)) (bss : List (List Nat)),w1.heap.size ≤ B ∧ B ≤ w'.heap.size ∧ GrowOwn w' B 41 jaa (.slice q L.length c) L cs bss ∧ Tys w' [33] bss.flatten) :
 jbu [41,33] w1.heap.size (.sl jaa) w' [.slice q L.length c] L := by
 obtain ⟨B,cs,bss,hB,hB2,G,T⟩ := ho;exact (G.ownY (ts := [41,33]) (T.mono (by simp)) (by simp)).base hB
def lay12 : jaa.T := (1,2,2,[],[],())
theorem own_lay12 {w : World} {g : Nat} (h : HB w g #[.int .i64 1,.int .i64 2,.int .i64 2,.slice none 0 0,.slice none 0 0] 41) : Own w (.sl jaa) [.slice (some ⟨g,0,none⟩) 1 1] [lay12] [g] :=
 own_sl.2 ⟨some ⟨g,0,none⟩,1,[[.int .i64 1,.int .i64 2,.int .i64 2,.slice none 0 0,.slice none 0 0]],[[]],rfl,.inr ⟨g,_,_,rfl,h,rfl⟩,by decide,by decide,⟨rfl,rfl,fun i cs bs x g1 g2 g3 => by
  cases i with
  | zero => simp at g1 g2 g3;subst g1;subst g2;subst g3;exact own_lay (d := lay12) own_nil own_nil
  | succ i => simp at g1⟩,rfl⟩
theorem B10Model_any (p : Option Addr) (n c : Nat) (bs : List Nat) (w : World) (hc : Cs w p (u8s bs)) (hl : bs.length = n) (hn : n ≤ 1048576) (hb : ∀ b ∈ bs,b < 256) : Calls Try.prog 31 #[.slice p n c] w (GotM w) := by
 obtain ⟨W0,hW0⟩ : ∃ W0,W0 = w.alloc (.cells #[.slice none 0 0] 38) := ⟨_,rfl⟩;have E0 : Ext w W0 := by rw [hW0];exact Ext.alloc _ _
 have b0 : HB W0 w.heap.size #[.slice none 0 0] 38 := by rw [hW0];exact HB.new _ _ _
 have s0 := b0.lt;go_enter Try.func31,Try.ntmps31;go_wp2_with fail;rw [← hW0];clear hW0;refine (l00From_any p n c bs W0 (hc.ext E0) hl hn hb).mono ?_;rintro e w1 ⟨rfl,src,e1⟩
 have hsz := e1.size;go_wp2_with fail;refine (l09DrawModel_any W0.heap.size 0 w1 src (by omega)).mono ?_;rintro e w2 ⟨L,q,c2,rfl,hf,hr,hown,H2,c2'⟩
 have E2 := chg_new (E0.trans e1) c2' (by omega);have B2 := (b0.ext e1).chg c2' (fun hh => by omega);obtain ⟨W3,hW3⟩ : ∃ W3,W3 = w2.alloc (.cells #[.slice q L.length c2] 38) := ⟨_,rfl⟩;have E3 : Ext w2 W3 := by rw [hW3];exact Ext.alloc _ _
 have b4 : HB W3 w2.heap.size #[.slice q L.length c2] 38 := by rw [hW3];exact HB.new _ _ _
 obtain ⟨p',c',css,hv,LY⟩ := lays_of (hr w2 (Chg.refl _ _)) hf
 cases hv
 have LY3 := LY.ext E3;have z2 := c2'.size;clear LY hr H2 c2';rw [hW3] at b4;go_wp2_with fail;rw [← hW3] at b4 ⊢;clear hW3;refine (l03Is_any (sp := none) w2.heap.size 0 q L.length c2 L css W3 (b4.cell 0 rfl) LY3.len LY3.le LY3.cs LY3.all LY3.size LY3.cnt).mono ?_;rintro e w4 ⟨rfl,e4⟩
 have B4 := b4.ext e4;have B04 := (B2.ext E3).ext e4;have E4 := (E2.trans E3).trans e4;have z4 := E4.size;have z42 := (E3.trans e4).size
 cases hmb : modB L with
 | false =>
   have B05 := B04.ext (Ext.alloc w4 (.cells #[.int .i64 1,.int .i64 2,.int .i64 2,.slice none 0 0,.slice none 0 0] 41));have r1 := B05.cell 0 rfl;have r2 := B05.froz 0;have hN := HB.new w4 #[.int .i64 1,.int .i64 2,.int .i64 2,.slice none 0 0,.slice none 0 0] 41;have eN := Ext.alloc w4 (.cells #[.int .i64 1,.int .i64 2,.int .i64 2,.slice none 0 0,.slice none 0 0] 41);go_wp2;refine bodyPost_ret (v := .agg #[.slice (some ⟨w4.heap.size,0,none⟩) 1 1]) (by simp [results,Try.results31,go_sem,r1,r2]) rfl ?_;have ch := jaj (w4.alloc (.cells #[.int .i64 1,.int .i64 2,.int .i64 2,.slice none 0 0,.slice none 0 0] 41)) w.heap.size 0 (.slice (some ⟨w4.heap.size,0,none⟩) 1 1);have hN2 := hN.chg ch (fun h => by have h : w4.heap.size = w.heap.size := h;omega);refine ⟨[lay12],some ⟨w4.heap.size,0,none⟩,1,rfl,by decide,fun x hx => ?_,⟨[w4.heap.size],own_lay12 hN2,by simp,fun b hb => ?_,fun b hb => ?_⟩,(E4.trans eN).chg ch (fun b hb => by have hb : b = _ := hb;omega)⟩
   · have hx := List.mem_singleton.1 hx
     subst hx;exact ⟨⟨by decide,by decide⟩,⟨by decide,by decide⟩,⟨by decide,by decide⟩,fun x hx => (by simp [lay12] at hx),fun x hx => (by simp [lay12] at hx),trivial⟩
   · have hb := List.mem_singleton.1 hb;omega
   · have hb := List.mem_singleton.1 hb
     subst hb;exact ⟨_,_,_,by simp,hN2⟩
 | true =>
   have ho := gotAny_M (e := .returned (.bool true)) (K := 0) (e1) (Nat.le_refl _) (q := q) (c := c2) rfl hmb hf (hown hmb);have ho4 := (ho.ext E3).ext e4;have r0 := B4.cell 0 rfl;have r1 := B04.cell 0 rfl;have r2 := B04.froz 0;have ze := e1.size;go_wp2;refine bodyPost_ret (v := .agg #[.slice q L.length c2]) (by simp [results,Try.results31,go_sem,r0,r1,r2]) rfl ?_;have ch := jaj w4 w.heap.size 0 (.slice q L.length c2);exact ⟨L,q,c2,rfl,hmb,hf,(jbu.chg ho4 ch (fun b hb => by have hb : b = _ := hb;omega)).base (by omega),E4.chg ch (fun b hb => by have hb : b = _ := hb;omega)⟩
end Go.Proofs.Ytmbckkcgiafagaa
