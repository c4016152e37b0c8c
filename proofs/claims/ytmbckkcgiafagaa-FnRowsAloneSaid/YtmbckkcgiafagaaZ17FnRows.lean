/- A part of the proofs: Stp, Dr11, Red, Tp, Tp2, Sto, RLst, ParO, RedOk, SOf, RLay, CntP. -/
import Derived.Test.YtmbckkcgiafagaaZ16FnRows
import Derived.Test.YtmbckkcgiafagaaZ08FnRows
import Derived.Test.YtmbckkcgiafagaaZ02FnRows
import Derived.Test.YtmbckkcgiafagaaZ11FnRows
import Derived.Test.YtmbckkcgiafagaaZ07FnRows
import Derived.Test.YtmbckkcgiafagaaZ10FnRows
import Derived.Test.YtmbckkcgiafagaaZ03FnRows
import Derived.Test.YtmbckkcgiafagaaZ12FnRows
import Derived.Test.YtmbckkcgiafagaaZ09FnRows
import Derived.Test.YtmbckkcgiafagaaZ13FnRows
import Derived.Test.YtmbckkcgiafagaaZ06FnRows
import Derived.Laws.CopyRow
import Derived.Test.YtmbckkcgiafagaaZ14FnRows
set_option linter.unusedSimpArgs false
set_option linter.unusedVariables false
set_option maxRecDepth 100000
set_option maxHeartbeats 16000000
namespace Go.Proofs.Ytmbckkcgiafagaa
open Go.RowKit
section
variable {P : Program} {w : World} {ops : Array Oper} {rest : List Oper} {o o1 o2 : Oper} {a : Act} {Q : Exit → Act → World → Prop}
theorem wl_idxloadW {t e b : Nat} {z : Value} [SlTy P t e 1 z b] [Cell1 P e] {x ix : Operand} {d : Tmp} (hw1 : Region.wanted o1 (yielded ops a.tmps) = true) (ho1 : o1.op = .indexAddr t x ix) (hw2 : ∀ y,Region.wanted o2 (yielded ops (a.put o1.dst y).tmps) = true) (ho2 : o2.op = .load e (.tmp d))
 {p : Option Addr} {n c : Nat} {k : IntKind} {i : Int} (hd : ∀ y,(a.put o1.dst y).eval (.tmp d) = y)
 (hx : a.eval x = .slice p n c) (hi : a.eval ix = .int k i) {vs : List Value} (hc : Cs w p vs) (hvn : vs.length = n) (h0 : 0 ≤ i) (hn : i < n) {u : Value} (hu : vs[i.toNat]? = some u)
 (h : wpList P ops Q rest ((a.put o1.dst (.pointer (some (adr p i.toNat)))).put o2.dst u) w) : wpList P ops Q (o1 :: o2 :: rest) a w := by
 have hlt : i.toNat < vs.length := by omega
 have hp : p.isSome = true := hc.isS (by intro h;simp [h] at hlt);refine wl_valueW hw1 (w' := w) (v := .pointer (some (adr p i.toNat))) (by simp [execOp,ho1,hx,hi,run_indexAt hp h0 hn]) ?_;exact wl_valueW (hw2 _) (by simp [execOp,ho2,hd,run_load1 (hc.cell _ _ hu)]) h
end
theorem b10Long_any (p q : Option Addr) (n c m d : Nat) (w : World) : Calls Try.prog 30 #[.slice p n c,.slice q m d] w fun e w' => e = .returned (.bool (decide (1048576 < n) || decide (1048576 < m))) ∧ w = w' := by
 by_cases h : 1048576 < n
 · have h1 : decide (1048576 < n) = true := decide_eq_true h
   go_enter Try.func30,Try.ntmps30;go_wp2;go_ret;exact ⟨by simp [h],rfl⟩
 · by_cases h2 : 1048576 < m
   · go_enter Try.func30,Try.ntmps30
     go_wp2;go_ret;exact ⟨by first | (simp [h,h2];done) | (simp [h,h2];omega),rfl⟩
   · go_enter Try.func30,Try.ntmps30
     go_wp2;go_ret;exact ⟨by first | (simp [h,h2];done) | (simp [h,h2];omega),rfl⟩
theorem l03DrawTensor_any (sb K R C : Nat) (w : World) (h : DrAt w sb K) (hR : R ≤ 16) (hC : C ≤ 16) (hK : K ≤ 1000000) : Calls Try.prog 76 #[.pointer (some ⟨sb,0,none⟩),.int .i64 R,.int .i64 C] w fun e w' => ∃ (xs : List Nat) (q : Option Addr) (c : Nat) (vs : List Value),e = .returned (.agg #[.int .i64 R,.int .i64 C,.slice q (R * C) c]) ∧ xs.length = R * C ∧ (∀ x ∈ xs,x < 4294967296) ∧ w'.ownsRow w.heap.size 33 1 (.slice q (R * C) c) (R * C) vs ∧ F32s vs xs ∧ DrAt w' sb (K + 10000) ∧ Chg (fun b => b = sb) w w' := by
 have hlt0 := h.lt;have hRC : R * C ≤ 16 * 16 := Nat.mul_le_mul hR hC;obtain ⟨W0,hW0⟩ : ∃ W0,W0 = w.alloc (.cells #[.int .i64 0,.int .i64 0,.slice none 0 0] 27) := ⟨_,rfl⟩;have E0 : Ext w W0 := by rw [hW0];exact Ext.alloc _ _
 have b0 : HB W0 w.heap.size #[.int .i64 0,.int .i64 0,.slice none 0 0] 27 := by rw [hW0];exact HB.new _ _ _
 have hm : IntKind.i64.wrap ((R : Int) * (C : Int)) = ((R * C : Nat) : Int) := by rw [← Int.natCast_mul];exact jat _ (by omega) (by omega)
 have H0 := h.ext E0;have z0 := b0.lt;generalize hRM : R * C = RM at *;go_enter Try.func76,Try.ntmps76;go_wp2_with fail;rw [← hW0];clear hW0;refine (drFloats_any sb K RM W0 H0 (by omega) (by omega)).mono ?_;rintro e w1 ⟨xs,hx,hxb,⟨q,c,vs,rfl,ho,hf⟩,S1,c1⟩
 rw [hx] at ho ⊢;have B1 := b0.chg c1 (fun hh => by omega);have n0 := B1.froz 0;have n1 := B1.froz 1;have n2 := B1.froz 2;have y0 := B1.cell 0 rfl;have y1 := B1.cell 1 rfl;have y2 := B1.cell 2 rfl;have HX := hid hx;clear hx;go_wp2;have Z7 : HB (((w1.setCell ⟨w.heap.size,0,none⟩ (.int .i64 R)).setCell ⟨w.heap.size,1,none⟩ (.int .i64 C)).setCell ⟨w.heap.size,2,none⟩ (.slice q RM c)) w.heap.size #[.int .i64 R,.int .i64 C,.slice q RM c] 27 := ((B1.set 0 _).set 1 _).set 2 _;have C7 : Chg (fun b => b = w.heap.size) w1 (((w1.setCell ⟨w.heap.size,0,none⟩ (.int .i64 R)).setCell ⟨w.heap.size,1,none⟩ (.int .i64 C)).setCell ⟨w.heap.size,2,none⟩ (.slice q RM c)) := ((jae _ _ 0 _).trans (jae _ _ 1 _)).trans (jae _ _ 2 _);clear n0 n1 n2 y0 y1 y2;generalize (((w1.setCell ⟨w.heap.size,0,none⟩ (.int .i64 R)).setCell ⟨w.heap.size,1,none⟩ (.int .i64 C)).setCell ⟨w.heap.size,2,none⟩ (.slice q RM c)) = W7 at *;have y0 := Z7.cell 0 rfl;have y1 := Z7.cell 1 rfl;have y2 := Z7.cell 2 rfl;refine bodyPost_ret (v := .agg #[.int .i64 R,.int .i64 C,.slice q RM c]) (by simp [results,Try.results76,go_sem,y0,y1,y2]) rfl ?_;exact ⟨xs,q,c,vs,rfl,HX.out,hxb,jbe (ownsRow_chg ho C7 (fun k hk hs => by have hs : k = _ := hs;have := jaf ho k hk;omega)) (by omega),hf,(S1.chg C7 (fun b hb => by have hb : b = _ := hb;omega)).mono (by omega),((Chg.of_ext (S := fun b => b = sb) E0).trans c1).late C7 (fun b hb => by left;have hb : b = _ := hb;omega)⟩
def GotRows (C : Nat) (w : World) (e : Ending) (w' : World) : Prop := ∃ R : Nat,1 ≤ R ∧ R ≤ 5 ∧ GotT R C w e w'
theorem B10Rows_any (p : Option Addr) (n c : Nat) (bs : List Nat) (C : Nat) (w : World) (hc : Cs w p (u8s bs)) (hl : bs.length = n) (hn : n ≤ 1048576) (hb : ∀ b ∈ bs,b < 256) (hC : C ≤ 16) :
 Calls Try.prog 32 #[.slice p n c,.int .i64 C] w (GotRows C w) := by
 obtain ⟨W0,hW0⟩ : ∃ W0,W0 = w.alloc (.cells #[.int .i64 0,.int .i64 0,.slice none 0 0] 27) := ⟨_,rfl⟩;have E0 : Ext w W0 := by rw [hW0];exact Ext.alloc _ _
 have b0 : HB W0 w.heap.size #[.int .i64 0,.int .i64 0,.slice none 0 0] 27 := by rw [hW0];exact HB.new _ _ _
 have z0 := b0.lt;go_enter Try.func32,Try.ntmps32;go_wp2_with fail;rw [← hW0];clear hW0;refine (l00From_any p n c bs W0 (hc.ext E0) hl hn hb).mono ?_;rintro e w1 ⟨rfl,src,e1⟩
 have hsz := e1.size;go_wp2_with fail;refine (jam W0.heap.size 0 5 w1 src (by omega) (by omega)).mono ?_;rintro e wp ⟨x,rfl,hx,_,src2,cp⟩
 have hx := hx (by omega);obtain ⟨R,hR⟩ : ∃ R : Nat,(1 : Int) + (x : Int) = (R : Int) := ⟨1 + x,by omega⟩;have hR1 : 1 ≤ R ∧ R ≤ 5 := by omega
 clear hx;go_wp2_with fail;refine (l03DrawTensor_any W0.heap.size 2 R C wp src2 (by omega) hC (by omega)).mono ?_;rintro e w2 ⟨xs,q,c2,vs,rfl,hx,hxb,ho,hf,_,c3⟩
 have cc := cp.trans c3;have E2 := chg_new (E0.trans e1) cc (by omega);have B1 := (b0.ext e1).chg cc (fun hh => by omega);have n0 := B1.froz 0;have n1 := B1.froz 1;have n2 := B1.froz 2;have y0 := B1.cell 0 rfl;have y1 := B1.cell 1 rfl;have y2 := B1.cell 2 rfl;have HX := hid hx;have zp := cp.size;clear hx;generalize hRM : R * C = RM at *;go_wp2;have Z7 : HB (((w2.setCell ⟨w.heap.size,0,none⟩ (.int .i64 R)).setCell ⟨w.heap.size,1,none⟩ (.int .i64 C)).setCell ⟨w.heap.size,2,none⟩ (.slice q RM c2)) w.heap.size #[.int .i64 R,.int .i64 C,.slice q RM c2] 27 := ((B1.set 0 _).set 1 _).set 2 _;have C7 : Chg (fun b => b = w.heap.size) w2 (((w2.setCell ⟨w.heap.size,0,none⟩ (.int .i64 R)).setCell ⟨w.heap.size,1,none⟩ (.int .i64 C)).setCell ⟨w.heap.size,2,none⟩ (.slice q RM c2)) := ((jae _ _ 0 _).trans (jae _ _ 1 _)).trans (jae _ _ 2 _);clear n0 n1 n2 y0 y1 y2;generalize (((w2.setCell ⟨w.heap.size,0,none⟩ (.int .i64 R)).setCell ⟨w.heap.size,1,none⟩ (.int .i64 C)).setCell ⟨w.heap.size,2,none⟩ (.slice q RM c2)) = W7 at *;have y0 := Z7.cell 0 rfl;have y1 := Z7.cell 1 rfl;have y2 := Z7.cell 2 rfl;refine bodyPost_ret (v := .agg #[.int .i64 R,.int .i64 C,.slice q RM c2]) (by simp [results,Try.results32,go_sem,y0,y1,y2]) rfl ?_;subst hRM;exact ⟨R,hR1.1,hR1.2,xs,q,c2,vs,rfl,HX.out,hxb,jbe (ownsRow_chg ho C7 (fun k hk hs => by have hs : k = _ := hs;have := jaf ho k hk;omega)) (by omega),hf,E2.chg C7 (fun b hb => by have hb : b = _ := hb;omega)⟩
theorem gotAny_M {sb K : Nat} {w w1 w' : World} {e : Ending} (e1 : Ext w w1) (hs : w.heap.size ≤ sb) {L : List jaa.T} {q : Option Addr} {c n : Nat} (hn : L.length = n) (hm : modB L = true) (hf : Fit (.sl jaa) L) (ho : ∃ (B : Nat) (cs : List (List Value)) (bss : List (List Nat)),w1.heap.size ≤ B ∧ B ≤ w'.heap.size ∧ GrowOwn w' B 41 jaa (.slice q L.length c) L cs bss ∧ Tys w' [33] bss.flatten) :
 IsOwnY [41,33] w1.heap.size (.sl jaa) w' [.slice q L.length c] L := by
 obtain ⟨B,cs,bss,hB,hB2,G,T⟩ := ho;exact (G.ownY (ts := [41,33]) (T.mono (by simp)) (by simp)).base hB
def lay12 : jaa.T := (1,2,2,[],[],())
theorem own_lay12 {w : World} {g : Nat} (h : HB w g #[.int .i64 1,.int .i64 2,.int .i64 2,.slice none 0 0,.slice none 0 0] 41) : Own w (.sl jaa) [.slice (some ⟨g,0,none⟩) 1 1] [lay12] [g] :=
 own_sl.2 ⟨some ⟨g,0,none⟩,1,[[.int .i64 1,.int .i64 2,.int .i64 2,.slice none 0 0,.slice none 0 0]],[[]],rfl,.inr ⟨g,_,_,rfl,h,rfl⟩,by decide,by decide,⟨rfl,rfl,fun i cs bs x g1 g2 g3 => by
  cases i with
  | zero => simp at g1 g2 g3;subst g1;subst g2;subst g3;exact own_lay (d := lay12) own_nil own_nil
  | succ i => simp at g1⟩,rfl⟩
theorem B10Model_any (p : Option Addr) (n c : Nat) (bs : List Nat) (w : World) (hc : Cs w p (u8s bs)) (hl : bs.length = n) (hn : n ≤ 1048576) (hb : ∀ b ∈ bs,b < 256) : Calls Try.prog 31 #[.slice p n c] w (GotM w) := by
 obtain ⟨W0,hW0⟩ : ∃ W0,W0 = w.alloc (.cells #[.slice none 0 0] 38) := ⟨_,rfl⟩;have E0 : Ext w W0 := by rw [hW0];exact Ext.alloc _ _
 have b0 : HB W0 w.heap.size #[.slice none 0 0] 38 := by rw [hW0];exact HB.new _ _ _
 have s0 := b0.lt;go_enter Try.func31,Try.ntmps31;go_wp2_with fail;rw [← hW0];clear hW0;refine (l00From_any p n c bs W0 (hc.ext E0) hl hn hb).mono ?_;rintro e w1 ⟨rfl,src,e1⟩
 have hsz := e1.size;go_wp2_with fail;refine (l09DrawModel_any W0.heap.size 0 w1 src (by omega)).mono ?_;rintro e w2 ⟨L,q,c2,rfl,hf,hr,hown,H2,c2'⟩
 have E2 := chg_new (E0.trans e1) c2' (by omega);have B2 := (b0.ext e1).chg c2' (fun hh => by omega);obtain ⟨W3,hW3⟩ : ∃ W3,W3 = w2.alloc (.cells #[.slice q L.length c2] 38) := ⟨_,rfl⟩;have E3 : Ext w2 W3 := by rw [hW3];exact Ext.alloc _ _
 have b4 : HB W3 w2.heap.size #[.slice q L.length c2] 38 := by rw [hW3];exact HB.new _ _ _
 obtain ⟨p',c',css,hv,LY⟩ := lays_of (hr w2 (Chg.refl _ _)) hf
 cases hv
 have LY3 := LY.ext E3;have z2 := c2'.size;clear LY hr H2 c2';rw [hW3] at b4;go_wp2_with fail;rw [← hW3] at b4 ⊢;clear hW3;refine (l03Is_any (sp := none) w2.heap.size 0 q L.length c2 L css W3 (b4.cell 0 rfl) LY3.len LY3.le LY3.cs LY3.all LY3.size LY3.cnt).mono ?_;rintro e w4 ⟨rfl,e4⟩
 have B4 := b4.ext e4;have B04 := (B2.ext E3).ext e4;have E4 := (E2.trans E3).trans e4;have z4 := E4.size;have z42 := (E3.trans e4).size
 cases hmb : modB L with
 | false =>
   have B05 := B04.ext (Ext.alloc w4 (.cells #[.int .i64 1,.int .i64 2,.int .i64 2,.slice none 0 0,.slice none 0 0] 41));have r1 := B05.cell 0 rfl;have r2 := B05.froz 0;have hN := HB.new w4 #[.int .i64 1,.int .i64 2,.int .i64 2,.slice none 0 0,.slice none 0 0] 41;have eN := Ext.alloc w4 (.cells #[.int .i64 1,.int .i64 2,.int .i64 2,.slice none 0 0,.slice none 0 0] 41);go_wp2;refine bodyPost_ret (v := .agg #[.slice (some ⟨w4.heap.size,0,none⟩) 1 1]) (by simp [results,Try.results31,go_sem,r1,r2]) rfl ?_;have ch := jae (w4.alloc (.cells #[.int .i64 1,.int .i64 2,.int .i64 2,.slice none 0 0,.slice none 0 0] 41)) w.heap.size 0 (.slice (some ⟨w4.heap.size,0,none⟩) 1 1);have hN2 := hN.chg ch (fun h => by have h : w4.heap.size = w.heap.size := h;omega);refine ⟨[lay12],some ⟨w4.heap.size,0,none⟩,1,rfl,by decide,fun x hx => ?_,⟨[w4.heap.size],own_lay12 hN2,by simp,fun b hb => ?_,fun b hb => ?_⟩,(E4.trans eN).chg ch (fun b hb => by have hb : b = _ := hb;omega)⟩
   · have hx := List.mem_singleton.1 hx
     subst hx;exact ⟨⟨by decide,by decide⟩,⟨by decide,by decide⟩,⟨by decide,by decide⟩,fun x hx => (by simp [lay12] at hx),fun x hx => (by simp [lay12] at hx),trivial⟩
   · have hb := List.mem_singleton.1 hb;omega
   · have hb := List.mem_singleton.1 hb
     subst hb;exact ⟨_,_,_,by simp,hN2⟩
 | true =>
   have ho := gotAny_M (e := .returned (.bool true)) (K := 0) (e1) (Nat.le_refl _) (q := q) (c := c2) rfl hmb hf (hown hmb);have ho4 := (ho.ext E3).ext e4;have r0 := B4.cell 0 rfl;have r1 := B04.cell 0 rfl;have r2 := B04.froz 0;have ze := e1.size;go_wp2;refine bodyPost_ret (v := .agg #[.slice q L.length c2]) (by simp [results,Try.results31,go_sem,r0,r1,r2]) rfl ?_;have ch := jae w4 w.heap.size 0 (.slice q L.length c2);exact ⟨L,q,c2,rfl,hmb,hf,(IsOwnY.chg ho4 ch (fun b hb => by have hb : b = _ := hb;omega)).base (by omega),E4.chg ch (fun b hb => by have hb : b = _ := hb;omega)⟩
structure Fls (w : World) (p : Option Addr) (n : Nat) (us : List Value) (l : List (List Nat)) : Prop where
 cs : Cs w p us
 at' : ∀ i,i < n → ∃ q c vs,us[i]? = some (.slice q (l.getD i []).length c) ∧ Cs w q vs ∧ F32s vs (l.getD i []) ∧ (l.getD i []).length ≤ c
 len : l.length = n
 cnt : us.length = n
theorem Fls.ext {w w' : World} {p : Option Addr} {n : Nat} {us : List Value} {l : List (List Nat)} (h : Fls w p n us l) (e : Ext w w') : Fls w' p n us l :=
 ⟨h.cs.ext e,fun i hi => by obtain ⟨q,c,vs,h1,h2,h3,h4⟩ := h.at' i hi;exact ⟨q,c,vs,h1,h2.ext e,h3,h4⟩,h.len,h.cnt⟩
theorem fls_of {w : World} {v : Value} {l : List (List Nat)} (h : Rep w (.sl (.sl .flt)) [v] l) : ∃ p c us,v = .slice p l.length c ∧ Fls w p l.length us l ∧ l.length ≤ c ∧ c ≤ maxLen ∧ ∀ i,i < l.length → (l.getD i []).length ≤ maxLen := by
 obtain ⟨p,c,css,h1,a2,a3,a4,a5⟩ := h
 cases h1
 have a6 : ∀ c ∈ css,c.length = 1 := fun c hc => by obtain ⟨i,hi,rfl⟩ := List.mem_iff_getElem.1 hc;obtain ⟨_,h⟩ := a5.get' i (by rw [← a5.length];exact hi);exact h.size
 have hget : ∀ i (hi : i < l.length),∃ q c vs,css.flatten[i]? = some (.slice q (l.getD i []).length c) ∧ Cs w q vs ∧ F32s vs (l.getD i []) ∧ (l.getD i []).length ≤ c ∧ c ≤ maxLen := by
  intro i hi;obtain ⟨h1,h2⟩ := a5.get' i hi;obtain ⟨q,c,vs,g1,k1,k2,k3,k4⟩ := ja8.1 h2;have e : l.getD i [] = l[i] := by simp [hi]
  rw [e];refine ⟨q,c,vs,?_,k1,k2,k3,k4⟩;have := flat_get' (j := 0) a6 h1 (by decide);rw [Nat.mul_one,Nat.add_zero,g1] at this
  simpa using this
 refine ⟨p,c,css.flatten,rfl,⟨a2,fun i hi => ?_,rfl,?_⟩,a3,a4,fun i hi => ?_⟩
 · obtain ⟨q,c,vs,k1,k2,k3,k4,_⟩ := hget i hi;exact ⟨q,c,vs,k1,k2,k3,k4⟩
 · rw [flat_len' a6,Nat.mul_one,a5.length]
 · obtain ⟨q,c,vs,k1,k2,k3,k4,k5⟩ := hget i hi;exact Nat.le_trans k4 k5
theorem row_lt {b i k a : Nat} (hi : i < a) (hk : k < b) : i * b + k < a * b := by
 have := Nat.mul_le_mul_right b (show i + 1 ≤ a by omega);rw [Nat.add_mul,Nat.one_mul] at this;omega
abbrev shOp : Sh := .pr .int (.pr .int (.pr .int (.pr .flt (.pr jas .un))))
def t0 : jas.T := (0,0,[],())
def o0 : shOp.T := (0,0,0,0,t0,())
theorem layD_le {d : jaa.T} (h : layD d = true) : d.2.2.2.1.length ≤ 64 ∧ d.2.2.2.2.1.length ≤ 8 := by
 obtain ⟨k,i,o,a,b,u⟩ := d;unfold layD layB at h;dsimp only at h ⊢;simp only [Bool.and_eq_true,jaz,decide_eq_true_eq] at h;obtain ⟨h1,h2,h3,_,h5,h6⟩ := h;have hm := mul_bd h2 h3
 have key : ∀ (k i o : Int) (x y : Nat),0 ≤ i * o ∧ i * o ≤ 64 → 1 ≤ i ∧ i ≤ 8 → 1 ≤ o ∧ o ≤ 8 → (x : Int) = wCnt k i o → (y : Int) = bCnt k i o → x ≤ 64 ∧ y ≤ 8 := by
  intro k i o x y h1 h2 h3 h4 h5;unfold wCnt at h4;unfold bCnt at h5
  split at h4 <;> split at h5 <;> (try split at h4) <;> (try split at h5) <;> (try split at h4) <;> (try split at h5) <;> omega
 exact key k i o _ _ hm h2 h3 h5 h6
theorem modGo_allS : ∀ {p : Option Int} {l : List jaa.T},modGo p l = true → ∀ d ∈ l,layD d = true
 | _,[],_,d,hd => by simp at hd
 | p,x :: l,h,d,hd => by
   simp only [modGo,Bool.and_eq_true] at h;rcases List.mem_cons.1 hd with rfl | hd
   · exact h.1
   · exact modGo_allS h.2.2 d hd
theorem parF_small : ∀ {l : List jaa.T},(∀ d ∈ l,layD d = true) → (parF l).length ≤ 72 * l.length
 | [],_ => by simp [parF]
 | d :: l,h => by
   have h1 := layD_le (h d (by simp));have h2 := parF_small (l := l) fun x hx => h x (by simp [hx])
   have : parF (d :: l) = ((d.2.2.2.1 : List Nat) ++ d.2.2.2.2.1) ++ parF l := by simp [parF]
   rw [this,List.length_append,List.length_append,List.length_cons];omega
theorem modB_par {l : List jaa.T} (h : modB l = true) : (parF l).length ≤ 432 := by
 unfold modB at h;simp only [Bool.and_eq_true,decide_eq_true_eq] at h;have := parF_small (modGo_allS h.2.2);omega
end Go.Proofs.Ytmbckkcgiafagaa
namespace Go.Proofs.Ytmbckkcgiafagaa.lReduceLists
open Go.RowKit
section
variable {P : Program} {w : World} {ops : Array Oper} {rest : List Oper} {o1 o2 : Oper} {a : Act} {Q : Exit → Act → World → Prop}
theorem wl_idxloadW {t e b : Nat} {z : Value} [SlTy P t e 1 z b] [Cell1 P e] {x ix : Operand} {d : Tmp} (hw1 : Region.wanted o1 (yielded ops a.tmps) = true) (ho1 : o1.op = .indexAddr t x ix) (hw2 : ∀ y,Region.wanted o2 (yielded ops (a.put o1.dst y).tmps) = true) (ho2 : o2.op = .load e (.tmp d))
 {p : Option Addr} {n c : Nat} {k : IntKind} {i : Int} {j : Nat} (hd : ∀ y,(a.put o1.dst y).eval (.tmp d) = y)
 (hx : a.eval x = .slice p n c) (hi : a.eval ix = .int k i) (hij : i = j) {vs : List Value} (hc : Cs w p vs) (hvn : vs.length = n) (hn : j < n) {u : Value} (hu : vs[j]? = some u)
 (h : wpList P ops Q rest ((a.put o1.dst (.pointer (some (adr p j)))).put o2.dst u) w) : wpList P ops Q (o1 :: o2 :: rest) a w := by
 subst hij;have hp : p.isSome = true := hc.isS (by intro h0;rw [h0] at hu;simp at hu);refine wl_valueW hw1 (w' := w) (v := .pointer (some (adr p j))) (by simp [execOp,ho1,hx,hi,run_indexAt (P := P) (t := t) (s := 1) hp (show (0 : Int) ≤ (j : Int) by omega) (show (j : Int) < n by omega)]) ?_;exact wl_valueW (hw2 _) (by simp [execOp,ho2,hd,run_load1 (hc.cell _ _ hu)]) h
end
def len0 (D : List (List Nat)) : Nat := (D.getD 0 []).length
def evenB (D : List (List Nat)) : Bool := !anyTo (fun i => !decide ((D.getD i []).length = len0 D)) D.length
def okR (k : Int) (D : List (List Nat)) : Prop := inB k 0 2 = true ∧ 1 ≤ D.length ∧ D.length ≤ 8 ∧ len0 D ≤ 512 ∧ evenB D = true
instance (k : Int) (D : List (List Nat)) : Decidable (okR k D) := by unfold okR;infer_instance
end Go.Proofs.Ytmbckkcgiafagaa.lReduceLists
namespace Go.Proofs.Ytmbckkcgiafagaa
open Go.RowKit
def ParRet (w : World) (L : List jaa.T) (e : Ending) (w' : World) : Prop :=
 (modB L = false ∧ e = .returned (.tuple #[.slice none 0 0,.bool false]) ∧ Ext w w') ∨
 (modB L = true ∧ ∃ q c vs,e = .returned (.tuple #[.slice q (parF L).length c,.bool true]) ∧ w'.ownsRow w.heap.size 33 1 (.slice q (parF L).length c) (parF L).length vs ∧ F32s vs (parF L) ∧ Ext w w')
theorem ParamsOf_any (p : Option Addr) (n c : Nat) (L : List jaa.T) (css : List (List Value)) (w : World) (hL : Lays w p n css L) : Calls Try.prog 22 #[.agg #[.slice p n c]] w (ParRet w L) := by
 obtain ⟨W0,hW0⟩ : ∃ W0,W0 = w.alloc (.cells #[.slice p n c] 38) := ⟨_,rfl⟩;have E0 : Ext w W0 := by rw [hW0];exact Ext.alloc _ _
 have b0 : HB W0 w.heap.size #[.slice p n c] 38 := by rw [hW0];exact HB.new _ _ _
 have CM := hid (fun W (h : Ext w W) => ja4 p n c L css W hL.len hL.le (hL.cs.ext h) (hL.all.imp fun _ _ => Rep.ext h) hL.size hL.cnt);have PA := hid (fun W (h : Ext w W) hp => params_any p n c L css W hL.len hL.le (hL.cs.ext h) (hL.all.imp fun _ _ => Rep.ext h) hL.size hL.cnt hp);have hb0 := @modB_par L;have s0 : w.heap.size < W0.heap.size := by rw [hW0];simp
 clear hL;unfold ParRet;generalize modB L = m at *;go_enter Try.func22,Try.ntmps22;go_wp2_with fail;rw [← hW0];clear hW0;have g0 := b0.cell 0 rfl
 cases m
 · go_wp2_with fail
   refine (CM.out W0 E0).mono ?_;rintro e w1 ⟨rfl,e1⟩
   go_wp2;go_ret2;exact ⟨rfl,E0.trans e1⟩
 · have hp := hb0 rfl
   go_wp2_with fail;refine (CM.out W0 E0).mono ?_;rintro e w1 ⟨rfl,e1⟩
   have g1 := (b0.ext e1).cell 0 rfl;go_wp2_with fail;refine (PA.out w1 (E0.trans e1) (by omega)).mono ?_;rintro e w2 ⟨q,k,vs,rfl,ho,hf,e2⟩
   have z1 := e1.size;go_wp2;go_ret2;exact ⟨q,k,rfl,vs,jbe ho (by omega),hf,(E0.trans e1).trans e2⟩
theorem parF_few {L : List jaa.T} (h : ModOk L) : (parF L).length ≤ 432 := by
 have key : ∀ (M : List jaa.T),(∀ d ∈ M,(d.2.2.2.1 : List Nat).length ≤ 64 ∧ (d.2.2.2.2.1 : List Nat).length ≤ 8) → (parF M).length ≤ 72 * M.length := by
  intro M
  induction M with
  | nil => intro _;simp [parF]
  | cons d M ih =>
    intro hm;have h1 := hm d (by simp);have h2 := ih fun d hd => hm d (by simp [hd])
    have e : parF (d :: M) = (d.2.2.2.1 ++ d.2.2.2.2.1) ++ parF M := by simp [parF]
    rw [e,List.length_append,List.length_append,List.length_cons];omega
 have h6 := h.few
 have := key L fun d hd => by
  obtain ⟨i,hi,rfl⟩ := List.mem_iff_getElem.1 hd;have hl := h.lay i hi;unfold layD layB at hl;simp only [Bool.and_eq_true,decide_eq_true_eq,jaz,Bool.or_eq_true] at hl;obtain ⟨h1,h2,h3,h4,h5,h6⟩ := hl;have hm := mul_bd h2 h3;unfold wCnt at h5;unfold bCnt at h6;refine ⟨?_,?_⟩
  · split at h5
    · omega
    · split at h5
      · omega
      · split at h5 <;> omega
  · split at h6
    · omega
    · split at h6
      · omega
      · split at h6 <;> omega
 omega
end Go.Proofs.Ytmbckkcgiafagaa
namespace Go.Proofs.Ytmbckkcgiafagaa.lStagesOf
open Go.RowKit
def res (d : ja6.T) (x : List Nat) : List (List Nat) × Bool := if modB d.1 = true ∧ (x.length : Int) = inL d.1 0 then (stF d.1 x d.1.length,true) else ([],false)
theorem _root_.Go.Proofs.Ytmbckkcgiafagaa.GrowOwn.base {w : World} {B B' : Nat} {te : TypeId} {E : Sh} {v : Value} {l : List E.T} {css : List (List Value)} {bss : List (List Nat)} (h : GrowOwn w B te E v l css bss) (hB : B' ≤ B) : GrowOwn w B' te E v l css bss :=
 ⟨jbe h.row hB,h.els,h.nodup,fun b hb => ⟨Nat.le_trans hB (h.lo b hb).1,(h.lo b hb).2⟩⟩
theorem out_grow {w w' : World} {v : Value} {l : List (List Nat)} {css : List (List Value)} {bss : List (List Nat)} {e : Ending} (h : GrowOwn w' w.heap.size 25 (.sl .flt) v l css bss) (he : e = .returned (.tuple #[v,.bool true])) (hx : Ext w w') : OutOk w (.sl (.sl .flt)) (l,true) e w' := by
 obtain ⟨bs,h1,h2,h3⟩ := h.own;exact ⟨[v],bs,he,h1,h2,h3,hx⟩
theorem impl_ok (cs0 : List Value) (D0 : ja6.T) (cs1 : List Value) (D1 : List Nat) (w : World) (h0 : Rep w ja6 cs0 D0) (h1 : Rep w (.sl .flt) cs1 D1) (f0 : Fit ja6 D0) (_ : Fit (.sl .flt) D1) : Calls Try.prog 37 #[ofCs ja6 cs0,ofCs (.sl .flt) cs1] w (OutOk w (.sl (.sl .flt)) (res D0 D1)) := by
 obtain ⟨L0,u0⟩ := D0;obtain ⟨c0,c1,rfl,k0,rfl⟩ := h0;obtain ⟨p,c,rfl,_⟩ := rep_val k0;obtain ⟨p',c',css,he0,L⟩ := lays_of k0 f0.1
 cases he0
 obtain ⟨q,cq,us,rfl,hp,hf,hc,_⟩ := ja8.1 h1;simp only [ofCs,Sh.agg,List.headD_cons,Bool.false_eq_true,if_false,if_true,List.append_nil];have A := hid (fun W (h : Ext w W) => ja4 p L0.length c L0 css W L.len L.le (L.cs.ext h) (L.all.imp fun _ _ => Rep.ext h) L.size L.cnt);have B := hid (fun W (h : Ext w W) h1 => in_any p L0.length c css L0 W (L.ext h) h1);have C := hid (fun W (h : Ext w W) hM hx => stages_any p q L0.length c D1.length cq css L0 D1 W (L.ext h) hM (h1.ext h) hx);unfold res;dsimp only;generalize hL : L0.length = n at *;generalize hm : D1.length = m at *;have HL := hid hL;have HM := hid hm;clear h1 k0 L hp hf hc hL hm
 cases hv : modB L0
 · rw [if_neg (by simp)]
   rw [hv] at A;clear hv B C;go_enter Try.func37,Try.ntmps37;go_wp2_with fail;refine (A.out _ (Ext.alloc _ _)).mono ?_;rintro e w1 ⟨rfl,e1⟩
   go_wp2;go_ret2;exact outOk_no rfl ((Ext.alloc _ _).trans e1)
 · have hM := modOk hv
   have hn : L0.length = n := HL.out;have h1n : 1 ≤ n := by rw [← hn];exact hM.pos
   have B2 := hid (fun W h => B.out W h h1n)
   by_cases hx : (m : Int) = inL L0 0
   · rw [if_pos ⟨rfl,hx⟩]
     rw [hv] at A;have C2 := hid (fun W h => C.out W h hM hx);have HX := hid hx;rw [← hx] at B2;clear hv B C hn hM hx;go_enter Try.func37,Try.ntmps37;go_wp2_with fail;refine (A.out _ (Ext.alloc _ _)).mono ?_;rintro e w1 ⟨rfl,e1⟩
     have x1 := e1.cellOf (b := w.heap.size) (by simp);have he1 := (Ext.alloc w (.cells #[.slice p n c] 38)).trans e1;go_wp2_with fail;refine (B2.out _ he1).mono ?_;rintro e w2 ⟨rfl,e2⟩
     have x2 := (e1.trans e2).cellOf (b := w.heap.size) (by simp);have he2 := he1.trans e2;go_wp2_with fail;refine (C2.out _ he2).mono ?_;rintro e w3 ⟨v,cs,bss,rfl,hg,e3⟩
     go_wp2;go_ret2;exact out_grow (hg.base he2.size) rfl (he2.trans e3)
   · rw [if_neg (fun h => hx h.2)]
     rw [hv] at A;have hx2 : ((m : Int) != inL L0 0) = true := bne_t hx;clear hv B C hM hx;go_enter Try.func37,Try.ntmps37;go_wp2_with fail;refine (A.out _ (Ext.alloc _ _)).mono ?_;rintro e w1 ⟨rfl,e1⟩
     have x1 := e1.cellOf (b := w.heap.size) (by simp);have he1 := (Ext.alloc w (.cells #[.slice p n c] 38)).trans e1;go_wp2_with fail;refine (B2.out _ he1).mono ?_;rintro e w2 ⟨rfl,e2⟩
     go_wp2;go_ret2;exact outOk_no rfl (he1.trans e2)
end Go.Proofs.Ytmbckkcgiafagaa.lStagesOf
namespace Go.Proofs.Ytmbckkcgiafagaa.lRunLayer
open Go.RowKit
def res (d : jaa.T) (xs : List Nat) : List Nat × Bool := if layD d = true ∧ (xs.length : Int) = d.2.1 then (layF d xs,true) else ([],false)
theorem impl_ok (cs0 : List Value) (D0 : jaa.T) (cs1 : List Value) (D1 : List Nat) (w : World) (h0 : Rep w jaa cs0 D0) (h1 : Rep w (.sl .flt) cs1 D1) : Calls Try.prog 38 #[ofCs jaa cs0,ofCs (.sl .flt) cs1] w (OutOk w (.sl .flt) (res D0 D1)) := by
 have hl := hid h0.size;have ho := hid h0.one;obtain ⟨p,c,us,rfl,hp,hf,hc,_⟩ := ja8.1 h1;have A := hid (fun w1 (e1 : Ext w w1) => valid_at (h0.ext e1));have B := hid (fun w1 (e1 : Ext w w1) hv hx => run_lay cs0 D0 p _ c us D1 w1 (h0.ext e1) hv rfl hx (hp.ext e1) hf);have hcs : cs0[1]? = some (.int .i64 D0.2.1) := by obtain ⟨pw,cw,pb,cb,rfl,_⟩ := lay_vals h0;rfl
 unfold res;generalize hL : D1.length = n at *;have HL := hid hL;simp only [ofCs,Sh.agg,List.headD_cons,Bool.false_eq_true,if_false,if_true];have H1 := hid hcs;clear h0 h1 hcs hL
 by_cases hv : layD D0 = true
 · by_cases hx : (n : Int) = D0.2.1
   · rw [if_pos ⟨hv,hx⟩]
     have B2 := hid (fun w1 e1 => B.out w1 e1 hv hx);rw [hv] at A;have HX := hid hx;clear hx B hv;go_enter Try.func38,Try.ntmps38;go_wp2_with (first | ((with_reducible show gx12);refine wl_box (s := jaa) (cs := cs0) rfl rfl rfl hl.out ho.out ?_;intro b v e1 hlo c1) | ((with_reducible show gx13);refine wl_ldA (s := jaa) (cs := cs0) rfl rfl rfl c1 hl.out ?_;simp only [ofCs,Sh.agg,if_true]));refine (A.out _ e1).mono ?_;rintro e w1 ⟨rfl,e2⟩
     have c2 := c1.ext e2;have g1 := c2.cell 1 _ H1.out;simp only [jak] at g1;rw [← HX.out] at g1;go_wp2_with ((with_reducible show gx13);refine wl_ldA (s := jaa) (cs := cs0) rfl rfl rfl c2 hl.out ?_;simp only [ofCs,Sh.agg,if_true]);refine (B2.out _ (e1.trans e2)).mono ?_;rintro e w3 ⟨q,cq,vs,rfl,own0,HF,he⟩
     go_wp2;go_ret2;exact out_flts (jbe own0 (e1.trans e2).size) HF rfl ((e1.trans e2).trans he)
   · rw [if_neg (fun h => hx h.2)]
     rw [hv] at A;have hx2 : ((n : Int) != D0.2.1) = true := bne_t hx;clear B hv hx;go_enter Try.func38,Try.ntmps38;go_wp2_with (first | ((with_reducible show gx12);refine wl_box (s := jaa) (cs := cs0) rfl rfl rfl hl.out ho.out ?_;intro b v e1 hlo c1) | ((with_reducible show gx13);refine wl_ldA (s := jaa) (cs := cs0) rfl rfl rfl c1 hl.out ?_;simp only [ofCs,Sh.agg,if_true]));refine (A.out _ e1).mono ?_;rintro e w1 ⟨rfl,e2⟩
     have c2 := c1.ext e2;have g1 := c2.cell 1 _ H1.out;simp only [jak] at g1;go_wp2;go_ret2;exact outOk_no rfl (e1.trans e2)
 · rw [if_neg (fun h => hv h.1)]
   have hv : layD D0 = false := by simpa using hv
   rw [hv] at A;clear B hv;go_enter Try.func38,Try.ntmps38;go_wp2_with (first | ((with_reducible show gx12);refine wl_box (s := jaa) (cs := cs0) rfl rfl rfl hl.out ho.out ?_;intro b v e1 hlo c1) | ((with_reducible show gx13);refine wl_ldA (s := jaa) (cs := cs0) rfl rfl rfl c1 hl.out ?_;simp only [ofCs,Sh.agg,if_true]));refine (A.out _ e1).mono ?_;rintro e w1 ⟨rfl,e2⟩
   go_wp2;go_ret2;exact outOk_no rfl (e1.trans e2)
end Go.Proofs.Ytmbckkcgiafagaa.lRunLayer
namespace Go.Proofs.Ytmbckkcgiafagaa
open Go.RowKit
theorem CountParams_yes (p : Option Addr) (n c : Nat) (L : List jaa.T) (css : List (List Value)) (w : World) (hL : Lays w p n css L) (hm : modB L = true) : Calls Try.prog 33 #[.agg #[.slice p n c]] w fun e w' => e = .returned (.tuple #[.int .i64 ((parF L).length : Int),.bool true]) ∧ Ext w w' := by
 obtain ⟨W0,hW0⟩ : ∃ W0,W0 = w.alloc (.cells #[.slice p n c] 38) := ⟨_,rfl⟩;have E0 : Ext w W0 := by rw [hW0];exact Ext.alloc _ _
 have b0 : HB W0 w.heap.size #[.slice p n c] 38 := by rw [hW0];exact HB.new _ _ _
 have CM := hid (fun W (h : Ext w W) => ja4 p n c L css W hL.len hL.le (hL.cs.ext h) (hL.all.imp fun _ _ => Rep.ext h) hL.size hL.cnt);have hp := parF_few (modOk hm);have PA := hid (fun W (h : Ext w W) => params_any p n c L css W hL.len hL.le (hL.cs.ext h) (hL.all.imp fun _ _ => Rep.ext h) hL.size hL.cnt (by omega));rw [hm] at CM;clear hL hm;generalize hP : (parF L).length = P at *;have HP := hid hP;clear hP;go_enter Try.func33,Try.ntmps33;go_wp2_with fail;rw [← hW0];clear hW0;have g0 := b0.cell 0 rfl;go_wp2_with fail;refine (CM.out W0 E0).mono ?_;rintro e w1 ⟨rfl,e1⟩
 have g1 := (b0.ext e1).cell 0 rfl;go_wp2_with fail;refine (PA.out w1 (E0.trans e1)).mono ?_;rintro e w2 ⟨q,k,vs,rfl,_,_,e2⟩
 have hPo := HP.out
 try rw [hPo]
 go_wp2;go_ret2;exact ⟨rfl,(E0.trans e1).trans e2⟩
theorem WithParams_yes (p pl : Option Addr) (n c nl cl : Nat) (css : List (List Value)) (L : List jaa.T) (us : List Value) (xs : List Nat) (w : World) (hL : Lays w p n css L) (hm : modB L = true)
 (hx : xs.length = nl) (hxl : nl = (parF L).length) (hcl : nl ≤ cl) (hp0 : Cs w pl us) (hf : F32s us xs) :
 Calls Try.prog 34 #[.agg #[.slice p n c],.slice pl nl cl] w fun e w' => ∃ q k,e = .returned (.tuple #[.agg #[.slice q n k],.bool true]) ∧ IsOwnY [41,33] w.heap.size (.sl jaa) w' [.slice q n k] (wthF L xs n) ∧ Ext w w' := by
 obtain ⟨W0,hW0⟩ : ∃ W0,W0 = (w.alloc (.cells #[.slice p n c] 38)).alloc (.cells #[.slice none 0 0] 38) := ⟨_,rfl⟩;obtain ⟨E0,s0,b0,b1⟩ := box2 hW0;have b0 : HB W0 w.heap.size #[.slice p n c] 38 := b0;have b1 : HB W0 (w.heap.size + 1) #[.slice none 0 0] 38 := b1;have hMO := modOk hm;have hpf := parF_few hMO;have CM := hid (fun W (h : Ext w W) => ja4 p n c L css W hL.len hL.le (hL.cs.ext h) (hL.all.imp fun _ _ => Rep.ext h) hL.size hL.cnt);have PA := hid (fun W (h : Ext w W) => params_any p n c L css W hL.len hL.le (hL.cs.ext h) (hL.all.imp fun _ _ => Rep.ext h) hL.size hL.cnt (by omega));have WP := hid (fun W (h : Ext w W) => withParams_any p pl n c nl cl css L us xs W (hL.ext h) (small_of hMO) hx hxl hcl (hp0.ext h) hf);rw [hm] at CM;rw [← hxl] at hpf;have HXL := hid hxl;have hnn := bne_f (rfl : (nl : Int) = (nl : Int));clear hL hm hMO hx hxl hp0 hf;go_enter Try.func34,Try.ntmps34;go_wp2_with fail;rw [← hW0];clear hW0;have g0 := b0.cell 0 rfl;go_wp2_with fail;refine (CM.out W0 E0).mono ?_;rintro e w1 ⟨rfl,e1⟩
 have g1 := (b0.ext e1).cell 0 rfl;go_wp2_with fail;refine (PA.out w1 (E0.trans e1)).mono ?_;rintro e w2 ⟨q,k,vs,rfl,_,_,e2⟩
 rw [← HXL.out];have g2 := ((b0.ext e1).ext e2).cell 0 rfl;have z1 := e1.size;have z2 := e2.size;go_wp2_with fail;refine (WP.out w2 ((E0.trans e1).trans e2)).mono ?_;rintro e w3 ⟨q3,k3,rfl,ho,e3⟩
 have B1 := ((b1.ext e1).ext e2).ext e3;have g3 := B1.cell 0 rfl;have f3 := B1.froz 0;go_wp2;refine bodyPost_ret (v := .tuple #[.agg #[.slice q3 n k3],.bool true]) (by simp [results,Try.results34,go_sem,g3,f3]) rfl ?_;have ch := jae w3 (w.heap.size + 1) 0 (.slice q3 n k3);exact ⟨q3,k3,rfl,(IsOwnY.chg ho ch (fun b hb => by have hb : b = _ := hb;omega)).base (by omega),(((E0.trans e1).trans e2).trans e3).chg ch (fun b hb => by have hb : b = _ := hb;omega)⟩
theorem RunModel_yes (q tq : Option Addr) (n c R I O tc : Nat) (L : List jaa.T) (xs : List Nat) (w : World) (hm : modB L = true) (hn : L.length = n) (hf : Fit (.sl jaa) L) (hr : Rep w (.sl jaa) [.slice q n c] L) (hI : (I : Int) = inL L 0) (hO : (O : Int) = outL L) (hR : 1 ≤ R ∧ R ≤ 16) (hI1 : 1 ≤ I ∧ I ≤ 16) (hx : xs.length = R * I) (hxb : ∀ x ∈ xs,x < 4294967296) (ht : Rep w (.sl .flt) [.slice tq (R * I) tc] xs) :
 Calls Try.prog 28 #[.agg #[.slice q n c],.agg #[.int .i64 R,.int .i64 I,.slice tq (R * I) tc]] w fun e w' => ∃ (oq : Option Addr) (oc : Nat) (us : List Value),e = .returned (.tuple #[.agg #[.int .i64 R,.int .i64 O,.slice oq (R * O) oc],.bool true]) ∧ (rowsM L xs I R).length = R * O ∧ Cs w' oq us ∧ F32s us (rowsM L xs I R) ∧ R * O ≤ oc ∧ oc ≤ maxLen ∧ Ext w w' := by
 subst hn;have hMO := modOk hm
 have htb : tenB (R : Int) (I : Int) xs.length = true := by
  unfold tenB;rw [jaz.2 (show (1 : Int) ≤ R ∧ (R : Int) ≤ 16 by omega),jaz.2 (show (1 : Int) ≤ I ∧ (I : Int) ≤ 16 by omega),hx];simp
 have hres : lRunModel.res (L,()) ((R : Int),(I : Int),xs,()) = (((R : Int),(O : Int),rowsM L xs I R,()),true) := by
  unfold lRunModel.res;rw [if_pos ⟨hm,htb,hI⟩];show (((R : Int),outL L,rowsM L xs (I : Int).toNat (R : Int).toNat,()),true) = _;rw [← hO,Int.toNat_natCast,Int.toNat_natCast]
 have f0 : Fit ja6 (L,()) := ⟨hf,trivial⟩
 have fi : ∀ z : Nat,z ≤ 100 → Fit .int (z : Int) := fun z hz => by
  have : -9223372036854775808 ≤ (z : Int) ∧ (z : Int) ≤ 9223372036854775807 := by omega
  exact this
 have f1 : Fit jas ((R : Int),(I : Int),xs,()) := ⟨fi R (by omega),fi I (by omega),hxb,trivial⟩;have hrep1 : Rep w jas [.int .i64 R,.int .i64 I,.slice tq (R * I) tc] ((R : Int),(I : Int),xs,()) := ⟨[.int .i64 R],_,rfl,rfl,⟨[.int .i64 I],_,rfl,rfl,⟨[.slice tq (R * I) tc],[],rfl,ht,rfl⟩⟩⟩;have CC := lRunModel.impl_ok [.slice q L.length c] (L,()) [.int .i64 R,.int .i64 I,.slice tq (R * I) tc] ((R : Int),(I : Int),xs,()) w ⟨[.slice q L.length c],[],rfl,hr,rfl⟩ hrep1 f0 f1;have hl := rowsM_len (xs := xs) (c := I) hMO hI hO hx R (Nat.le_refl _);simp only [hres,ofCs,Sh.agg,if_true,List.append_nil,List.headD_cons,Bool.false_eq_true,if_false] at CC;refine CC.mono ?_;rintro e w' ⟨cs,bs,rfl,o,_,_,_,e1⟩
 obtain ⟨p,c',us,h1,h2,h3,h4,h5⟩ := ten_vals o.rep;subst h1;dsimp only at h2 h3 h4;rw [hl] at h4;exact ⟨p,c',us,by simp only [ofCs,Sh.agg,if_true,hl],hl,h2,h3,h4,h5,e1⟩
theorem StagesOf_yes (q tq : Option Addr) (n c I tc : Nat) (L : List jaa.T) (xs : List Nat) (w : World) (hm : modB L = true) (hn : L.length = n) (hf : Fit (.sl jaa) L) (hr : Rep w (.sl jaa) [.slice q n c] L) (hI : (I : Int) = inL L 0) (hx : xs.length = I) (hxb : ∀ x ∈ xs,x < 4294967296) (ht : Rep w (.sl .flt) [.slice tq I tc] xs) :
 Calls Try.prog 37 #[.agg #[.slice q n c],.slice tq I tc] w fun e w' => ∃ (p : Option Addr) (k : Nat) (us : List Value),e = .returned (.tuple #[.slice p n k,.bool true]) ∧ Fls w' p n us (stF L xs n) ∧ Ext w w' := by
 subst hn
 have hres : lStagesOf.res (L,()) xs = (stF L xs L.length,true) := by
  unfold lStagesOf.res;rw [if_pos ⟨hm,by rw [hx];exact hI⟩]
 have CC := lStagesOf.impl_ok [.slice q L.length c] (L,()) [.slice tq I tc] xs w ⟨[.slice q L.length c],[],rfl,hr,rfl⟩ ht ⟨hf,trivial⟩ hxb;simp only [hres,ofCs,Sh.agg,if_true,List.append_nil,List.headD_cons,Bool.false_eq_true,if_false] at CC;refine CC.mono ?_;rintro e w' ⟨cs,bs,rfl,o,_,_,e1⟩
 obtain ⟨p0,c0,rfl,_⟩ := rep_val o.rep;obtain ⟨p,c',us,h1,F,_⟩ := fls_of o.rep;rw [stF_len] at F h1;refine ⟨p,c',us,?_,F,e1⟩;have h2 : Value.slice p0 (List.length (stF L xs L.length,true).fst) c0 = .slice p L.length c' := by rw [← h1,stF_len]
 rw [h2];rfl
theorem RunLayer_yes (ce : List Value) (d : jaa.T) (tq : Option Addr) (I tc : Nat) (xs : List Nat) (w : World) (hd : layD d = true) (hr : Rep w jaa ce d) (hI : (I : Int) = d.2.1) (hx : xs.length = I) (ht : Rep w (.sl .flt) [.slice tq I tc] xs) :
 Calls Try.prog 38 #[ofCs jaa ce,.slice tq I tc] w fun e w' => ∃ (p : Option Addr) (k : Nat) (us : List Value),e = .returned (.tuple #[.slice p (layF d xs).length k,.bool true]) ∧ Cs w' p us ∧ F32s us (layF d xs) ∧ (layF d xs).length ≤ k ∧ k ≤ maxLen ∧ Ext w w' := by
 have hres : lRunLayer.res d xs = (layF d xs,true) := by
  unfold lRunLayer.res;rw [if_pos ⟨hd,by rw [hx];exact hI⟩]
 have CC := lRunLayer.impl_ok ce d [.slice tq I tc] xs w hr ht;rw [hres] at CC;refine CC.mono ?_;rintro e w' ⟨cs,bs,rfl,o,_,_,e1⟩
 obtain ⟨p,c',us,h1,h2,h3,h4,h5⟩ := ja8.1 o.rep;subst h1;exact ⟨p,c',us,rfl,h2,h3,h4,h5,e1⟩
end Go.Proofs.Ytmbckkcgiafagaa
