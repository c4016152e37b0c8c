/- A part of the proofs: ShSt, ParO, WkQ, Fdt, SameE, RedOk, WthQ, HModelS, Syn2, Syn3, SynQ, HRequest, Req. -/
import Derived.Test.YtmbckkcgiafagaaZ34FnWork
import Derived.Test.YtmbckkcgiafagaaZ07FnWork
import Derived.Test.YtmbckkcgiafagaaZ33FnWork
import Derived.Test.YtmbckkcgiafagaaZ03FnWork
import Derived.Test.YtmbckkcgiafagaaZ08FnWork
import Derived.Test.YtmbckkcgiafagaaZ02FnWork
import Derived.Test.YtmbckkcgiafagaaZ13FnWork
import Derived.Test.YtmbckkcgiafagaaZ27FnWork
import Derived.Test.YtmbckkcgiafagaaZ06FnWork
import Derived.Test.YtmbckkcgiafagaaZ09FnWork
import Derived.Test.YtmbckkcgiafagaaZ10FnWork
set_option linter.unusedSimpArgs false
set_option linter.unusedVariables false
set_option maxRecDepth 100000
set_option maxHeartbeats 16000000
namespace Go.Proofs.Ytmbckkcgiafagaa
open Go.RowKit
def stepX (P G : List Nat) (z : Nat) : List Nat := ntab P.length fun i => fop .sub .f32 (P.getD i 0) (fop .mul .f32 z (G.getD i 0))
def stepU (P G : List Nat) (z i : Nat) : List Nat := ntab P.length fun j => if j < i then fop .sub .f32 (P.getD j 0) (fop .mul .f32 z (G.getD j 0)) else P.getD j 0
theorem stepU_zero (P G : List Nat) (z : Nat) : stepU P G z 0 = P := by
 unfold stepU;simp only [Nat.not_lt_zero,if_false];exact ntab_self P
theorem stepU_last (P G : List Nat) (z : Nat) : stepU P G z P.length = stepX P G z := ntab_congr fun i hi => if_pos hi
theorem stepX_at {P G : List Nat} {z i : Nat} (h : i < P.length) : (stepX P G z).getD i 0 = fop .sub .f32 (P.getD i 0) (fop .mul .f32 z (G.getD i 0)) := ntab_get _ h
theorem stepU_len (P G : List Nat) (z i : Nat) : (stepU P G z i).length = P.length := jah _ _
theorem stepX_len (P G : List Nat) (z : Nat) : (stepX P G z).length = P.length := jah _ _
theorem stepU_at {P G : List Nat} {z i : Nat} (h : i < P.length) : (stepU P G z i).getD i 0 = P.getD i 0 := by
 unfold stepU;rw [ntab_get _ h,if_neg (by omega)]
theorem stepU_get {P G : List Nat} {z i j : Nat} (h : j < (stepU P G z i).length) : (stepU P G z i)[j] = if j < i then fop .sub .f32 (P.getD j 0) (fop .mul .f32 z (G.getD j 0)) else P.getD j 0 := by
 simp only [stepU,ntab,List.getElem_map,List.getElem_range]
theorem stepU_succ {P G : List Nat} {z i : Nat} (h : i < P.length) : stepU P G z (i + 1) = (stepU P G z i).set i (fop .sub .f32 (P.getD i 0) (fop .mul .f32 z (G.getD i 0))) := by
 refine List.ext_getElem (by rw [List.length_set,stepU_len,stepU_len]) fun j h1 h2 => ?_
 rw [List.getElem_set,stepU_get h1]
 by_cases hj : i = j
 · subst hj;rw [if_pos (Nat.lt_succ_self _),if_pos rfl]
 · rw [if_neg hj,stepU_get (by rw [List.length_set] at h2;exact h2)]
   by_cases hlt : j < i
   · rw [if_pos (by omega),if_pos hlt]
   · rw [if_neg (by omega),if_neg hlt]
section
variable {P : Program} {w : World} {ops : Array Oper} {rest : List Oper} {o : Oper} {a : Act} {Q : Exit → Act → World → Prop}
theorem wl_storeP {e : TypeId} [Cell1 P e] {x y : Operand} (hg : o.guard = none) (ho : o.op = .store e x y) {p : Option Addr} {n c B j : Nat} {u : Value} (hx : a.eval x = .pointer (some (adr p j))) (hy : a.eval y = u) (hu1 : u.oneCell' = true) {vs : List Value} (hc : w.ownsRow B e 1 (.slice p n c) n vs) (hn : j < n)
 (h : ∀ w',w'.ownsRow B e 1 (.slice p n c) n (vs.set j u) → w.grownBy w' (Value.slice p n c).ownBlock → wpList P ops Q rest (a.put o.dst undef) w') : wpList P ops Q (o :: rest) a w := by
 obtain ⟨g,rfl⟩ := own_some hc (by omega);have hlen : vs.length = n := by have := hc.1;omega
 have hcell : w.cell? (adr (some ⟨g,0,none⟩) j) = some (vs[j]'(by omega)) := by
  rw [jbi,hc.cellAt _ (by omega)];simp [hlen,hn]
 have hfr : w.frozen? (adr (some ⟨g,0,none⟩) j) = false := by rw [jbi];exact hc.frozenAt _
 have hst := hc.stored j u;rw [← jbi] at hst;refine ja6 hg (w' := w.setCell (adr (some ⟨g,0,none⟩) j) u) ?_ (h _ hst.1 hst.2);simp [execOp,ho,hx,hy,run_store1 hcell hfr hu1]
end
theorem F32s.setW {us : List Value} {xs : List Nat} {i b v : Nat} (h : F32s us xs) (hb : cn .f32 b = v) : F32s (us.set i (.float .f32 b)) (xs.set i v) := by
 refine ⟨by rw [List.length_set,List.length_set,h.1],fun j hj => ?_⟩;rw [List.length_set] at hj;obtain ⟨c,h1,h2⟩ := h.2 j hj
 by_cases hi : i = j
 · subst hi
   refine ⟨b,by rw [List.getElem?_set_self (by rw [h.1];exact hj)],?_⟩;rw [hb,List.getD_eq_getElem?_getD,List.getElem?_set_self hj];rfl
 · refine ⟨c,by rw [List.getElem?_set_ne hi];exact h1,?_⟩
   rw [h2,List.getD_eq_getElem?_getD,List.getD_eq_getElem?_getD,List.getElem?_set_ne hi]
def StRet (w : World) (n : Nat) (L : List jab.T) (r k : Int) (xs : List Nat) (r2 k2 : Int) (ys : List Nat) (wk kd : Int) (z : Nat) (e : Ending) (w' : World) : Prop :=
 (sgB L r k xs.length r2 k2 ys.length wk kd = false ∧ e = .returned (.tuple #[.agg #[.slice none 0 0],.bool false])) ∨
 (sgB L r k xs.length r2 k2 ys.length wk kd = true ∧ ∃ (q : Option Addr) (k' : Nat),e = .returned (.tuple #[.agg #[.slice q n k'],.bool true]) ∧ jca [41,33] w.heap.size (.sl jab) w' [.slice q n k'] (wthF L (stepX (parF L) (sgList L r k xs k2 ys wk kd) z) n))
theorem SharedStep_any (p q q2 : Option Addr) (n c nx cx ny cy : Nat) (r k r2 k2 wk kd : Int) (css : List (List Value)) (L : List jab.T) (xs ys : List Nat) (us vs : List Value) (zb z : Nat) (w : World) (hL : Lays w p n css L) (hxl : xs.length = nx) (hyl : ys.length = ny) (hnx : nx ≤ maxLen) (hny : ny ≤ maxLen) (hcx : nx ≤ cx) (hcy : ny ≤ cy) (hqx : Cs w q us) (hfx : F32s us xs) (hqy : Cs w q2 vs) (hfy : F32s vs ys) (hz : cn .f32 zb = z) :
 Calls Try.prog 21 #[.agg #[.slice p n c],.agg #[.int .i64 r,.int .i64 k,.slice q nx cx],.agg #[.int .i64 r2,.int .i64 k2,.slice q2 ny cy],.int .i64 wk,.int .i64 kd,.float .f32 zb] w fun e w' => StRet w n L r k xs r2 k2 ys wk kd z e w' ∧ Ext w w' := by
 obtain ⟨W0,hW0⟩ : ∃ W0,W0 = (((w.alloc (.cells #[.slice p n c] 38)).alloc (.cells #[.int .i64 r,.int .i64 k,.slice q nx cx] 27)).alloc (.cells #[.int .i64 r2,.int .i64 k2,.slice q2 ny cy] 27)).alloc (.cells #[.slice none 0 0] 38) := ⟨_,rfl⟩;obtain ⟨E0,s0,b0,b1,b2,b3⟩ := box4 hW0;have b0 : HB W0 w.heap.size #[.slice p n c] 38 := b0;have b3 : HB W0 (w.heap.size + 1 + 1 + 1) #[.slice none 0 0] 38 := b3;have K := hid (SharedGradients_any p q q2 n c nx cx ny cy r k r2 k2 wk kd css L xs ys us vs W0 (hL.ext E0) hxl hyl hnx hny hcx hcy (hqx.ext E0) hfx (hqy.ext E0) hfy);have PA := hid (fun W (h : Ext w W) hp => params_any p n c L css W hL.len hL.le (hL.cs.ext h) (hL.all.imp fun _ _ => Rep.ext h) hL.size hL.cnt hp);have WP := hid (fun W (h : Ext w W) hS pl nl cl us xs => withParams_any p pl n c nl cl css L us xs W (hL.ext h) hS);have HZ := hid hz;have hb3 := b3.lt;clear b1 b2 hL hxl hyl hqx hfx hqy hfy hz;go_enter Try.func21,Try.ntmps21;go_wp2_with fail;rw [← hW0];clear hW0;refine K.out.mono ?_;rintro e w1 ⟨⟨hg,rfl⟩ | ⟨hg,q5,c5,b5,us5,rfl,hl,ho,hf5,_⟩,e1⟩
 · have HG := hid hg
   clear hg K PA WP b0;have g1 := (b3.ext e1).cell 0 rfl;have g2 := (b3.ext e1).froz 0;go_wp2;refine bodyPost_ret (v := .tuple #[.agg #[.slice none 0 0],.bool false]) (by simp [results,Try.results21,go_sem,g1,g2]) rfl ?_;have ch := ja3 w1 (w.heap.size + 1 + 1 + 1) 0 (.slice none 0 0);exact ⟨Or.inl ⟨HG.out,rfl⟩,(E0.trans e1).chg ch (fun b hb => by omega)⟩
 · have hgr : jcr L r k xs.length r2 k2 ys.length = true := by
    have h := hg;unfold sgB at h;rw [Bool.and_eq_true] at h;exact (wgB_nat h.1).1
   have hm : ModOk L := by
    have h := (gradB_ten hgr).2.2.2.1;unfold headB at h;rw [Bool.and_eq_true] at h;exact modOk h.1
   have hS := small_of hm;have hNPs := parF_gr hgr;obtain ⟨PF,hPF⟩ : ∃ x,parF L = x := ⟨_,rfl⟩;obtain ⟨G,hG⟩ : ∃ x,sgList L r k xs k2 ys wk kd = x := ⟨_,rfl⟩;rw [hPF] at hl ho hNPs ⊢;rw [hG] at hl hf5;have P1 := PA.out w1 (E0.trans e1) (by rw [hPF];omega);rw [hPF] at P1;obtain ⟨NP,hNP⟩ : ∃ x,PF.length = x := ⟨_,rfl⟩;rw [hNP] at hl ho hNPs ⊢;have HNP := hid hNP;have HPF := hid hPF;have HG := hid hG;have HGG := hid hg;have HGL := hid hl;have HF5 := hid hf5;have P1 := hid P1;have cs5 := jbb ho;have y0 := (b0.ext e1).cell 0 rfl;clear hg hgr hm hPF hG hNP hl hf5 ho K PA;go_wp2_with fail;refine P1.out.mono ?_;intro e w2 h2;obtain ⟨q6,c6,vs6,rfl,o6,f6,e2⟩ := h2;rw [HNP.out] at o6 ⊢;have F6 := hid f6;clear f6 P1;have hb6 := e1.size;go_wp2;go_loopw [36] (fun iv wr => ∃ (i : Nat) (vs' : List Value),i ≤ NP ∧ iv = .int .i64 (i : Int) ∧ wr.ownsRow w1.heap.size 33 1 (.slice q6 NP c6) NP vs' ∧ Hid (F32s vs' (stepU PF G z i)) ∧ Ext w1 wr) (fun iv _ => NP - (intOf iv).toNat)
   case atStart => exact ⟨0,vs6,by omega,rfl,o6,by rw [stepU_zero];exact F6.out,e2⟩
   case round =>
    clear o6 F6 e2 y0;obtain ⟨i,vs',hi,rfl,own0,HF,he⟩ := hrel
    by_cases hlt : i < NP
    · have eD := Ext.drew wr
      have k1 := (jbb own0).ext eD;have k2 := cs5.ext (he.trans eD);have HL1 := hid (show (stepU PF G z i).length = NP by rw [stepU_len];exact HNP.out);have HA := hid (stepU_at (G := G) (z := z) (show i < PF.length by rw [HNP.out];exact hlt));have HSU := hid (stepU_succ (G := G) (z := z) (show i < PF.length by rw [HNP.out];exact hlt));have hq6 : q6.isSome = true := by obtain ⟨g,rfl⟩ := own_some own0 (by omega);rfl
      go_wp2;refine jbs 14 (F := fun _ _ _ => False) (by kernel_rfl) (by kernel_rfl) (by kernel_rfl) (by kernel_rfl) (by kernel_rfl) ?_;intro wf hwf;simp only [pw1,pw2,pw3,pw4]
      repeat (first
       | ((first | (refine ja2 rfl ?_) | (refine x_mv rfl rfl rfl ?_) | (refine x_as rfl rfl rfl ?_) | ((with_reducible show gx0);first | (refine x_ldF rfl rfl (fun _ => rfl) rfl (fun _ => rfl) rfl rfl k1 HF.out HL1.out (by omega) (by omega) ?_;intro r1 g1;rw [Int.toNat_natCast] at g1;have G1 := hid g1;clear g1) | (refine x_ldF rfl rfl (fun _ => rfl) rfl (fun _ => rfl) rfl rfl k2 HF5.out HGL.out (by omega) (by omega) ?_;intro r2 g2;rw [Int.toNat_natCast] at g2;have G2 := hid g2;clear g2)) | ((with_reducible show gx1);refine x_fop rfl rfl rfl rfl rfl ?_;first | (have zz := G3;intro r4 g4;have G4 := hid g4;clear g4 zz) | (intro r3 g3;have G3 := hid g3;clear g3)) | ((with_reducible show gx8);refine x_idx rfl rfl rfl rfl hq6 (by omega) (by omega) ?_;simp only [Nat.mul_one,Int.toNat_natCast]));simp only [Act.put,jac,pu1,pu2,pu3,pu4,pu5])
       | (refine jbm rfl fun K hK w1 hw1 => ?_;go_simp;refine hK _ ?_;clear hK K  hw1 w1))
      refine jbn ?_;have eF := eD.trans hwf;have own1 := jai own0 eF;clear k1 k2;go_wp2_with (first | ((with_reducible show gx9);refine wl_storeP (j := i) (u := .float .f32 r4) rfl rfl rfl rfl rfl own1 hlt ?_;intro w4 own4 g4) | fail);go_roundw
      case rel =>
       refine ⟨i + 1,_,by omega,by go_num,own4,?_,(he.trans eF).grown g4 (jap own1)⟩;rw [Hid,HSU.out];exact HF.out.setW (by rw [G4.out,G3.out,G1.out,G2.out,HA.out,HZ.out])
      case measure => simp [intOf];omega
    · obtain rfl : i = NP := by omega
      have hst : stepU PF G z i = stepX PF G z := by rw [← HNP.out];exact stepU_last PF G z
      rw [hst] at HF;have W1 := WP.out wr ((E0.trans e1).trans he) hS q6 i c6 vs' (stepX PF G z) (by rw [stepX_len];exact HNP.out) (by rw [HPF.out];exact HNP.out.symm) (ja1 own0).1 (jbb own0) HF.out;have W1 := hid W1;have y0 := (b0.ext (e1.trans he)).cell 0 rfl;clear hst HF WP own0;go_wp2_with fail;refine W1.out.mono ?_;rintro e w5 ⟨q9,k9,rfl,hO,e5⟩
      have HO := hid hO;have g1 := (b3.ext ((e1.trans he).trans e5)).cell 0 rfl;have g2 := (b3.ext ((e1.trans he).trans e5)).froz 0;have hbs := he.size;clear hO W1 y0;go_wp2;refine bodyPost_ret (v := .tuple #[.agg #[.slice q9 n k9],.bool true]) (by simp [results,Try.results21,go_sem,g1,g2]) rfl ?_;have ch := ja3 w5 (w.heap.size + 1 + 1 + 1) 0 (.slice q9 n k9);refine ⟨Or.inr ⟨HGG.out,q9,k9,rfl,?_⟩,(((E0.trans e1).trans he).trans e5).chg ch (fun b hb => by omega)⟩;rw [HPF.out,HG.out];exact (jca.chg HO.out ch (fun b hb => by omega)).base (by have := E0.size;omega)
theorem parF_append (A B : List jab.T) : parF (A ++ B) = parF A ++ parF B := by unfold parF;rw [List.flatMap_append]
theorem part_app {xs : List Nat} {a b c : Nat} (h1 : a ≤ b) (h2 : b ≤ c) : (xs.take b).drop a ++ (xs.take c).drop b = (xs.take c).drop a := by
 have e : xs.take b = (xs.take c).take b := by rw [List.take_take,Nat.min_eq_left h2]
 rw [e];generalize xs.take c = ys;have e2 : ys.drop b = (ys.drop a).drop (b - a) := by rw [List.drop_drop];congr 1;omega
 rw [e2,List.drop_take,List.take_append_drop]
theorem parF_wth {L : List jab.T} {xs : List Nat} : ∀ {i : Nat},i ≤ L.length → parF (wthF L xs i) = xs.take (off L i)
 | 0,_ => by simp [wthF,parF,off]
 | i + 1,h => by
   have hd : L[i]? = some L[i] := by simp
   rw [wthF_succ hd,parF_append,parF_wth (by omega),off_succ hd];unfold wLay;simp only [parF,List.flatMap_cons,List.flatMap_nil,List.append_nil];have e1 := part_app (xs := xs) (a := off L i) (b := off L i + (L[i].2.2.2.1 : List Nat).length) (c := off L i + (L[i].2.2.2.1 : List Nat).length + (L[i].2.2.2.2.1 : List Nat).length) (by omega) (by omega);have e2 := part_app (xs := xs) (a := 0) (b := off L i) (c := off L i + (L[i].2.2.2.1 : List Nat).length + (L[i].2.2.2.2.1 : List Nat).length) (by omega) (by omega);rw [e1]
   simpa [Nat.add_assoc] using e2
theorem parF_wth_all {L : List jab.T} {xs : List Nat} (h : xs.length = (parF L).length) : parF (wthF L xs L.length) = xs := by
 rw [parF_wth (Nat.le_refl _)];unfold off;rw [List.take_of_length_le (Nat.le_refl L.length),← h,List.take_of_length_le (Nat.le_refl _)]
def ParRet (w : World) (L : List jab.T) (e : Ending) (w' : World) : Prop :=
 (modB L = false ∧ e = .returned (.tuple #[.slice none 0 0,.bool false]) ∧ Ext w w') ∨
 (modB L = true ∧ ∃ q c vs,e = .returned (.tuple #[.slice q (parF L).length c,.bool true]) ∧ w'.ownsRow w.heap.size 33 1 (.slice q (parF L).length c) (parF L).length vs ∧ F32s vs (parF L) ∧ Ext w w')
theorem ParamsOf_any (p : Option Addr) (n c : Nat) (L : List jab.T) (css : List (List Value)) (w : World) (hL : Lays w p n css L) : Calls Try.prog 22 #[.agg #[.slice p n c]] w (ParRet w L) := by
 obtain ⟨W0,hW0⟩ : ∃ W0,W0 = w.alloc (.cells #[.slice p n c] 38) := ⟨_,rfl⟩;have E0 : Ext w W0 := by rw [hW0];exact Ext.alloc _ _
 have b0 : HB W0 w.heap.size #[.slice p n c] 38 := by rw [hW0];exact HB.new _ _ _
 have CM := hid (fun W (h : Ext w W) => jb3 p n c L css W hL.len hL.le (hL.cs.ext h) (hL.all.imp fun _ _ => Rep.ext h) hL.size hL.cnt);have PA := hid (fun W (h : Ext w W) hp => params_any p n c L css W hL.len hL.le (hL.cs.ext h) (hL.all.imp fun _ _ => Rep.ext h) hL.size hL.cnt hp);have hb0 := @modB_par L;have s0 : w.heap.size < W0.heap.size := by rw [hW0];simp
 clear hL;unfold ParRet;generalize modB L = m at *;go_enter Try.func22,Try.ntmps22;go_wp2_with fail;rw [← hW0];clear hW0;have g0 := b0.cell 0 rfl
 cases m
 · go_wp2_with fail
   refine (CM.out W0 E0).mono ?_;rintro e w1 ⟨rfl,e1⟩
   go_wp2;go_ret2;exact ⟨rfl,E0.trans e1⟩
 · have hp := hb0 rfl
   go_wp2_with fail;refine (CM.out W0 E0).mono ?_;rintro e w1 ⟨rfl,e1⟩
   have g1 := (b0.ext e1).cell 0 rfl;go_wp2_with fail;refine (PA.out w1 (E0.trans e1) (by omega)).mono ?_;rintro e w2 ⟨q,k,vs,rfl,ho,hf,e2⟩
   have z1 := e1.size;go_wp2;go_ret2;exact ⟨q,k,rfl,vs,jak ho (by omega),hf,(E0.trans e1).trans e2⟩
theorem wrF_sum (r k : Nat) : ∀ i,wrF r k i = i * (r / k) + min i (r % k)
 | 0 => by simp [wrF]
 | i + 1 => by
   show wrF r k i + wrN r k i = _;rw [wrF_sum r k i,Nat.add_mul,Nat.one_mul];unfold wrN;generalize i * (r / k) = A;generalize r / k = B;generalize r % k = C
   split <;> omega
theorem wrF_all {r k : Nat} (hk : 1 ≤ k) : wrF r k k = r := by
 rw [wrF_sum,Nat.min_eq_right (Nat.le_of_lt (Nat.mod_lt _ (by omega)))];exact Nat.div_add_mod r k
theorem wrF_nil (r k : Nat) : wrF r k 0 = 0 := rfl
theorem wrN_one (r : Nat) : wrN r 1 0 = r := by unfold wrN;rw [Nat.div_one,Nat.mod_one];rfl
theorem partL_all {xs : List Nat} {R K : Nat} (h : xs.length = R * K) : partL xs 0 R K = xs := by
 unfold partL;rw [Nat.zero_add,Nat.zero_mul,← h,List.take_length,List.drop_zero]
theorem wgList_one {L : List jab.T} {R K K2 : Nat} {xs ys : List Nat} (hx : xs.length = R * K) (hy : ys.length = R * K2) : wgList L K xs K2 ys R 1 0 = jb2 (jcv L R K xs R K2 ys) (wtsOf L R K xs R K2 ys) := by
 simp only [wgList,wTape,wWts,wrN_one,wrF_nil,partL_all hx,partL_all hy];rfl
theorem wgLoss_one {L : List jab.T} {R K K2 : Nat} {xs ys : List Nat} (hx : xs.length = R * K) (hy : ys.length = R * K2) : wgLoss L K xs K2 ys R 1 0 = lossT (jcv L R K xs R K2 ys) := by
 simp only [wgLoss,wTape,wrN_one,wrF_nil,partL_all hx,partL_all hy];rfl
theorem wgLists_one {L : List jab.T} {R K K2 : Nat} {xs ys : List Nat} (hx : xs.length = R * K) (hy : ys.length = R * K2) : jcf L K xs K2 ys R 1 1 = [jb2 (jcv L R K xs R K2 ys) (wtsOf L R K xs R K2 ys)] := by
 show [wgList L K xs K2 ys R 1 0] = _;rw [wgList_one hx hy]
theorem wgLosses_one {L : List jab.T} {R K K2 : Nat} {xs ys : List Nat} (hx : xs.length = R * K) (hy : ys.length = R * K2) : jb8 L K xs K2 ys R 1 1 = [lossT (jcv L R K xs R K2 ys)] := by
 show [wgLoss L K xs K2 ys R 1 0] = _;rw [wgLoss_one hx hy]
theorem gradB_drawn {L : List jab.T} {R I O nx ny : Nat} (h1 : modB L = true) (h2 : tapeB L = true) (hI : (I : Int) = inL L 0) (hO : (O : Int) = outL L) (hx : nx = R * I) (hy : ny = R * O) (hR : 1 ≤ R ∧ R ≤ 16) (hI8 : 1 ≤ I ∧ I ≤ 16) (hO8 : 1 ≤ O ∧ O ≤ 16) : jcr L R I nx R O ny = true := by
 have i1 : inB (R : Int) 1 16 = true := jaz.2 (by omega);have i2 : inB (I : Int) 1 16 = true := jaz.2 (by omega);have i3 : inB (O : Int) 1 16 = true := jaz.2 (by omega);unfold jcr headB tenB;rw [h1,h2,i1,i2,i3,hx,hy,← hI,← hO];simp
theorem wgB_drawn {L : List jab.T} {R I O nx ny k : Nat} (h : jcr L R I nx R O ny = true) (hR : 1 ≤ R ∧ R ≤ 16) (hk : 1 ≤ k ∧ k ≤ R ∧ k ≤ 8) : wgB L R I nx R O ny k = true := by
 unfold wgB wkB;rw [h,jaz.2 (show (1 : Int) ≤ R ∧ (R : Int) ≤ 16 by omega),jaz.2 (show (1 : Int) ≤ k ∧ (k : Int) ≤ min (R : Int) 8 by omega)];rfl
theorem sgB_drawn {L : List jab.T} {R I O nx ny k kd : Nat} (h : wgB L R I nx R O ny k = true) (hk : kd ≤ 2) : sgB L R I nx R O ny k kd = true := by
 unfold sgB;rw [h,jaz.2 (show (0 : Int) ≤ kd ∧ (kd : Int) ≤ 2 by omega)];rfl
theorem fd_ten2 (a b c : Value) (w : World) : (Instr.field 27 (.agg #[a,b,c]) 2).run Try.prog w = .ok c w := by
 unfold Instr.field;go_simp;rfl
section
variable {w : World} {ops : Array Oper} {rest : List Oper} {o : Oper} {a : Act} {Q : Exit → Act → World → Prop}
theorem wl_fldT {x : Operand} {u v c : Value} (hw : Region.wanted o (yielded ops a.tmps) = true) (ho : o.op = .field 27 x 2) (hx : a.eval x = .agg #[u,v,c])
 (h : wpList Try.prog ops Q rest (a.put o.dst c) w) : wpList Try.prog ops Q (o :: rest) a w :=
 wl_valueW hw (w' := w) (v := c) (by simp [execOp,ho,hx,fd_ten2]) h
end
theorem widen_lt {a : Nat} (na : (FloatKind.f32.decode a).isNaN = false) : jbv .f32 a .f64 < 18446744073709551616 := by
 have ho := jcp a
 have key : jbv .f32 a .f64 = Ieee.double.write (Ieee.single.read a) := by
  have hne : ¬ (FloatKind.f32 = FloatKind.f64) := by decide
  unfold fover at ho;rw [na] at ho;simp only [Bool.not_false,Bool.true_and] at ho;unfold jbv
  cases h : floatToFloatBits .f32 a .f64 with
  | none => rw [h] at ho;cases ho
  | some r =>
    simp only [floatToFloatBits,hne,if_false] at h
    split at h
    · cases h
    · rename_i hd;cases h;show _ = Ieee.double.write (FloatKind.f32.decode a);rw [hd];rfl
    · rename_i hd
      split at h
      · cases h
      · cases h;show _ = Ieee.double.write (FloatKind.f32.decode a);rw [hd];rfl
 rw [key];exact Ieee.double.write_lt _
theorem same_e (a b : Nat) (w : World) (h : cn .f32 a = cn .f32 b) : Calls Try.prog 14 #[.float .f32 a,.float .f32 b] w fun e w' => e = .returned (.bool true) ∧ w' = w := by
 by_cases hna : (FloatKind.f32.decode a).isNaN = true
 · have h1 : (FloatKind.f32.format.order a a != some .eq) = true := by rw [order_nan hna];rfl
   have hnb : (FloatKind.f32.decode b).isNaN = true := (isNaN_of_cn h).symm.trans hna;have h2 : (FloatKind.f32.format.order b b != some .eq) = true := by rw [order_nan hnb];rfl
   clear h hna hnb;go_enter Try.func14,Try.ntmps14;go_wp2;go_ret;exact ⟨rfl,rfl⟩
 · have hna' : (FloatKind.f32.decode a).isNaN = false := by simpa using hna
   have hnb' : (FloatKind.f32.decode b).isNaN = false := (isNaN_of_cn h).symm.trans hna';rw [jc4 hna',jc4 hnb'] at h;subst h;have h1 : (FloatKind.f32.format.order a a != some .eq) = false := by rw [order_self hna'];rfl
   have h4 : (FloatKind.f32.format.order a a == some .eq) = true := by rw [order_self hna'];rfl
   have ca := widen_some hna';have va := fun w => run_convert_float_float w 33 83 .f32 .f64 a _ (by rw [jb5];rfl) jb4 ca
   have Ha := fun w => Signbit_any (jbv .f32 a .f64) w (widen_lt hna')
   generalize jbv .f32 a .f64 = x at *;clear hna hna' hnb' ca;generalize decide (9223372036854775808 ≤ x) = p at *;go_enter Try.func14,Try.ntmps14;go_wp2_with fail;refine (Ha _).mono ?_;rintro e w1 ⟨rfl,rfl⟩
   go_wp2_with fail;refine (Ha _).mono ?_;rintro e w1 ⟨rfl,rfl⟩
   go_wp2;go_ret;exact ⟨by simp,rfl⟩
theorem r8Same_e (p q : Option Addr) (n c d : Nat) (us vs : List Value) (xs : List Nat) (w : World) (hx : xs.length = n) (hn : n ≤ 1048576) (hp : Cs w p us) (hf : F32s us xs) (hq : Cs w q vs) (hg : F32s vs xs) :
 Calls Try.prog 15 #[.slice p n c,.slice q n d] w fun e w' => e = .returned (.bool true) ∧ Ext w w' := by
 have HU := hid (hf.1.trans hx);have HV := hid (hg.1.trans hx);have hnn := bne_f (rfl : (n : Int) = (n : Int));go_enter Try.func15,Try.ntmps15;go_wp2;go_loopw [5] (fun iv wr => ∃ i : Nat,i ≤ n ∧ iv = .int .i64 i ∧ Ext w wr) (fun iv _ => n - (intOf iv).toNat)
 case atStart => exact ⟨0,by omega,rfl,Ext.refl _⟩
 case round =>
  obtain ⟨i,hi,rfl,he⟩ := hrel
  by_cases hlt : i < n
  · have hix : i < xs.length := by omega
    obtain ⟨r1,hr1,g1⟩ := hf.get hix;obtain ⟨r2,hr2,g2⟩ := hg.get hix;have C := hid (fun W => same_e r1 r2 W (by rw [g1,g2]));have R1 := hid hr1;have R2 := hid hr2;clear hr1 hr2 g1 g2;have k1 := (hp.ext he).ext (Ext.drew wr);have k2 := (hq.ext he).ext (Ext.drew wr);go_wp2_with fail;refine jae (F := fun _ _ u => u = .bool true) (by kernel_rfl) (by kernel_rfl) (by kernel_rfl) ?_;intro wf hwf
    repeat (first
     | ((first | (refine ja2 rfl ?_) | (refine x_mv rfl rfl rfl ?_) | (refine x_as rfl rfl rfl ?_) | ((with_reducible show gx0);first | (refine jb1 rfl rfl (fun _ => rfl) rfl (fun _ => rfl) rfl rfl k1 HU.out (by omega) (by omega) ?_;intro u hu;rw [Int.toNat_natCast,R1.out] at hu;cases hu) | (refine jb1 rfl rfl (fun _ => rfl) rfl (fun _ => rfl) rfl rfl k2 HV.out (by omega) (by omega) ?_;intro u hu;rw [Int.toNat_natCast,R2.out] at hu;cases hu)) | ((with_reducible show gx12);refine jao (f := 14) (args := #[.float .f32 r1,.float .f32 r2]) rfl rfl Try.func14 rfl (by kernel_rfl) ?_ ?_ ?_;(focus (simp [Act.eval];done));(focus (intro w1 hw1;exact ((C.out w1).mono fun e w3 h => ⟨_,h.1,by rw [h.2];exact Ext.refl _,rfl⟩)));rintro u w3 e3 e4 hu;subst hu));simp only [Act.put,jac,pu1,pu2,pu3,pu4,pu5])
     | (refine jbm rfl fun K hK w1 hw1 => ?_;go_simp;refine hK _ ?_;clear hK K  hw1 w1))
    refine jbn ?_;have hW := (he.trans (Ext.drew wr)).trans hwf;go_wp2;go_roundw
    case rel => exact ⟨i + 1,by omega,by go_num,hW⟩
    case measure => simp [intOf];omega
  · obtain rfl : n = i := by omega
    go_wp2;go_ret;exact ⟨rfl,he⟩
theorem call_ok {k : Int} {D : List (List Nat)} {W W' : World} {e : Ending} (hk : lReduceLists.okR k D) (h : OutOk W (.sl .flt) (lReduceLists.res k D) e W') : ∃ q c vs,e = .returned (.tuple #[.slice q (redF k D).length c,.bool true]) ∧ Cs W' q vs ∧ F32s vs (redF k D) ∧ Ext W W' := by
 rw [show lReduceLists.res k D = (redF k D,true) by unfold lReduceLists.res;rw [if_pos hk]] at h;obtain ⟨cs,bs,rfl,ow,_,_,e1⟩ := h;obtain ⟨q,c,vs,rfl,h1,h2,_⟩ := jcj.1 ow.rep;exact ⟨q,c,vs,rfl,h1,h2,e1⟩
theorem okR_of {k : Int} {D : List (List Nat)} {N : Nat} (hk : inB k 0 2 = true) (h1 : 1 ≤ D.length) (h8 : D.length ≤ 8) (hE : EvenL D N) (hN : N ≤ 512) : lReduceLists.okR k D := by
 have h0 : lReduceLists.len0 D = N := hE 0 (by omega);refine ⟨hk,h1,h8,by omega,?_⟩;unfold lReduceLists.evenB
 cases h : anyTo (fun i => !decide ((D.getD i []).length = lReduceLists.len0 D)) D.length with
 | false => rfl
 | true =>
   obtain ⟨i,hi,h2⟩ := jbx.1 h;rw [h0,hE i hi] at h2;simp at h2
theorem parF_few {L : List jab.T} (h : ModOk L) : (parF L).length ≤ 432 := by
 have key : ∀ (M : List jab.T),(∀ d ∈ M,(d.2.2.2.1 : List Nat).length ≤ 64 ∧ (d.2.2.2.2.1 : List Nat).length ≤ 8) → (parF M).length ≤ 72 * M.length := by
  intro M
  induction M with
  | nil => intro _;simp [parF]
  | cons d M ih =>
    intro hm;have h1 := hm d (by simp);have h2 := ih fun d hd => hm d (by simp [hd])
    have e : parF (d :: M) = (d.2.2.2.1 ++ d.2.2.2.2.1) ++ parF M := by simp [parF]
    rw [e,List.length_append,List.length_append,List.length_cons];omega
 have h6 := h.few
 have := key L fun d hd => by
  obtain ⟨i,hi,rfl⟩ := List.mem_iff_getElem.1 hd;have hl := h.lay i hi;unfold layD layB at hl;simp only [Bool.and_eq_true,decide_eq_true_eq,jaz,Bool.or_eq_true] at hl;obtain ⟨h1,h2,h3,h4,h5,h6⟩ := hl;have hm := mul_bd h2 h3;unfold wCnt at h5;unfold bCnt at h6;refine ⟨?_,?_⟩
  · split at h5
    · omega
    · split at h5
      · omega
      · split at h5 <;> omega
  · split at h6
    · omega
    · split at h6
      · omega
      · split at h6 <;> omega
 omega
theorem off_end {L : List jab.T} {i : Nat} (hi : i < L.length) : off L i + ((L[i].2.2.2.1 : List Nat).length + (L[i].2.2.2.2.1 : List Nat).length) ≤ (parF L).length := by
 rw [← off_succ (show L[i]? = some L[i] by simp)];unfold off
 conv => rhs;rw [← List.take_append_drop (i + 1) L,parF_append,List.length_append]
 omega
theorem lastP_snoc {L : List jab.T} {d : jab.T} {p : Option Int} : lastP? (L ++ [d]) p = some (layO d) := by simp [lastP?]
theorem wth_go {L : List jab.T} {xs : List Nat} (hx : xs.length = (parF L).length) : ∀ {i : Nat},i ≤ L.length → modGo none (wthF L xs i) = modGo none (L.take i) ∧ lastP? (wthF L xs i) none = lastP? (L.take i) none
 | 0,_ => ⟨rfl,rfl⟩
 | i + 1,h => by
   have hd : L[i]? = some L[i] := by simp
   have ih := wth_go hx (i := i) (by omega);have he := off_end (L := L) (i := i) (by omega);have l1 : (((xs.take (off L i + (L[i].2.2.2.1 : List Nat).length)).drop (off L i))).length = (L[i].2.2.2.1 : List Nat).length := by rw [part_len (by omega) (by omega)];omega
   have l2 : ((xs.take (off L i + (L[i].2.2.2.1 : List Nat).length + (L[i].2.2.2.2.1 : List Nat).length)).drop (off L i + (L[i].2.2.2.1 : List Nat).length)).length = (L[i].2.2.2.2.1 : List Nat).length := by rw [part_len (by omega) (by omega)];omega
   have e1 : layD (wLay L[i] xs (off L i)) = layD L[i] := by
    show layB _ _ _ _ _ = layB _ _ _ _ _;unfold wLay;dsimp only;rw [l1,l2]
   rw [wthF_succ hd,← take_snoc hd,modGo_snoc,modGo_snoc,ih.1,ih.2,e1,lastP_snoc,lastP_snoc];exact ⟨rfl,rfl⟩
theorem wth_mod {L : List jab.T} {xs : List Nat} (hx : xs.length = (parF L).length) (h : modB L = true) : modB (wthF L xs L.length) = true := by
 have h1 := (wth_go hx (Nat.le_refl L.length)).1;rw [List.take_of_length_le (Nat.le_refl _)] at h1;unfold modB at h ⊢;rw [h1,wthF_len (Nat.le_refl _)];exact h
theorem wth_fit {L : List jab.T} {xs : List Nat} (hf : ∀ d ∈ L,Fit jab d) (hx : ∀ x ∈ xs,x < 4294967296) : ∀ {i : Nat},i ≤ L.length → Fit (.sl jab) (wthF L xs i)
 | 0,_ => fun x hx => by simp [wthF] at hx
 | i + 1,h => by
   have hd : L[i]? = some L[i] := by simp
   rw [wthF_succ hd];intro d hm;rcases List.mem_append.1 hm with hm | hm
   · exact wth_fit hf hx (by omega) d hm
   · have hd := List.mem_singleton.1 hm
     subst hd;obtain ⟨a1,a2,a3,_,_⟩ := hf L[i] (List.getElem_mem (by omega));exact ⟨a1,a2,a3,fun x hm => hx x (List.mem_of_mem_take (List.mem_of_mem_drop hm)),fun x hm => hx x (List.mem_of_mem_take (List.mem_of_mem_drop hm)),trivial⟩
abbrev shModelS : Sh := .sl jaq
instance slModelSimpl : SlTy Try.prog 55 38 1 (.agg #[.slice none 0 0]) 24 := ⟨by kernel_rfl,by kernel_rfl,by kernel_rfl,by decide,by decide⟩
instance szModelSimpl : SlTy Try.prog 55 38 (Sh.sz jaq) (.agg #[.slice none 0 0]) 24 := slModelSimpl
instance elModelSimpl : ElTy Try.prog 38 jaq := ⟨by kernel_rfl,by kernel_rfl⟩
end Go.Proofs.Ytmbckkcgiafagaa
namespace Go.Proofs.Ytmbckkcgiafagaa.lAreInSync
open Go.RowKit
theorem indexFuncM_any (fn : Nat) (cap : Array Value) (eg : ∀ args w,(callFunc fn args).run Try.prog w = .ok (.enter fn args) w) (p : Option Addr) (n c : Nat) (css : List (List Value)) (q : Nat → Bool) (w : World) (hv : css.length = n) (hn : n ≤ maxLen) (hc : Cs w p css.flatten) (h6 : ∀ c ∈ css,c.length = jaq.sz)
 (hq : ∀ i ci W,css[i]? = some ci → Ext w W → Calls Try.prog fn (#[ofCs jaq ci] ++ cap) W (RetB W (q i))) :
 Calls Try.prog 104 #[.slice p n c,.func (.func fn) #[] cap] w fun e w' => ∃ z : Int,e = .returned (.int .i64 z) ∧ (0 ≤ z ↔ anyTo q n = true) ∧ Ext w w' := by
 have Hv := hid hv;have Hq := hid hq;clear hv hq;unfold maxLen at hn;go_enter Try.func104,Try.ntmps104;go_wp2;go_loopw [8] (fun iv wr => ∃ i : Nat,i ≤ n ∧ iv = .int .i64 i ∧ Hid (∀ j,j < i → q j = false) ∧ Ext w wr) (fun iv _ => n - (intOf iv).toNat)
 case atStart => exact ⟨0,by omega,rfl,fun j hj => by omega,Ext.refl w⟩
 case round =>
  obtain ⟨i,hi,rfl,Hall,he⟩ := hrel
  by_cases hlt : i < n
  · have hp' := hc.ext he
    have hvi : i < css.length := by rw [Hv.out];exact hlt
    have hci : css[i]? = some css[i] := by simp
    have hs1 := hc.some_of h6 (by decide) (show 0 < css.length by omega);have hcall := Hq.out i css[i] wr hci he;have Hci := hid hci;clear hci;generalize css[i] = ci at *
    cases hqi : q i with
    | true =>
      have Hqi := hid hqi;clear hqi;rw [Hqi.out] at hcall;go_wp2_with (first | (go_at_fn fn;refine hcall.mono ?_;rintro e w1 ⟨rfl,e1⟩) | ((with_reducible show gx2);refine jau (s := jaq) (j := i) rfl rfl rfl rfl (fun _ => rfl) rfl rfl rfl hp' h6 Hv.out hlt hs1 Hci.out ?_));go_ret;refine ⟨i,rfl,⟨fun _ => jbx.2 ⟨i,hlt,Hqi.out⟩,fun _ => by omega⟩,he.trans e1⟩
    | false =>
      have Hqi := hid hqi;clear hqi;rw [Hqi.out] at hcall;go_wp2_with (first | (go_at_fn fn;refine hcall.mono ?_;rintro e w1 ⟨rfl,e1⟩) | ((with_reducible show gx2);refine jau (s := jaq) (j := i) rfl rfl rfl rfl (fun _ => rfl) rfl rfl rfl hp' h6 Hv.out hlt hs1 Hci.out ?_));go_roundw
      case rel =>
       refine ⟨i + 1,by omega,by go_num,fun j hj => ?_,he.trans e1⟩
       by_cases hji : j = i
       · subst hji;exact Hqi.out
       · exact Hall j (by omega)
      case measure => simp [intOf];omega
  · obtain rfl : i = n := by omega
    go_wp2;go_ret;exact ⟨-1,rfl,by rw [anyTo_false Hall.out];simp,he⟩
theorem containsFuncM_any (fn : Nat) (cap : Array Value) (eg : ∀ args w,(callFunc fn args).run Try.prog w = .ok (.enter fn args) w) (p : Option Addr) (n c : Nat) (css : List (List Value)) (q : Nat → Bool) (w : World) (hv : css.length = n) (hn : n ≤ maxLen) (hc : Cs w p css.flatten) (h6 : ∀ c ∈ css,c.length = jaq.sz)
 (hq : ∀ i ci W,css[i]? = some ci → Ext w W → Calls Try.prog fn (#[ofCs jaq ci] ++ cap) W (RetB W (q i))) :
 Calls Try.prog 63 #[.slice p n c,.func (.func fn) #[] cap] w (RetB w (anyTo q n)) := by
 have hcall := indexFuncM_any fn cap eg p n c css q w hv hn hc h6 hq;generalize anyTo q n = b at *;clear hv hc hq eg;go_enter Try.func63,Try.ntmps63;go_wp2_with fail;refine hcall.mono ?_;rintro e w1 ⟨z,rfl,hz,he⟩
 have Hz := hid hz;clear hz;go_wp2;go_ret;refine ⟨ret_bool ?_,he⟩;have := Hz.out
 cases b <;> simp at this <;> simp <;> omega
theorem mod_at {w : World} {css : List (List Value)} {D : List jaq.T} (h : All2 (Rep w jaq) css D) (hf : ∀ x ∈ D,Fit jaq x) {i : Nat} (hi : i < D.length) : ∃ p c cs,css[i]? = some [.slice p (D[i].1 : List jab.T).length c] ∧ Rep w (.sl jab) [.slice p (D[i].1 : List jab.T).length c] D[i].1 ∧ Fit (.sl jab) D[i].1 ∧ Lays w p (D[i].1 : List jab.T).length cs D[i].1 := by
 obtain ⟨ci,hci,ri⟩ := h.get i D[i] (by simp);have hd := hf D[i] (List.getElem_mem hi);generalize D[i] = d at *;obtain ⟨l,u⟩ := d;obtain ⟨_,_,rfl,hr,rfl⟩ := ri;obtain ⟨p,c,rfl,_⟩ := rep_val hr;obtain ⟨p',c',cs,he,L⟩ := lays_of hr hd.1
 cases he
 exact ⟨p,c,cs,hci,hr,hd.1,L⟩
theorem inSync_any (bx : Nat) (p : Option Addr) (n c : Nat) (css : List (List Value)) (pi p0 : Option Addr) (ni ci n0 c0 : Nat) (csi : List (List Value)) (li l0 : List jab.T) (w : World) (hc : Cs w p css.flatten) (h6 : ∀ c ∈ css,c.length = jaq.sz) (h7 : css.length = n) (hn : 0 < n) (h0 : css[0]? = some [.slice p0 n0 c0])
 (gx : w.cell? ⟨bx,0,none⟩ = some (.slice p n c)) (Li : Lays w pi ni csi li) (ri : Rep w (.sl jab) [.slice pi ni ci] li) (r0 : Rep w (.sl jab) [.slice p0 n0 c0] l0) (fi : Fit (.sl jab) li) (f0 : Fit (.sl jab) l0) :
 Calls Try.prog 64 #[.agg #[.slice pi ni ci],.pointer (some ⟨bx,0,none⟩)] w (RetB w (!modB li || !eqT (.sl jab) li l0)) := by
 have hs1 := hc.some_of h6 (by decide) (show 0 < css.length by omega);have CV := hid (fun W (h : Ext w W) => calls_retB (jb3 pi ni ci li csi W Li.len Li.le (Li.cs.ext h) (Li.ext h).all Li.size Li.cnt));have CS := hid (fun W (h : Ext w W) => calls_retB (sameModel_any (.slice pi ni ci) (.slice p0 n0 c0) li l0 W (ri.ext h) (r0.ext h) fi f0));generalize hV : modB li = V at *;generalize hE : eqT (.sl jab) li l0 = E at *;clear hV hE Li ri r0 fi f0;obtain ⟨F,hF⟩ : ∃ F : Option Tmp → World → Value → Prop,F = fun d _ u => (match d with | some 5 => u = .bool V | _ => u = .bool E) := ⟨_,rfl⟩
 have HF := hid hF;clear hF;have E1 := (Ext.alloc w (.cells #[.slice pi ni ci] 38)).trans (Ext.drew _);have gd := E1.cell gx;have hcd := hc.ext E1
 cases V <;> cases E
 all_goals
  go_enter Try.func64,Try.ntmps64;go_wp2;refine jae (F := F) (by kernel_rfl) (by kernel_rfl) (by kernel_rfl) ?_;intro wf hwf
  repeat (first
   | ((first | (refine ja2 rfl ?_) | (refine x_mv rfl rfl rfl ?_) | (refine x_as rfl rfl rfl ?_) | ((with_reducible show gx0);refine x_idxloadE (s := jaq) (j := 0) rfl rfl (fun _ => rfl) rfl (fun _ => rfl) rfl rfl rfl hcd h6 h7 hn hs1 h0 ?_;rw [ofCs_agg (s := jaq) rfl]) | ((with_reducible show gx12);first | (refine jao (f := 35) (args := #[.agg #[.slice pi ni ci]]) rfl rfl Try.func35 rfl (by kernel_rfl) ?_ ?_ ?_;(focus (simp [Act.eval];done));(focus (intro w1 hw1;exact (by rw [HF.out];exact CV.out w1 (E1.trans hw1))));rintro u w3 e3 e4 hu;simp only [HF.out] at hu;subst hu) | (refine jao (f := 65) (args := #[.agg #[.slice pi ni ci],.agg #[.slice p0 n0 c0]]) rfl rfl Try.func65 rfl (by kernel_rfl) ?_ ?_ ?_;(focus (simp [Act.eval];done));(focus (intro w1 hw1;exact (by rw [HF.out];exact CS.out w1 (E1.trans hw1))));rintro u w3 e3 e4 hu;simp only [HF.out] at hu;subst hu)));simp only [Act.put,jac,pu1,pu2,pu3,pu4,pu5])
   | (refine jbm rfl fun K hK w1 hw1 => ?_;have k0 := hw1.cellOf (b := w.heap.size) (by simp);have k1 := hw1.cell (gd);go_simp;refine hK _ ?_;clear hK K k0 k1 hw1 w1))
  refine jbn ?_;go_wp2;go_ret;exact ⟨rfl,E1.trans hwf⟩
end Go.Proofs.Ytmbckkcgiafagaa.lAreInSync
namespace Go.Proofs.Ytmbckkcgiafagaa.lAreInSync
open Go.RowKit
def lay0 (D : List jaq.T) (i : Nat) : List jab.T := (D[i]?.map fun d => (d.1 : List jab.T)).getD []
theorem lay0_at {D : List jaq.T} {i : Nat} (h : i < D.length) : lay0 D i = D[i].1 := by unfold lay0;simp [h]
def bad (D : List jaq.T) (i : Nat) : Bool := !modB (lay0 D i) || !eqT (.sl jab) (lay0 D i) (lay0 D 0)
def res (D : List jaq.T) : Bool := decide (1 ≤ D.length) && (decide (D.length ≤ 8) && !anyTo (bad D) D.length)
theorem impl_ok (cs0 : List Value) (D0 : shModelS.T) (w : World) (h0 : Rep w shModelS cs0 D0) (f0 : Fit shModelS D0) : Calls Try.prog 23 #[ofCs shModelS cs0] w (RetB w (res D0)) := by
 obtain ⟨p,c,css,rfl,a2,a3,a4,a5,a6,a7⟩ := rep_sl h0;have hm := Nat.le_trans a3 a4;simp only [ofCs,Sh.agg,List.headD_cons,Bool.false_eq_true,if_false];unfold res;generalize hB : anyTo (bad D0) D0.length = B
 by_cases h1 : 1 ≤ D0.length
 rotate_left 1
 · rw [decide_eq_false h1,Bool.false_and]
   clear a2 a5 a7 h0 f0 hB;unfold maxLen at hm;generalize D0.length = n at *;go_enter Try.func23,Try.ntmps23;go_wp2;go_ret;exact ⟨rfl,Ext.alloc _ _⟩
 by_cases h8 : D0.length ≤ 8
 rotate_left 1
 · rw [decide_eq_false h8,Bool.false_and,Bool.and_false]
   clear a2 a5 a7 h0 f0 hB;unfold maxLen at hm;generalize D0.length = n at *;go_enter Try.func23,Try.ntmps23;go_wp2;go_ret;exact ⟨rfl,Ext.alloc _ _⟩
 rw [decide_eq_true h1,decide_eq_true h8,Bool.true_and,Bool.true_and]
 have C := hid (fun W (h : Ext w W) (bx : Nat) (gx : W.cell? ⟨bx,0,none⟩ = some (.slice p D0.length c)) => containsFuncM_any 64 #[.pointer (some ⟨bx,0,none⟩)] (by intro args w;kernel_rfl) p D0.length c css (bad D0) W a7 hm (a2.ext h) a6 (by
  intro i ci W2 hci hW;have hi : i < D0.length := by rw [← a7];exact (List.getElem?_eq_some_iff.1 hci).1
  have hx := h.trans hW;obtain ⟨pi,c1,cs1,e1,r1,g1,L1⟩ := mod_at a5 f0 hi;obtain ⟨p0,c2,cs2,e2,r2,g2,L2⟩ := mod_at a5 f0 (i := 0) (by omega);rw [hci] at e1
  cases e1
  have hbd : bad D0 i = (!modB (D0[i].1 : List jab.T) || !eqT (.sl jab) D0[i].1 (D0[0]'(by omega)).1) := by unfold bad;rw [lay0_at hi,lay0_at (by omega)]
  rw [hbd,ofCs_agg (s := jaq) rfl];exact inSync_any bx p D0.length c css pi p0 _ c1 _ c2 cs1 _ _ W2 (a2.ext hx) a6 a7 (by omega) e2 (hW.cell gx) (L1.ext hx) (r1.ext hx) (r2.ext hx) g1 g2))
 rw [hB] at C;unfold maxLen at hm;clear a2 a5 a6 a7 h0 f0 hB;generalize D0.length = n at *;go_enter Try.func23,Try.ntmps23;go_wp2_with fail;refine (C.out _ (Ext.alloc _ _) _ (by simp)).mono ?_;rintro e w1 ⟨rfl,e1⟩
 go_wp2;go_ret;exact ⟨rfl,(Ext.alloc _ _).trans e1⟩
end Go.Proofs.Ytmbckkcgiafagaa.lAreInSync
namespace Go.Proofs.Ytmbckkcgiafagaa
open Go.RowKit
theorem sync_two {L : List jab.T} (h : modB L = true) : lAreInSync.res [(L,()),(L,())] = true := by
 unfold lAreInSync.res
 have : anyTo (lAreInSync.bad [(L,()),(L,())]) 2 = false := by
  cases hh : anyTo (lAreInSync.bad [(L,()),(L,())]) 2 with
  | false => rfl
  | true =>
    obtain ⟨i,hi,h2⟩ := jbx.1 hh;rcases (show i = 0 ∨ i = 1 by omega) with rfl | rfl <;> simp [lAreInSync.bad,lAreInSync.lay0,h,(eqT_iff (.sl jab) L L).2 rfl] at h2
 simp [this]
theorem rep_two {w : World} {b n c : Nat} {q : Option Addr} {L : List jab.T} {t : TypeId} (hb : HB w b #[.slice q n c,.slice q n c] t) (h : Rep w (.sl jab) [.slice q n c] L) : Rep w shModelS [.slice (some ⟨b,0,none⟩) 2 2] [(L,()),(L,())] := by
 have h1 : Rep w jaq [.slice q n c] (L,()) := ⟨[.slice q n c],[],rfl,h,rfl⟩;exact ⟨some ⟨b,0,none⟩,2,[[.slice q n c],[.slice q n c]],rfl,cs_heap hb,Nat.le_refl _,by unfold maxLen;decide,.cons h1 (.cons h1 .nil)⟩
theorem fit_two {L : List jab.T} (h : Fit (.sl jab) L) : Fit shModelS [(L,()),(L,())] := by
 intro d hd;have : d = (L,()) := by simpa using hd
 subst this;exact ⟨h,trivial⟩
abbrev jbt : Sh := .pr .int (.pr (.sl .flt) (.un))
def atR (l : List jbt.T) (i : Nat) : Int := (l[i]?.map fun d => d.1).getD 0
def rowR (l : List jbt.T) (i : Nat) : List Nat := (l[i]?.map fun d => d.2.1).getD []
structure ReqOk (I : Int) (l : List jbt.T) : Prop where
 lo : ∀ i,i < l.length → 0 ≤ atR l i ∧ atR l i ≤ 100000
 len : ∀ i,i < l.length → ((rowR l i).length : Int) = I
 mono : ∀ i,i + 1 < l.length → atR l i ≤ atR l (i + 1)
theorem ReqOk.le {I : Int} {l : List jbt.T} (h : ReqOk I l) {i : Nat} : ∀ k,i + k < l.length → atR l i ≤ atR l (i + k)
 | 0,_ => Int.le_refl _
 | k + 1,hk => Int.le_trans (h.le k (by omega)) (h.mono (i + k) hk)
structure Reqs (w : World) (p : Option Addr) (n : Nat) (css : List (List Value)) (l : List jbt.T) : Prop where
 cs : Cs w p css.flatten
 all : All2 (Rep w jbt) css l
 size : ∀ c ∈ css,c.length = jbt.sz
 len : l.length = n
 cnt : css.length = n
 le : n ≤ maxLen
theorem Reqs.ext {w w' : World} {p : Option Addr} {n : Nat} {css : List (List Value)} {l : List jbt.T} (h : Reqs w p n css l) (e : Ext w w') : Reqs w' p n css l :=
 ⟨h.cs.ext e,h.all.imp fun _ _ => Rep.ext e,h.size,h.len,h.cnt,h.le⟩
end Go.Proofs.Ytmbckkcgiafagaa
