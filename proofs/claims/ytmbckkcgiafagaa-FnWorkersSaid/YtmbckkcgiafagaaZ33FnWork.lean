/- A part of the proofs: TnWj, RedA, RedN, RedB, SameV, Sto. -/
import Derived.Test.YtmbckkcgiafagaaTnWhFnWo
import Derived.Test.YtmbckkcgiafagaaZ13FnWork
import Derived.Test.YtmbckkcgiafagaaZ10FnWork
import Derived.Test.YtmbckkcgiafagaaZ12FnWork
import Derived.Test.YtmbckkcgiafagaaZ09FnWork
import Derived.Test.YtmbckkcgiafagaaZ07FnWork
set_option linter.unusedSimpArgs false
set_option linter.unusedVariables false
set_option maxRecDepth 100000
set_option maxHeartbeats 16000000
namespace Go.Proofs.Ytmbckkcgiafagaa
open Go.RowKit
def wkB (r wk : Int) : Bool := inB r 1 16 && inB wk 1 (min r 8)
def wgB (L : List jab.T) (r k : Int) (nx : Nat) (r2 k2 : Int) (ny : Nat) (wk : Int) : Bool := jcr L r k nx r2 k2 ny && wkB r wk
def WgRet (w : World) (L : List jab.T) (r k : Int) (xs : List Nat) (r2 k2 : Int) (ys : List Nat) (wk : Int) (e : Ending) (w' : World) : Prop :=
 (wgB L r k xs.length r2 k2 ys.length wk = false ∧ e = .returned (.tuple #[.slice none 0 0,.slice none 0 0,.bool false])) ∨
 (wgB L r k xs.length r2 k2 ys.length wk = true ∧ ∃ v css bss q c vs,e = .returned (.tuple #[v,.slice q wk.toNat c,.bool true]) ∧ WgOwn w' w.heap.size (jcf L k.toNat xs k2.toNat ys r.toNat wk.toNat wk.toNat) (jb8 L k.toNat xs k2.toNat ys r.toNat wk.toNat wk.toNat) v q wk.toNat c css bss vs)
theorem wgB_nat {L : List jab.T} {r k r2 k2 wk : Int} {nx ny : Nat} (h : wgB L r k nx r2 k2 ny wk = true) : jcr L r k nx r2 k2 ny = true ∧ wkB r wk = true ∧ r2 = r ∧ ∃ R K K2 nk : Nat,r = (R : Int) ∧ k = (K : Int) ∧ k2 = (K2 : Int) ∧ wk = (nk : Int) ∧ nx = R * K ∧ ny = R * K2 ∧ R ≤ 16 ∧ 1 ≤ K ∧ K ≤ 16 ∧ 1 ≤ K2 ∧ K2 ≤ 16 ∧ 1 ≤ nk ∧ nk ≤ 8 ∧ nk ≤ R := by
 unfold wgB at h;rw [Bool.and_eq_true] at h;obtain ⟨hg,hw⟩ := h;obtain ⟨h1,h2,h3,_⟩ := gradB_ten hg;have hw' := hw;unfold wkB at hw';unfold tenB at h1 h2;simp only [Bool.and_eq_true,decide_eq_true_eq,jaz] at h1 h2 hw';obtain ⟨⟨a1,a2⟩,a3⟩ := h1;obtain ⟨⟨b1,b2⟩,b3⟩ := h2;subst h3;obtain ⟨R,rfl⟩ : ∃ R : Nat,r = (R : Int) := ⟨r.toNat,by omega⟩;obtain ⟨K,rfl⟩ : ∃ K : Nat,k = (K : Int) := ⟨k.toNat,by omega⟩;obtain ⟨K2,rfl⟩ : ∃ K2 : Nat,k2 = (K2 : Int) := ⟨k2.toNat,by omega⟩;obtain ⟨nk,rfl⟩ : ∃ nk : Nat,wk = (nk : Int) := ⟨wk.toNat,by omega⟩;exact ⟨hg,hw,rfl,R,K,K2,nk,rfl,rfl,rfl,rfl,by exact_mod_cast a3,by exact_mod_cast b3,by omega,by omega,by omega,by omega,by omega,by omega,by omega,by omega⟩
theorem wgList_len {L : List jab.T} {R K K2 nk i : Nat} {xs ys : List Nat} (hg : jcr L R K xs.length R K2 ys.length = true) (hxl : xs.length = R * K) (hyl : ys.length = R * K2) (hk1 : 1 ≤ nk) (hkR : nk ≤ R) (hi : i < nk) : (wgList L K xs K2 ys R nk i).length = (parF L).length :=
 flatW_par (gradB_pt hg hxl hyl (wrN_pos hk1 hkR) (wrF_part hi)) (shareF ys.length)
theorem WorkerGradients_any (p q q2 : Option Addr) (n c nx cx ny cy : Nat) (r k r2 k2 wk : Int) (css : List (List Value)) (L : List jab.T) (xs ys : List Nat) (us vs : List Value) (w : World) (hL : Lays w p n css L) (hxl : xs.length = nx) (hyl : ys.length = ny) (hnx : nx ≤ maxLen) (hny : ny ≤ maxLen) (hcx : nx ≤ cx) (hcy : ny ≤ cy) (hqx : Cs w q us) (hfx : F32s us xs) (hqy : Cs w q2 vs) (hfy : F32s vs ys) :
 Calls Try.prog 18 #[.agg #[.slice p n c],.agg #[.int .i64 r,.int .i64 k,.slice q nx cx],.agg #[.int .i64 r2,.int .i64 k2,.slice q2 ny cy],.int .i64 wk] w fun e w' => WgRet w L r k xs r2 k2 ys wk e w' ∧ Ext w w' := by
 cases hwg : wgB L r k nx r2 k2 ny wk with
 | true =>
   obtain ⟨hg,hw,rfl,R,K,K2,nk,rfl,rfl,rfl,rfl,h1,h2,h3,h4,h5,h6,h7,h8,h9,h10⟩ := wgB_nat hwg;refine (WorkerGradients_yes p q q2 n c cx cy R K K2 nk nx ny css L xs ys us vs w hL (by rw [hxl,hyl];exact hg) (hxl.trans h1) (hyl.trans h2) hxl hyl hcx hcy hqx hfx hqy hfy h3 h5 h7 h8 h9 h10).mono ?_;rintro e w' ⟨⟨v,css',bss,q',c',vs',rfl,h⟩,e1⟩
   refine ⟨Or.inr ⟨by rw [hxl,hyl];exact hwg,v,css',bss,q',c',vs',?_,?_⟩,e1⟩
   · simp only [Int.toNat_natCast]
   · simp only [Int.toNat_natCast];exact h
 | false =>
   have HWG := hid (show wgB L r k xs.length r2 k2 ys.length wk = false by rw [hxl,hyl];exact hwg);obtain ⟨W0,hW0⟩ : ∃ W0,W0 = ((w.alloc (.cells #[.slice p n c] 38)).alloc (.cells #[.int .i64 r,.int .i64 k,.slice q nx cx] 27)).alloc (.cells #[.int .i64 r2,.int .i64 k2,.slice q2 ny cy] 27) := ⟨_,rfl⟩;obtain ⟨E0,s0,b0,b1,b2⟩ := box3 hW0;have b1 : HB W0 (w.heap.size + 1) #[.int .i64 r,.int .i64 k,.slice q nx cx] 27 := b1;have A := hid (modelTape_any p q q2 n c nx cx ny cy r k r2 k2 css L xs ys us vs W0 (hL.ext E0) hxl hyl hnx hny hcx hcy (hqx.ext E0) hfx (hqy.ext E0) hfy);have B := hid (fun W => WorkerRows_any r wk W);have HXL := hid hxl;have HYL := hid hyl;have Hwg := hid hwg;clear hL hxl hyl hwg;go_enter Try.func18,Try.ntmps18;go_wp2_with fail;rw [← hW0];clear hW0;refine A.out.mono ?_;rintro e w1 ⟨⟨hg,rfl⟩ | ⟨hg,q5,q6,c5,c6,cs5,rfl,_,_⟩,e1⟩
   · clear hg
     go_wp2;refine bodyPost_ret (results_tmp3 (t := 8) (u := 9) (v := 10) (by kernel_rfl) _ _ _) rfl ?_;exact ⟨Or.inl ⟨HWG.out,rfl⟩,E0.trans e1⟩
   · have hno : ¬ (inB r 1 16 = true ∧ inB wk 1 (min r 8) = true) := by
      intro h;have h0 := HWG.out;unfold wgB wkB at h0;rw [hg,h.1,h.2] at h0
      cases h0
     have B2 := B.out;simp only [wrR_no hno] at B2;have B3 := hid B2;have x10 := (b1.ext e1).cell 0 rfl;clear hg hno B2 B;generalize (jcv L r k xs r2 k2 ys).length = n5 at *;generalize (wtsOf L r k xs r2 k2 ys).length = n6 at *;go_wp2_with fail;refine (B3.out _).mono ?_;rintro e w2 ⟨cs2,bs2,rfl,o2,_,_,e2⟩
     obtain ⟨p3,c3,rfl,_⟩ := rep_val o2.rep;simp only [ofCs,Sh.agg,if_false,Bool.false_eq_true,List.headD_cons];clear o2;go_wp2;refine bodyPost_ret (results_tmp3 (t := 8) (u := 9) (v := 10) (by kernel_rfl) _ _ _) rfl ?_;exact ⟨Or.inl ⟨HWG.out,rfl⟩,E0.trans (e1.trans e2)⟩
theorem addLists_any (p q : Option Addr) (n c d : Nat) (us vs : List Value) (xs ys : List Nat) (w : World) (hx : xs.length = n) (hy : ys.length = n) (hn : n ≤ 1048576) (hc : n ≤ c) (hp : Cs w p us) (hf : F32s us xs) (hq : Cs w q vs) (hg : F32s vs ys) :
 Calls Try.prog 94 #[.slice p n c,.slice q n d] w (RetFl w (addF xs ys)) := by
 have HY := hid hy;have HX := hid hx;have C := hid (jct p n c us xs w hx (by omega) hc hp hf);have Hd := hid (show addF xs ys = tab n (fun i => fop .add .f32 (xs.getD i 0) (ys.getD i 0)) from by unfold addF;rw [hx]);have Hs := hid (show tab n (fun i => xs.getD i 0) = xs from by rw [← hx];exact tab_selfR xs);obtain ⟨o,ho⟩ : ∃ o : Nat → Nat,o = fun i => fop .add .f32 (xs.getD i 0) (ys.getD i 0) := ⟨_,rfl⟩
 obtain ⟨e',he'⟩ : ∃ e : Nat → Nat,e = fun i => xs.getD i 0 := ⟨_,rfl⟩
 rw [← ho] at Hd;rw [← he'] at Hs;have HO := hid (fun i => show o i = fop .add .f32 (e' i) (ys.getD i 0) from by rw [ho,he']);clear hx hy hp hf ho he';go_enter Try.func94,Try.ntmps94;go_wp2_with fail;refine C.out.mono ?_;rintro e w1 ⟨q1,c1,ws,rfl,own0,hF,e0⟩
 rw [HX.out] at own0 ⊢;have HF := hid hF;clear hF;go_wp2_with fail;go_loopw [12] (fun iv wr => ∃ (i : Nat) (vs' : List Value),i ≤ n ∧ iv = .int .i64 i ∧ wr.ownsRow w.heap.size 33 1 (.slice q1 n c1) n vs' ∧ Hid (F32s vs' (tab n (mix o e' i))) ∧ Ext w wr) (fun iv _ => n - (intOf iv).toNat)
 case atStart => exact ⟨0,ws,by omega,rfl,own0,by rw [tab_mix0,Hs.out];exact HF.out,e0⟩
 case round =>
  clear own0 e0 HF;obtain ⟨i,vs',hi,rfl,own0,HF,he⟩ := hrel;have hB := he.size
  by_cases hlt : i < n
  · have k1 := jbb own0
    have k2 := hq.ext he;have HL := hid (jbz n (mix o e' i));have HG := hid (show (tab n (mix o e' i)).getD i 0 = e' i from by rw [tab_get _ hlt];unfold mix;rw [if_neg (by omega)]);go_wp2_with (first | ((with_reducible show gx2);first | (refine jcx rfl rfl rfl rfl (fun _ => rfl) rfl rfl k2 hg HY.out (by omega) (by omega) ?_;intro r1 g1;have G1 := hid g1;clear g1) | (refine jcx rfl rfl rfl rfl (fun _ => rfl) rfl rfl k1 HF.out HL.out (by omega) (by omega) ?_;intro r2 g2;have G2 := hid g2;clear g2)) | ((with_reducible show gx3);refine jcl rfl rfl rfl rfl rfl ?_;intro r3 w3 e3 g3;have G3 := hid g3;clear g3;replace own0 := jai own0 e3;replace he := he.trans e3) | ((with_reducible show gx7);refine wl_idxstore (u := .float .f32 r3) rfl rfl rfl rfl (fun _ => rfl) rfl rfl (fun _ => rfl) rfl own0 (by omega) (by omega) ?_;intro w4 own4 g4));go_roundw
    case rel =>
     refine ⟨i + 1,_,by omega,by go_num,own4,?_,he.grown g4 (fun k hk => jap own0 k hk)⟩;rw [Int.toNat_natCast];have q1 := G1.out;have q2 := G2.out;rw [Int.toNat_natCast] at q1 q2;rw [HG.out] at q2;exact HF.out.put hlt (by rw [G3.out,q1,q2,HO.out])
    case measure => simp [intOf];omega
  · obtain rfl : i = n := by omega
    rw [tab_mixn] at HF;go_wp2;go_ret;rw [Hd.out];exact retFl_own (jbz _ _) own0 HF.out rfl he
structure Nx (w : World) (v : Value) (m : Nat) (us : List Value) (l : List (List Nat)) : Prop where
 at' : ∀ i,i < m → ∃ q c vs,us[i]? = some (.slice q (l.getD i []).length c) ∧ Cs w q vs ∧ F32s vs (l.getD i []) ∧ (l.getD i []).length ≤ c ∧ (vs ≠ [] → ∀ b,v.ownBlock = some b → (adr q 0).block ≠ b)
 len : l.length = m
 cnt : us.length = m
theorem Nx.ext {w w' : World} {v : Value} {m : Nat} {us : List Value} {l : List (List Nat)} (h : Nx w v m us l) (e : Ext w w') : Nx w' v m us l :=
 ⟨fun i hi => by obtain ⟨q,c,vs,h1,h2,h3,h4,h5⟩ := h.at' i hi;exact ⟨q,c,vs,h1,h2.ext e,h3,h4,h5⟩,h.len,h.cnt⟩
theorem Nx.nil {w : World} {v : Value} : Nx w v 0 [] [] := ⟨fun i hi => by omega,rfl,rfl⟩
theorem Nx.snoc {w w' : World} {v : Value} {m : Nat} {us : List Value} {l : List (List Nat)} (h : Nx w v m us l) {q : Option Addr} {k c : Nat} {vs : List Value} {x : List Nat} (hk : x.length = k) (hc : Cs w q vs) (hf : F32s vs x) (hkc : k ≤ c)
 (hn : vs ≠ [] → ∀ b,v.ownBlock = some b → (adr q 0).block ≠ b) {g c9 : Nat} (gr : w.grownBy w' v.ownBlock) (hg : v.ownBlock = some g ∨ w.heap.size ≤ g) : Nx w' (.slice (some ⟨g,0,none⟩) (m + 1) c9) (m + 1) (us ++ [.slice q k c]) (l ++ [x]) := by
 subst hk
 have keep : ∀ {p : Option Addr} {ws : List Value},Cs w p ws → (ws ≠ [] → ∀ b,v.ownBlock = some b → (adr p 0).block ≠ b) → Cs w' p ws ∧ (ws ≠ [] → ∀ b,(Value.slice (some ⟨g,0,none⟩) (m + 1) c9).ownBlock = some b → (adr p 0).block ≠ b) := by
  intro p ws h1 h2;refine ⟨h1.keep fun h3 => gr.block _ (h1.blk h3) (fun hh => h2 h3 _ hh.symm rfl),fun h3 b hb => ?_⟩;simp [Value.ownBlock] at hb;subst hb;rcases hg with hg | hg
  · exact h2 h3 _ hg
  · have := h1.blk h3;omega
 refine ⟨fun i hi => ?_,by rw [List.length_append,h.len];rfl,by rw [List.length_append,h.cnt];rfl⟩
 by_cases hm : i < m
 · obtain ⟨p,d,ws,h1,h2,h3,h4,h5⟩ := h.at' i hm
   have e : (l ++ [x]).getD i [] = l.getD i [] := by rw [List.getD_eq_getElem?_getD,List.getD_eq_getElem?_getD,List.getElem?_append_left (by rw [h.len];exact hm)]
   obtain ⟨k1,k2⟩ := keep h2 h5;rw [e];exact ⟨p,d,ws,by rw [List.getElem?_append_left (by rw [h.cnt];exact hm)];exact h1,k1,h3,h4,k2⟩
 · obtain rfl : i = m := by omega
   have e : (l ++ [x]).getD i [] = x := by rw [List.getD_eq_getElem?_getD,List.getElem?_append_right (by rw [h.len];exact Nat.le_refl _),h.len,Nat.sub_self];rfl
   obtain ⟨k1,k2⟩ := keep hc hn;rw [e];exact ⟨q,c,vs,by rw [List.getElem?_append_right (by rw [h.cnt];exact Nat.le_refl _),h.cnt,Nat.sub_self];rfl,k1,hf,hkc,k2⟩
theorem Nx.fls {w : World} {q : Option Addr} {m c B : Nat} {us : List Value} {l : List (List Nat)} {e : TypeId} (h : Nx w (.slice q m c) m us l) (o : w.ownsRow B e 1 (.slice q m c) m us) : Fls w q m us l :=
 ⟨jbb o,fun i hi => by obtain ⟨q,c,vs,h1,h2,h3,h4,_⟩ := h.at' i hi;exact ⟨q,c,vs,h1,h2,h3,h4⟩,h.len,h.cnt⟩
theorem drop_at {us : List Value} (t : Nat) : (us.drop 1)[t]? = us[t + 1]? := by rw [List.getElem?_drop,Nat.add_comm]
theorem Fls.tail {w : World} {p : Option Addr} {n c : Nat} {us : List Value} {l : List (List Nat)} (h : Fls w p n us l) (h1 : 1 ≤ n) (hc : n ≤ c) : Cs w (subp p 1 1 c) (us.drop 1) := by
 have := h.cs.sub (s := 1) (l := 1) (hi := n) (c := c) h1 hc
 rwa [Nat.mul_one,Nat.mul_one,List.take_of_length_le (by rw [h.cnt];exact Nat.le_refl _)] at this
theorem reduce_line (p : Option Addr) (n c N : Nat) (us : List Value) (l : List (List Nat)) (w : World) (F0 : Fls w p n us l) (hn1 : 1 ≤ n) (hn : n ≤ 8) (hc : n ≤ c) (hE : EvenL l N) (hN : N ≤ 1048576) :
 Calls Try.prog 53 #[.int .i64 0,.slice p n c] w (RetFl w (redF 0 l)) := by
 have Hcnt := hid F0.cnt;have HR := hid (show redF 0 l = lineF l (n - 1) from by rw [lineF_last (by decide) (by decide),F0.len]);have Hs := hid (fun t (h : t + 1 < n) => lineF_succ l (t := t) (by rw [F0.len];exact h));have H0 := hid (lineF_zero l);have HLn := hid (fun t => show (lineF l t).length = N from by unfold lineF;rw [jbz];exact hE 0 (by rw [F0.len];exact hn1));have HEl := hid (fun t (h : t < n) => hE t (by rw [F0.len];exact h));obtain ⟨q0,c0,vs0,a1,a2,a3,a4⟩ := F0.at' 0 (by omega);rw [HEl.out 0 (by omega)] at a1 a4;have C0 := hid (fun W (h : Ext w W) => jct q0 N c0 vs0 (l.getD 0 []) W (HEl.out 0 (by omega)) (by omega) a4 (a2.ext h) a3);have HA := hid a1;have hp := F0.cs;have ht := F0.tail hn1 hc;have HAt := hid F0.at';obtain ⟨n1,hn1e⟩ : ∃ n1,n1 = n - 1 := ⟨_,rfl⟩;obtain ⟨c1',hc1e⟩ : ∃ c1,c1 = c - 1 := ⟨_,rfl⟩;have hdl : (us.drop 1).length = n1 := by rw [List.length_drop,F0.cnt,hn1e]
 rw [← hn1e] at HR;have HN1 := hid hn1e;have HC1 := hid hc1e;have Hdl := hid hdl;have hn7 : n1 + 1 = n := by omega
 have HN7 := hid hn7;clear F0 hE a1 a2 a3 a4 hn1e hc1e hdl hn7;go_enter Try.func53,Try.ntmps53;go_wp2_with ((with_reducible show gx2);refine jar rfl rfl rfl rfl (fun _ => rfl) rfl rfl hp Hcnt.out (by omega) (by omega) ?_;intro u hu;replace hu := HA.out.symm.trans hu;cases hu);refine (C0.out _ (Ext.refl _)).mono ?_;rintro e w1 ⟨q1,c1,ws,rfl,own0,hF,e0⟩
 rw [HEl.out 0 (by omega)] at own0 ⊢;rw [← H0.out] at hF;have HF := hid hF;clear hF;go_wp2_with (refine wl_sliceFrom (l := 1) rfl rfl rfl rfl rfl (by omega) (by omega) ?_;rw [← HN1.out,← HC1.out]);go_loopw [5,25] (fun ov iv wr => ∃ (t : Nat) (q1 : Option Addr) (c1 : Nat) (ws : List Value),t ≤ n1 ∧ iv = .int .i64 t ∧ ov = .slice q1 N c1 ∧ wr.ownsRow w.heap.size 33 1 (.slice q1 N c1) N ws ∧ Hid (F32s ws (lineF l t)) ∧ Ext w wr) (fun _ iv _ => n1 - (intOf iv).toNat)
 case atStart => exact ⟨0,q1,c1,ws,by omega,rfl,rfl,own0,HF,e0⟩
 case round =>
  clear own0 HF e0;obtain ⟨t,q1,c1,ws,hi,rfl,rfl,own0,HF,he⟩ := hrel;have hB := he.size
  by_cases hlt : t < n1
  · have htn : t + 1 < n := by have := HN7.out;omega
    obtain ⟨qe,ce,vse,b1,b2,b3,b4⟩ := HAt.out (t + 1) htn;rw [HEl.out _ htn] at b1 b4;rw [← drop_at] at b1;have HB1 := hid b1;have C1 := hid (addLists_any q1 qe N c1 ce ws vse (lineF l t) (l.getD (t + 1) []) wr (HLn.out t) (HEl.out _ htn) hN (ja1 own0).1 (jbb own0) HF.out (b2.ext he) b3);rw [← Hs.out t htn] at C1;have kt := ht.ext he;clear b1 b2 b3 b4;go_wp2_with ((with_reducible show gx2);refine jar rfl rfl rfl rfl (fun _ => rfl) rfl rfl kt Hdl.out (by omega) (by omega) ?_;intro u hu;rw [Int.toNat_natCast] at hu;replace hu := HB1.out.symm.trans hu;cases hu);refine C1.out.mono ?_;rintro e w3 ⟨q3,c3,ws3,rfl,own3,hF3,e3⟩
    rw [HLn.out] at own3 ⊢;have HF3 := hid hF3;clear hF3;go_wp2;go_roundw
    case rel => exact ⟨t + 1,q3,c3,ws3,by omega,by go_num,rfl,jak own3 hB,HF3,he.trans e3⟩
    case measure => simp [intOf];omega
  · obtain rfl : t = n1 := by omega
    go_wp2;go_ret;rw [HR.out];exact retFl_own (HLn.out _) own0 HF.out rfl he
theorem reduce_tree (p : Option Addr) (n c N : Nat) (us : List Value) (l : List (List Nat)) (w : World) (F0 : Fls w p n us l) (hn1 : 1 ≤ n) (hn : n ≤ 8) (hc : n ≤ c) (hE : EvenL l N) (hN : N ≤ 1048576) :
 Calls Try.prog 53 #[.int .i64 1,.slice p n c] w (RetFl w (redF 1 l)) := by
 have HR := hid (show redF 1 l = treeF l from rfl);have HRl := hid (show (treeF l).length = N from hE.tree rfl (by rw [F0.len];exact hn1));obtain ⟨R,hR⟩ : ∃ R,R = treeF l := ⟨_,rfl⟩;rw [← hR] at HR HRl;have HTr := hid hR.symm;have HE := hid hE;clear hE hR;go_enter Try.func53,Try.ntmps53;go_wp2_with fail;go_loopw [1] (fun lv wr => ∃ (n' c' : Nat) (q' : Option Addr) (us' : List Value) (l' : List (List Nat)),lv = .slice q' n' c' ∧ 1 ≤ n' ∧ n' ≤ 8 ∧ n' ≤ c' ∧ Fls wr q' n' us' l' ∧ Hid (EvenL l' N) ∧ Hid (treeF l' = R) ∧ Ext w wr) (fun lv _ => match lv with | .slice _ m _ => m | _ => 0)
 case atStart => exact ⟨n,c,p,us,l,rfl,hn1,hn,hc,F0,HE,HTr,Ext.refl _⟩
 case round =>
  clear F0 HE HTr hn1 hn hc;obtain ⟨n',c',q',us',l',rfl,hn1,hn8,hnc,F1,HE,HTr,he⟩ := hrel;have Hcnt := hid F1.cnt;have HEl := hid (fun t (h : t < n') => HE.out t (by rw [F1.len];exact h));have HAt := hid F1.at';have hB := he.size
  by_cases hlt : 1 < n'
  · have HTr2 := hid (show treeF (pairF l') = R from by rw [← treeF_pair (by rw [F1.len];exact hlt)];exact HTr.out)
    have HE2 := hid HE.out.pair;have Hp := hid (show pairF l' = ltab ((n' + 1) / 2) (prF l') from by unfold pairF;rw [F1.len]);have Hpr := hid (fun j (h : 2 * j + 1 < n') => show prF l' j = addF (l'.getD (2 * j) []) (l'.getD (2 * j + 1) []) from by unfold prF;rw [if_pos (by rw [F1.len];exact h)]);have Hpn := hid (fun j (h : ¬ 2 * j + 1 < n') => show prF l' j = l'.getD (2 * j) [] from by unfold prF;rw [if_neg (by rw [F1.len];exact h)]);have hp := F1.cs;have hst : (wr.alloc (.cells #[] 25)).ownsRow wr.heap.size 25 1 (.slice (some ⟨wr.heap.size,0,none⟩) 0 0) 0 [] := World.ownsRow_made wr #[] 0 (Nat.le_refl _) (by decide) rfl;have e3 := Ext.alloc wr (.cells #[] 25);obtain ⟨wo,hwo⟩ : ∃ wo,wo = wr := ⟨_,rfl⟩;rw [← hwo] at he HAt hp hB hst e3;have hdec : decide ((1 : Int) < (n' : Int)) = true := by simp;omega
    clear F1 HE HTr;go_wp2_with fail;rw [← hwo];clear hwo;go_loopw [8,9] (fun nv iv wr => ∃ (i m : Nat) (q8 : Option Addr) (c8 : Nat) (us8 : List Value),Hid (i = 2 * m) ∧ i ≤ n' + 1 ∧ m ≤ 5 ∧ iv = .int .i64 i ∧ nv = .slice q8 m c8 ∧ wr.ownsRow wo.heap.size 25 1 (.slice q8 m c8) m us8 ∧ Hid (Nx wr (.slice q8 m c8) m us8 (ltab m (prF l'))) ∧ Ext wo wr) (fun _ iv _ => n' + 1 - (intOf iv).toNat)
    case atStart => exact ⟨0,0,_,_,[],rfl,by omega,by omega,rfl,rfl,hst,Nx.nil,e3⟩
    case round =>
     clear hst e3;obtain ⟨i,m,q8,c8,us8,Him,hi,hm5,rfl,rfl,own8,HNx,e8⟩ := hrel;have hB8 := e8.size
     by_cases hlt2 : i < n'
     · obtain ⟨qa,ca,vsa,a1,a2,a3,a4⟩ := HAt.out i hlt2
       rw [HEl.out i hlt2] at a1 a4;have HA1 := hid a1;have hpa : vsa ≠ [] → ∀ b,(Value.slice q8 m c8).ownBlock = some b → (adr qa 0).block ≠ b := fun h b hb => by have := a2.blk h;have := jap own8 b hb;omega
       have kp := hp.ext e8;have Hm1 := hid (ltab_succ m (prF l'));have hm4 : m + 1 ≤ 5 := by have := Him.out;omega
       clear a1
       by_cases hlt3 : i + 1 < n'
       · obtain ⟨qb,cb,vsb,b1,b2,b3,b4⟩ := HAt.out (i + 1) hlt3
         rw [HEl.out _ hlt3] at b1 b4;have HB1 := hid b1;have HW := hid (show IntKind.i64.wrap ((i : Int) + 1) = ((i + 1 : Nat) : Int) from by rw [show (i : Int) + 1 = ((i + 1 : Nat) : Int) by omega];exact jbd _ (by omega) (by omega));have hpr := Hpr.out m (by have := Him.out;omega);have hxl : (addF (l'.getD i []) (l'.getD (i + 1) [])).length = N := by rw [addF_len];exact HEl.out i hlt2
         rw [← Him.out] at hpr;have HPR := hid hpr;have HXL := hid hxl;have C1 := hid (fun W (h : Ext wr W) => (addLists_any qa qb N ca cb vsa vsb (l'.getD i []) (l'.getD (i + 1) []) W (HEl.out i hlt2) (HEl.out _ hlt3) hN a4 (a2.ext (e8.trans h)) a3 (b2.ext (e8.trans h)) b3).mono fun e w3 h3 => h3.is);obtain ⟨F,hF⟩ : ∃ F : Option Tmp → World → Value → Prop,F = fun _ w' u => IsFl wr.heap.size (addF (l'.getD i []) (l'.getD (i + 1) [])) w' u := ⟨_,rfl⟩
         have HF := hid hF;clear b1 hpr hxl hF;have eD := Ext.drew wr;have kq := kp.ext eD;go_wp2;refine jbs 12 (F := F) (by kernel_rfl) (by kernel_rfl) (by kernel_rfl) (by kernel_rfl) (by kernel_rfl) ?_;intro wf hwf;simp only [pw1,pw2,pw3,pw4]
         repeat (first
          | ((first | (refine ja2 rfl ?_) | (refine x_mv rfl rfl rfl ?_) | (refine x_as rfl rfl rfl ?_) | ((with_reducible show gx0);first | (refine jb1 rfl rfl (fun _ => rfl) rfl (fun _ => rfl) rfl rfl kq Hcnt.out (by omega) (by omega) ?_;intro u hu;rw [Int.toNat_natCast] at hu;replace hu := HA1.out.symm.trans hu;cases hu) | (refine jb1 rfl rfl (fun _ => rfl) rfl (fun _ => rfl) rfl rfl kq Hcnt.out (by rw [HW.out];omega) (by rw [HW.out];omega) ?_;intro u hu;rw [HW.out,Int.toNat_natCast] at hu;replace hu := HB1.out.symm.trans hu;cases hu)) | ((with_reducible show gx12);refine jao (f := 94) (args := #[.slice qa N ca,.slice qb N cb]) rfl rfl Try.func94 rfl (by kernel_rfl) ?_ ?_ ?_;(focus (simp [Act.eval];done));(focus (intro w1 hw1;exact (by rw [HF.out];exact (C1.out w1 (eD.trans hw1)).mono fun e w3 ⟨u,h1,h2,h3⟩ => ⟨u,h1,h2,IsFl.base h3 (by have := (eD.trans hw1).size;omega)⟩)));rintro u w3 e3 e4 hu;simp only [HF.out] at hu;obtain ⟨qx,cx,vsx,rfl,ox,fx⟩ := IsFl.ext hu e4;rw [HXL.out] at ox ⊢;have FX := hid fx;clear fx hu) | (refine x_build1 (u := .slice qx N cx) rfl rfl rfl rfl ?_;intro g5 hg5 hg6 hg7));simp only [Act.put,jac,pu1,pu2,pu3,pu4,pu5])
          | (refine jbm rfl fun K hK w1 hw1 => ?_;go_simp;refine hK _ ?_;clear hK K  hw1 w1))
         refine jbn ?_;have eW := eD.trans hwf;have own9 := jai own8 eW;have hN9 := (HNx.out).ext eW;have HN9 := hid hN9;have hox := jap ox;have hsz9 := eW.size;have hlt8 := jcw own8;clear hN9;go_wp2_with ((with_reducible show gx5);refine wl_app1s rfl rfl rfl rfl own9 hg7 rfl (fun u hu => by simp [Value.cells] at hu;subst hu;rfl) (by unfold maxLen;omega) (by omega) (by omega) ?_;intro g6 c6 w6 own6 gr6 hg6');go_roundw
         case rel =>
          refine ⟨i + 2,m + 1,_,c6,us8 ++ [.slice qx N cx],?_,by omega,by omega,by go_num,rfl,own6,?_,(e8.trans eW).grown gr6 (fun kk hk => by have := jap own8 kk hk;omega)⟩
          · rw [Hid];have := Him.out;omega
          · rw [Hid,Hm1.out,HPR.out]
            exact HN9.out.snoc HXL.out (jbb ox) FX.out (ja1 ox).1 (fun h b hb => by
             have h1 := hlt8 b hb
             cases qx with
             | none => have := (jbb ox).isS h;simp at this
             | some a => have := hox _ rfl;show a.block ≠ b;omega) gr6 hg6'
         case measure => simp [intOf];omega
       · have hin : i + 1 = n' := by omega
         have HIN := hid hin;have hpr := Hpn.out m (by have := Him.out;omega);rw [← Him.out] at hpr;have HPR := hid hpr;clear hin hpr;have HN9 := HNx;go_wp2_with (first | ((with_reducible show gx2);refine jar rfl rfl rfl rfl (fun _ => rfl) rfl rfl kp Hcnt.out (by omega) (by omega) ?_;intro u hu;rw [Int.toNat_natCast] at hu;replace hu := HA1.out.symm.trans hu;cases hu) | ((with_reducible show gx6);refine jbj (u := .slice qa N ca) rfl rfl rfl rfl rfl (by rfl) (by rfl) (fun _ => rfl) (fun _ => rfl) own8 (by unfold maxLen;omega) (by omega) (by omega) ?_;intro g6 c6 w6 own6 gr6 hg6'));go_roundw
         case rel =>
          refine ⟨i + 2,m + 1,_,c6,us8 ++ [.slice qa N ca],?_,by omega,by omega,by go_num,rfl,own6,?_,e8.grown gr6 (fun kk hk => by have := jap own8 kk hk;omega)⟩
          · rw [Hid];have := Him.out;omega
          · rw [Hid,Hm1.out,HPR.out]
            exact HN9.out.snoc (HEl.out i hlt2) (a2.ext e8) a3 a4 hpa gr6 (hg6'.imp id (fun h => by omega))
         case measure => simp [intOf];omega
     · have hmm : m = (n' + 1) / 2 := by have := Him.out;omega
       have Hmm := hid hmm;have hm1 : 1 ≤ m := by omega
       have hml : m < n' := by omega
       have hm8 : m ≤ 8 := by omega
       have hF := (HNx.out).fls own8;have hcap := (ja1 own8).1;clear hmm;go_wp2;go_roundw
       case rel => exact ⟨m,c8,q8,us8,ltab m (prF l'),rfl,hm1,hm8,hcap,hF,by have := HE2.out;rw [Hp.out,← Hmm.out] at this;exact this,by have := HTr2.out;rw [Hp.out,← Hmm.out] at this;exact this,he.trans e8⟩
       case measure => simp;omega
  · obtain rfl : n' = 1 := by omega
    obtain ⟨qa,ca,vsa,a1,a2,a3,a4⟩ := HAt.out 0 (by omega);have hl0 : l'.getD 0 [] = R := by rw [← HTr.out,treeF_one (by rw [F1.len];exact Nat.le_refl _)]
    rw [hl0] at a1 a3 a4;rw [HRl.out] at a1 a4;have HA1 := hid a1;have C0 := hid (jct qa N ca vsa R wr HRl.out (by omega) a4 a2 a3);have hp := F1.cs;clear a1 hl0;go_wp2_with ((with_reducible show gx2);refine jar rfl rfl rfl rfl (fun _ => rfl) rfl rfl hp Hcnt.out (by omega) (by omega) ?_;intro u hu;replace hu := HA1.out.symm.trans hu;cases hu);refine C0.out.mono ?_;rintro e w1 ⟨q1,c1,ws,rfl,own0,hF,e0⟩
    go_wp2;go_ret;rw [HR.out];exact ⟨q1,c1,ws,rfl,jak own0 hB,hF,he.trans e0⟩
theorem reduce_ring (p : Option Addr) (n c N : Nat) (us : List Value) (l : List (List Nat)) (w : World) (F0 : Fls w p n us l) (hn1 : 1 ≤ n) (hn : n ≤ 8) (hE : EvenL l N) (hN : N ≤ 1048576) :
 Calls Try.prog 53 #[.int .i64 2,.slice p n c] w (RetFl w (redF 2 l)) := by
 have Hcnt := hid F0.cnt;have HEl := hid (fun t (h : t < n) => hE t (by rw [F0.len];exact h));have HAt := hid F0.at';obtain ⟨o,ho⟩ : ∃ o : Nat → Nat,o = fun j => sumK l (fstR 2 n j) j (n - 1) := ⟨_,rfl⟩
 have HR := hid (show redF 2 l = tab N o from by rw [ho];unfold redF;rw [if_neg (by decide)];unfold ringF;rw [hE 0 (by rw [F0.len];exact hn1),F0.len]);have HO := hid (fun j => show o j = sumK l (j % n) j (n - 1) from by rw [ho];rfl);have HS := hid (fun f j i => show sumK l f j (i + 1) = fop .add .f32 (sumK l f j i) ((l.getD ((f + i + 1) % n) []).getD j 0) from by rw [← F0.len];rfl);have HS0 := hid (fun f j => show sumK l f j 0 = (l.getD f []).getD j 0 from rfl);have hp := F0.cs;obtain ⟨q0,c0,vs0,a1,a2,a3,a4⟩ := F0.at' 0 (by omega);rw [HEl.out 0 (by omega)] at a1;have HA0 := hid a1;have hst : (w.alloc (.cells #[] 33)).ownsRow w.heap.size 33 1 (.slice (some ⟨w.heap.size,0,none⟩) 0 0) 0 [] := World.ownsRow_made w #[] 0 (Nat.le_refl _) (by decide) rfl;have e3 := Ext.alloc w (.cells #[] 33);clear F0 hE ho a1 a2 a3 a4;have hpa := hp.ext e3;go_enter Try.func53,Try.ntmps53;go_wp2_with ((with_reducible show gx2);refine jar rfl rfl rfl rfl (fun _ => rfl) rfl rfl hpa Hcnt.out (by omega) (by omega) ?_;intro u hu;replace hu := HA0.out.symm.trans hu;cases hu);go_loopw [10,83] (fun ov jv wr => ∃ (j : Nat) (q1 : Option Addr) (c1 : Nat) (ws : List Value),j ≤ N ∧ jv = .int .i64 j ∧ ov = .slice q1 j c1 ∧ wr.ownsRow w.heap.size 33 1 (.slice q1 j c1) j ws ∧ Hid (F32s ws (tab j o)) ∧ Ext w wr) (fun _ jv _ => N - (intOf jv).toNat)
 case atStart => exact ⟨0,_,_,[],by omega,rfl,rfl,hst,F32s.nil,e3⟩
 case round =>
  clear hst e3 hpa;obtain ⟨j,q1,c1,ws,hj,rfl,rfl,own0,HF,he⟩ := hrel;have kp := hp.ext he
  by_cases hlt : j < N
  · obtain ⟨f,hfe⟩ : ∃ f,f = j % n := ⟨_,rfl⟩
    have hf : f < n := by rw [hfe];first | exact Nat.mod_lt _ (by omega) | omega
    have HM := hid (show ((j : Int) % (n : Int)) = ((f : Nat) : Int) from by rw [hfe,Int.natCast_emod]);have hoj := HO.out j;rw [← hfe] at hoj;have HOj := hid hoj;have Hgi := hid (fun i => show (j + i) % n = (f + i) % n from by rw [hfe,Nat.mod_add_mod]);obtain ⟨qf,cf,vsf,a1,a2,a3,_⟩ := HAt.out f hf;rw [HEl.out f hf] at a1;have HA1 := hid a1;have HL1 := hid (HEl.out f hf);have k2 := a2.ext he;clear a1 hoj hfe a2;go_wp2_with (first | ((with_reducible show gx2);first | (refine jar rfl rfl rfl rfl (fun _ => rfl) rfl rfl kp Hcnt.out (by rw [HM.out];omega) (by rw [HM.out];omega) ?_;intro u hu;rw [HM.out,Int.toNat_natCast] at hu;replace hu := HA1.out.symm.trans hu;cases hu) | (refine jcx rfl rfl rfl rfl (fun _ => rfl) rfl rfl k2 a3 HL1.out (by omega) (by omega) ?_;intro r0 g0;have G0 := hid g0;clear g0)));have hr0 : cn .f32 r0 = sumK l f j 0 := by rw [G0.out,HS0.out,Int.toNat_natCast]
    have HR0 := hid hr0;clear hr0 G0;go_loopw [13,14] (fun sv iv wq => ∃ (i r : Nat),1 ≤ i ∧ i ≤ n ∧ iv = .int .i64 i ∧ sv = .float .f32 r ∧ Hid (cn .f32 r = sumK l f j (i - 1)) ∧ Ext wr wq) (fun _ iv _ => n - (intOf iv).toNat)
    case atStart => exact ⟨1,r0,by omega,hn1,rfl,rfl,HR0,Ext.refl _⟩
    case round =>
     clear HR0;obtain ⟨i,r,hi1,hi,rfl,rfl,HRr,eq⟩ := hrel
     by_cases hlt2 : i < n
     · obtain ⟨g,hge⟩ : ∃ g,g = (f + i) % n := ⟨_,rfl⟩
       have hg : g < n := by rw [hge];exact Nat.mod_lt _ (by omega)
       have h0 : (j + i) % n = g := by rw [hge,Hgi.out]
       have HG := hid (show (((j : Nat) : Int) + (i : Int)) % (n : Int) = ((g : Nat) : Int) from by rw [← h0,Int.natCast_emod,Int.natCast_add]);clear h0;have hsi := HS.out f j (i - 1);rw [show f + (i - 1) + 1 = f + i by omega,show i - 1 + 1 = i by omega,← hge] at hsi;have HSi := hid hsi;obtain ⟨qg,cg,vsg,b1,b2,b3,_⟩ := HAt.out g hg;rw [HEl.out g hg] at b1;have HB1 := hid b1;have HL2 := hid (HEl.out g hg);have k3 := b2.ext (he.trans eq);have kq := kp.ext eq;clear b1 hsi hge b2;go_wp2_with (first | ((with_reducible show gx2);first | (refine jar rfl rfl rfl rfl (fun _ => rfl) rfl rfl kq Hcnt.out (by rw [HG.out];omega) (by rw [HG.out];omega) ?_;intro u hu;rw [HG.out,Int.toNat_natCast] at hu;replace hu := HB1.out.symm.trans hu;cases hu) | (refine jcx rfl rfl rfl rfl (fun _ => rfl) rfl rfl k3 b3 HL2.out (by omega) (by omega) ?_;intro r1 g1;have G1 := hid g1;clear g1)) | ((with_reducible show gx3);refine jcl rfl rfl rfl rfl rfl ?_;intro r3 w3 e3' g3;have G3 := hid g3;clear g3));go_roundw
       case rel =>
        have q1 := G1.out;rw [Int.toNat_natCast] at q1;exact ⟨i + 1,r3,by omega,by omega,by go_num,rfl,by rw [Hid,show i + 1 - 1 = i by omega,HSi.out,G3.out,HRr.out,q1],eq.trans e3'⟩
       case measure => simp [intOf];omega
     · obtain rfl : i = n := by omega
       have own9 := jai own0 eq;have hB9 := eq.size;have hB0 := he.size;have hBB : w.heap.size ≤ wr.heap.size := by omega
       go_wp2_with ((with_reducible show gx6);refine jbj (u := .float .f32 r) rfl rfl rfl rfl rfl rfl rfl (fun _ => rfl) (fun _ => rfl) own9 (by unfold maxLen;omega) (by omega) (by omega) ?_;intro g c w4 own4 g4 hg4);go_roundw
       case rel =>
        have own5 : w4.ownsRow w.heap.size 33 1 (.slice (some ⟨g,0,none⟩) (j + 1) c) (j + 1) (ws ++ [.float .f32 r]) := own4;exact ⟨j + 1,some ⟨g,0,none⟩,c,ws ++ [.float .f32 r],by omega,by go_num,rfl,own5,by rw [Hid];exact HF.out.push (by rw [HRr.out,HOj.out]),(he.trans eq).grown g4 (fun k hk => jap own9 k hk)⟩
       case measure => simp [intOf];omega
  · obtain rfl : j = N := by omega
    go_wp2;go_ret;rw [HR.out];exact retFl_own (jbz _ _) own0 HF.out rfl he
theorem sameModel_any (v1 v2 : Value) (l l2 : (Sh.sl jab).T) (w : World) (r1 : Rep w (.sl jab) [v1] l) (r2 : Rep w (.sl jab) [v2] l2) (f1 : Fit (.sl jab) l) (f2 : Fit (.sl jab) l2) :
 Calls Try.prog 65 #[.agg #[v1],.agg #[v2]] w (RetB w (eqT (.sl jab) l l2)) := by
 obtain ⟨p,c,css,h1,a2,a3,a4,a5⟩ := r1;obtain ⟨q,d,dss,h2,b2,b3,b4,b5⟩ := r2
 cases h1;cases h2
 have a6 : ∀ c ∈ css,c.length = jab.sz := fun c hc => by obtain ⟨i,hi,rfl⟩ := List.mem_iff_getElem.1 hc;obtain ⟨_,h⟩ := a5.get' i (by rw [← a5.length];exact hi);exact h.size
 have b6 : ∀ c ∈ dss,c.length = jab.sz := fun c hc => by obtain ⟨i,hi,rfl⟩ := List.mem_iff_getElem.1 hc;obtain ⟨_,h⟩ := b5.get' i (by rw [← b5.length];exact hi);exact h.size
 have ao : ∀ c ∈ css,∀ u ∈ c,u.oneCell' = true := fun c hc => by obtain ⟨i,hi,rfl⟩ := List.mem_iff_getElem.1 hc;obtain ⟨_,h⟩ := a5.get' i (by rw [← a5.length];exact hi);exact h.one
 have bo : ∀ c ∈ dss,∀ u ∈ c,u.oneCell' = true := fun c hc => by obtain ⟨i,hi,rfl⟩ := List.mem_iff_getElem.1 hc;obtain ⟨_,h⟩ := b5.get' i (by rw [← b5.length];exact hi);exact h.one
 have C := hid (fun w1 (hw : Ext w w1) => equalLay_any 106 (by intro args w;kernel_rfl) p q l.length l2.length c d css dss (atB (eqT jab) l l2) w1 (by omega) (a2.ext hw) ao a6 a5.length (b2.ext hw) bo b6 b5.length (by
  intro i ci di W e1 e2 hW;have i1 : i < l.length := by rw [← a5.length];exact (List.getElem?_eq_some_iff.1 e1).1
  have i2 : i < l2.length := by rw [← b5.length];exact (List.getElem?_eq_some_iff.1 e2).1
  have s1 := a5.toGet i _ l[i] e1 (by simp);have s2 := b5.toGet i _ l2[i] e2 (by simp);rw [atB_in (x := l[i]) (y := l2[i]) (by simp) (by simp)];exact sameLayer_any _ _ _ _ W ((s1.ext hw).ext hW) ((s2.ext hw).ext hW) (f1 _ (by simp)) (f2 _ (by simp))))
 rw [eqT_list] at C;generalize eqT (.sl jab) l l2 = b at *;generalize l.length = n at *;generalize l2.length = m at *;clear a2 a5 a6 ao b2 b5 b6 bo f1 f2;go_enter Try.func65,Try.ntmps65;go_wp2_with fail;refine (C.out _ ((Ext.alloc _ _).trans (Ext.alloc _ _))).mono ?_;rintro e w1 ⟨rfl,e1⟩
 go_wp2;go_ret;exact ⟨rfl,((Ext.alloc _ _).trans (Ext.alloc _ _)).trans e1⟩
theorem layD_le {d : jab.T} (h : layD d = true) : d.2.2.2.1.length ≤ 64 ∧ d.2.2.2.2.1.length ≤ 8 := by
 obtain ⟨k,i,o,a,b,u⟩ := d;unfold layD layB at h;dsimp only at h ⊢;simp only [Bool.and_eq_true,jaz,decide_eq_true_eq] at h;obtain ⟨h1,h2,h3,_,h5,h6⟩ := h;have hm := mul_bd h2 h3
 have key : ∀ (k i o : Int) (x y : Nat),0 ≤ i * o ∧ i * o ≤ 64 → 1 ≤ i ∧ i ≤ 8 → 1 ≤ o ∧ o ≤ 8 → (x : Int) = wCnt k i o → (y : Int) = bCnt k i o → x ≤ 64 ∧ y ≤ 8 := by
  intro k i o x y h1 h2 h3 h4 h5;unfold wCnt at h4;unfold bCnt at h5
  split at h4 <;> split at h5 <;> (try split at h4) <;> (try split at h5) <;> (try split at h4) <;> (try split at h5) <;> omega
 exact key k i o _ _ hm h2 h3 h5 h6
theorem modGo_allS : ∀ {p : Option Int} {l : List jab.T},modGo p l = true → ∀ d ∈ l,layD d = true
 | _,[],_,d,hd => by simp at hd
 | p,x :: l,h,d,hd => by
   simp only [modGo,Bool.and_eq_true] at h;rcases List.mem_cons.1 hd with rfl | hd
   · exact h.1
   · exact modGo_allS h.2.2 d hd
theorem parF_small : ∀ {l : List jab.T},(∀ d ∈ l,layD d = true) → (parF l).length ≤ 72 * l.length
 | [],_ => by simp [parF]
 | d :: l,h => by
   have h1 := layD_le (h d (by simp));have h2 := parF_small (l := l) fun x hx => h x (by simp [hx])
   have : parF (d :: l) = ((d.2.2.2.1 : List Nat) ++ d.2.2.2.2.1) ++ parF l := by simp [parF]
   rw [this,List.length_append,List.length_append,List.length_cons];omega
theorem modB_par {l : List jab.T} (h : modB l = true) : (parF l).length ≤ 432 := by
 unfold modB at h;simp only [Bool.and_eq_true,decide_eq_true_eq] at h;have := parF_small (modGo_allS h.2.2);omega
end Go.Proofs.Ytmbckkcgiafagaa
