/- All gradients of a tape. -/
import Derived.Test.YtmbckkcgiafagaaZ22FnMode
import Derived.Test.YtmbckkcgiafagaaRgUFnMo
set_option linter.unusedSimpArgs false
set_option linter.unusedVariables false
set_option maxRecDepth 100000
set_option maxHeartbeats 16000000
namespace Go.Proofs.Ytmbckkcgiafagaa
open Go.RowKit
theorem hb_of_ownS {w : World} {B e g n s : Nat} {vs : List Value} (h : w.ownsRow B e s (.slice (some ⟨g,0,none⟩) n n) n vs) : HB w g vs.toArray e := by
 obtain ⟨h1,h2⟩ := h;rcases h2 with ⟨hv,h0⟩ | ⟨g',cap,cur,hv,hg,hh,hnn,hm,hs,ht⟩
 · cases hv
 · cases hv
   have e1 : cur.toList = vs := by rw [← ht];exact (List.take_of_length_le (by simp [hs])).symm
   have e2 : cur = vs.toArray := by rw [← e1]
   rw [← e2];exact hh
theorem ownEs_nils (w : World) (n : Nat) : OwnEs w jaa (List.replicate n [Value.int .i64 0,.int .i64 0,.slice none 0 0]) (List.replicate n []) (List.replicate n t0) := by
 refine ⟨by simp,by simp,fun i cs bs d h1 h2 h3 => ?_⟩
 by_cases hi : i < n
 · simp [hi] at h1 h2 h3
   subst h1;subst h2;subst h3;exact own_ten rfl own_nil
 · simp [hi] at h1
theorem Tens.cell {w : World} {p : Option Addr} {n : Nat} {css : List (List Value)} {vs : List jaa.T} (h : Tens w p n css vs) {j off : Nat} {cs : List Value} {u : Value} (hcs : css[j]? = some cs) (hu : cs[off]? = some u) : w.cell? (adr p (j * jaa.sz + off)) = some u := by
 obtain ⟨hj,rfl⟩ := List.getElem?_eq_some_iff.1 hcs;have h1 := (h.cs.elem h.size hj).cell off u hu;rw [jcu] at h1;have hadd : (adr p (j * jaa.sz)).add off = adr p (j * jaa.sz + off) := by unfold adr;rw [add_add]
 rwa [hadd] at h1
theorem Tens.elem {w : World} {p : Option Addr} {n : Nat} {css : List (List Value)} {vs : List jaa.T} (h : Tens w p n css vs) {j : Nat} {cs : List Value} (hcs : css[j]? = some cs) : Cs w (some (adr p (j * jaa.sz))) cs := by
 obtain ⟨hj,rfl⟩ := List.getElem?_eq_some_iff.1 hcs;exact h.cs.elem h.size hj
theorem seed_eq {sh : Nat → Nat × Nat} {ops : List shOp.T} (hT : jbz sh ops) (h1 : 1 ≤ ops.length) : seedT ops = tFill (sh (ops.length - 1)).1 (sh (ops.length - 1)).2 jcl := by
 obtain ⟨xs,e,_⟩ := jck hT (show ops.length - 1 < ops.length by omega);unfold seedT;rw [e];rfl
theorem zero_eq {sh : Nat → Nat × Nat} {ops : List shOp.T} (hT : jbz sh ops) {i : Nat} (hi : i < ops.length) : zeroT ops i = tFill (sh i).1 (sh i).2 0 := by
 obtain ⟨xs,e,_⟩ := jck hT hi;unfold zeroT;rw [e];rfl
theorem jbg.ext {w w' : World} {cs : List Value} {s : Nat × Nat} {d : jaa.T} (h : jbg w cs s d) (e : Ext w w') : jbg w' cs s d := by
 obtain ⟨q,c,us,xs,h1,h2,h3,h4,h5,h6,h7⟩ := h;exact ⟨q,c,us,xs,h1,h2,h3,h4.ext e,h5,h6,h7⟩
theorem TenAtB.ext {fg : List Nat} {w w' : World} {cs : List Value} {s : Nat × Nat} {d : jaa.T} (h : TenAtB fg w cs s d) (e : Ext w w') : TenAtB fg w' cs s d := by
 obtain ⟨q,c,us,xs,h1,h2,h3,h4,h5,h6,h7⟩ := h;exact ⟨q,c,us,xs,h1,h2,h3,fun W S hS ch => h4 W S hS ((Chg.of_ext e).trans ch),h5,h6,h7⟩
theorem has_shaped {sh : Nat → Nat × Nat} {ops : List shOp.T} {gs : List (Option jaa.T)} (h : GsOk sh gs) (hl : gs.length = ops.length) (lo : Nat) {j : Nat} (hj : j < ops.length) (hh : (hasG gs).getD j false = true) : jbk (sh j) ((memG ops gs lo).getD j t0) := by
 rw [hasG_get _ (by omega)] at hh;rw [memG_get _ _ hj]
 cases hg : gs.getD j none with
 | none => rw [hg] at hh;cases hh
 | some t => exact h j t hg
theorem RepF.ten {fs : List Nat} {w : World} {s : Nat × Nat} {r c : Int} {q : Option Addr} {n k : Nat} {d : jaa.T} (h : RepF fs w (.agg #[.int .i64 r,.int .i64 c,.slice q n k]) d) (hs : jbk s d) : jbg w [.int .i64 r,.int .i64 c,.slice q n k] s d := by
 obtain ⟨cs,e,hr⟩ := h.here;obtain ⟨q',c',us,rfl,_⟩ := jay hr;simp only [ofCs,Sh.agg,if_true,Value.agg.injEq] at e;have e2 := congrArg Array.toList e;simp only at e2;rw [e2];exact tenAt_of hr hs
theorem RepV.cells {w : World} {u : Value} {d : jaa.T} (h : RepV w u d) : ∃ (r c : Int) (q : Option Addr) (n k : Nat),u = .agg #[.int .i64 r,.int .i64 c,.slice q n k] := by
 obtain ⟨cs,rfl,hr⟩ := h;obtain ⟨q,c,us,rfl,_⟩ := jay hr;exact ⟨_,_,_,_,_,rfl⟩
theorem op_nat {sh : Nat → Nat × Nat} {i : Nat} {o : shOp.T} (h : OpOk sh i o) (hk : o.1 ≠ 0) : ∃ k a b : Nat,o.1 = (k : Int) ∧ o.2.1 = (a : Int) ∧ o.2.2.1 = (b : Int) ∧ a < i ∧ b < i := by
 cases h with
 | inp => exact absurd rfl hk
 | add a b ha hb => exact ⟨1,a,b,rfl,rfl,rfl,ha,hb⟩
 | addR a b ha hb => exact ⟨2,a,b,rfl,rfl,rfl,ha,hb⟩
 | mul a b ha hb => exact ⟨3,a,b,rfl,rfl,rfl,ha,hb⟩
 | mulR a b ha hb => exact ⟨4,a,b,rfl,rfl,rfl,ha,hb⟩
 | scl a z ha => exact ⟨5,a,0,rfl,rfl,rfl,ha,by omega⟩
 | mm a b ha hb => exact ⟨6,a,b,rfl,rfl,rfl,ha,hb⟩
 | turn a ha => exact ⟨7,a,0,rfl,rfl,rfl,ha,by omega⟩
 | relu a ha => exact ⟨8,a,0,rfl,rfl,rfl,ha,by omega⟩
 | sqr a ha => exact ⟨9,a,0,rfl,rfl,rfl,ha,by omega⟩
 | sum a ha => exact ⟨10,a,0,rfl,rfl,rfl,ha,by omega⟩
theorem op_vals2 {w : World} {cs : List Value} {d : shOp.T} (h : Rep w shOp cs d) : ∃ (zb : Nat) (q : Option Addr) (m cc : Nat),cs = [.int .i64 d.1,.int .i64 d.2.1,.int .i64 d.2.2.1,.float .f32 zb,.int .i64 d.2.2.2.2.1.1,.int .i64 d.2.2.2.2.1.2.1,.slice q m cc] := by
 obtain ⟨_,_,rfl,rfl,_,_,rfl,rfl,_,_,rfl,rfl,_,_,rfl,⟨zb,rfl,hz⟩,ct,_,rfl,ht,rfl⟩ := h;obtain ⟨q,c,us,rfl,_⟩ := jay ht;exact ⟨_,_,_,_,rfl⟩
theorem cn_one32 : cn .f32 1065353216 = jcl := by decide +kernel
theorem gradients_any {sh : Nat → Nat × Nat} (p q : Option Addr) (n c k : Nat) (css vcs : List (List Value)) (ops : List shOp.T) (w : World) (O : Ops w p n css ops) (V : Tens w q n vcs (jb7 ops n)) (hT : jbz sh ops) (h1 : 1 ≤ n) :
 Calls Try.prog 68 #[.slice p n c,.slice q n k] w fun e w' => ∃ g gcs,e = .returned (.slice (some ⟨g,0,none⟩) n n) ∧ Tens w' (some ⟨g,0,none⟩) n gcs (jca ops) ∧ Ext w w' := by
 have hlen := O.len;have hn : n ≤ 48 := by have := hT.len;omega
 have hps : p.isSome = true := O.cs.some_of (s := 7) (i := 0) O.size (by decide) (by have := O.cnt;omega);have hqs : q.isSome = true := V.cs.some_of (s := 3) (i := 0) V.size (by decide) (by have := V.cnt;omega);have HLen := hid hlen;have HT := hid hT
 have hva : Hid (∀ j,j < n → ∃ cs,vcs[j]? = some cs ∧ jbg w cs (sh j) (vAt ops j)) := hid (fun j hj => by
  obtain ⟨cs,h1,h2⟩ := V.at' (sh := sh) (fun j hj => vals_shaped hT n (by omega) j hj) hj;rw [valsT_at ops hj] at h2;exact ⟨cs,h1,h2⟩)
 clear hlen hT;go_enter Try.func68,Try.ntmps68;go_wp2_with (first | ((with_reducible show wpList _ _ _ (Oper.mk _ (Op.makeSlice 59 _ _) _ _ _ _ :: _) _ _);refine wl_make w.heap.size n rfl rfl rfl rfl (by unfold maxLen;omega) (by omega) (Nat.le_refl _) ?_;intro go w1 own1 e1) | ((with_reducible show wpList _ _ _ (Oper.mk _ (Op.makeSlice 146 _ _) _ _ _ _ :: _) _ _);refine wl_make (w1.heap.size + 1) n rfl rfl rfl rfl (by unfold maxLen;omega) (by omega) (by simp) ?_;intro gh w3 own3 e3));obtain ⟨L,hL⟩ : ∃ L : Nat,(n : Int) - 1 = (L : Int) := ⟨n - 1,by omega⟩;have hLn : L < n := by omega
 have hLe : L = n - 1 := by omega
 rw [hL];have own1' : w1.ownsRow w.heap.size 27 3 (.slice (some ⟨go,0,none⟩) n n) n (madeCells (Value.agg #[Value.int .i64 0,.int .i64 0,.slice none 0 0]).cells (n * 3)).toList := own1;rw [made_tens] at own1';rw [made_bools] at own3;obtain ⟨W2,hW2⟩ : ∃ W2,W2 = w1.alloc (.cells #[.slice (some ⟨go,0,none⟩) n n] 59) := ⟨_,rfl⟩;obtain ⟨W4,hW4⟩ : ∃ W4,W4 = w3.alloc (.cells #[.slice (some ⟨gh,0,none⟩) n n] 146) := ⟨_,rfl⟩;have hbo : HB W2 w1.heap.size #[.slice (some ⟨go,0,none⟩) n n] 59 := by rw [hW2];exact HB.new _ _ _
 have hbh : HB W4 w3.heap.size #[.slice (some ⟨gh,0,none⟩) n n] 146 := by rw [hW4];exact HB.new _ _ _
 have e2 : Ext w1 W2 := by rw [hW2];exact Ext.alloc _ _
 have e4 : Ext w3 W4 := by rw [hW4];exact Ext.alloc _ _
 rw [← hW2] at e3;rw [← hW4];have hgo1 := jas own1' go rfl;have hgo2 := own_lt own1' go rfl;have hgh1 := jas own3 gh rfl;have hgh2 := own_lt own3 gh rfl;have hs2 : W2.heap.size = w1.heap.size + 1 := by rw [hW2];simp
 have hs3 := e3.size;have hs4 : W4.heap.size = w3.heap.size + 1 := by rw [hW4];simp
 have e14 := (e2.trans e3).trans e4
 have G0 : GSt W4 W4.heap.size w3.heap.size gh w1.heap.size go n (List.replicate n false) (List.replicate n [Value.int .i64 0,.int .i64 0,.slice none 0 0]) (List.replicate n []) (List.replicate n t0) :=
  ⟨hbh,(hb_of_ownS own3).ext e4,(hbo.ext e3).ext e4,(hb_of_ownS own1').ext e14,ownEs_nils _ _,by simp,by simp,by simp,by omega,by omega,by omega,by omega,by omega,by omega⟩
 have X4 := e1.trans e14;obtain ⟨bo,hbo'⟩ : ∃ b,b = w1.heap.size := ⟨_,rfl⟩;obtain ⟨bh,hbh'⟩ : ∃ b,b = w3.heap.size := ⟨_,rfl⟩;obtain ⟨B,hB'⟩ : ∃ b,b = W4.heap.size := ⟨_,rfl⟩;rw [← hbo',← hbh'];rw [← hbo',← hbh',← hB'] at G0;have hB : B ≤ W4.heap.size := by omega
 have hBw : w.heap.size ≤ B := by have := X4.size;omega
 have hlo : w.heap.size ≤ go ∧ w.heap.size ≤ gh := by have := e1.size;omega
 clear hW2 hW4 hbo hbh e2 e4 e3 hgo1 hgo2 hgh1 hgh2 hs2 hs3 hs4 e14 own1 own1' own3 hbo' hbh' hB';obtain ⟨cvL,hcL,hvL⟩ := hva.out L hLn;obtain ⟨qL,kL,uL,xL,rfl,hvLe,lL,f1,f2,f3,f4⟩ := hvL;have hsL : jam (sh L) := HT.out.side L (by rw [HLen.out];exact hLn);have hseed : Hid (seedT ops = tFill (sh L).1 (sh L).2 jcl) := hid (by rw [hLe,← HLen.out];exact seed_eq HT.out (by rw [HLen.out];exact h1));have HcL := hid hcL;obtain ⟨rL,hrL⟩ : ∃ r,r = (sh L).1 := ⟨_,rfl⟩;obtain ⟨cL,hcL'⟩ : ∃ r,r = (sh L).2 := ⟨_,rfl⟩;rw [← hrL,← hcL'] at HcL hseed;have hside : 1 ≤ rL ∧ rL ≤ 16 ∧ 1 ≤ cL ∧ cL ≤ 16 := by rw [hrL,hcL'];exact hsL
 obtain ⟨s1,s2,s3,s4⟩ := hside;have HrL := hid (show (rL,cL) = sh L by rw [hrL,hcL']);have HL := hid hL;have HLe := hid hLe;clear hcL hvLe f1 f2 f3 f4 lL hrL hcL' hsL hL hLe;have eD := Ext.drew W4;have V5 := V.ext (X4.trans eD);have G5 := G0.ext eD;refine jal (n := 13) (S := fun W => Ext W4.drew W) (by kernel_rfl) rfl ?_;have hS0 : Ext W4.drew W4.drew := Ext.refl _;refine jad (k := 0) (.func (.func 109) #[] #[.pointer (some ⟨bh,0,none⟩),.pointer (some ⟨bo,0,none⟩)]) (by kernel_rfl) rfl rfl (fun _ _ _ h => h) hS0 (fun W hW => by go_simp) ?_
 (try simp only [pv1,pv2,pv3])
 simp only [Act.put,jab,pu1,pu2,pu3,pu4,pu5];refine jad (k := 1) (.int .i64 (L : Int)) (by kernel_rfl) rfl rfl (fun _ _ _ h => h) hS0 (fun W hW => by go_simp) ?_
 (try simp only [pv1,pv2,pv3])
 simp only [Act.put,jab,pu1,pu2,pu3,pu4,pu5];refine jad (k := 2) (.slice q n k) (by kernel_rfl) rfl rfl (fun _ _ _ h => h) hS0 (fun W hW => by go_simp) ?_
 (try simp only [pv1,pv2,pv3])
 simp only [Act.put,jab,pu1,pu2,pu3,pu4,pu5];refine jad (k := 3) (.int .i64 (L : Int)) (by kernel_rfl) rfl rfl (fun _ _ _ h => h) hS0 (fun W hW => by go_simp) ?_
 (try simp only [pv1,pv2,pv3])
 simp only [Act.put,jab,pu1,pu2,pu3,pu4,pu5];refine jbi (k := 4) (p := q) (m := n) (c := k) (kk := .i64) (j := L) (i := (L : Int)) (by kernel_rfl) rfl rfl (fun _ _ _ h => h) hS0 rfl (by simp [Act.eval]) (by simp [Act.eval]) rfl hqs hLn ?_
 (try simp only [pv1,pv2,pv3])
 simp only [Act.put,jab,pu1,pu2,pu3,pu4,pu5];refine hs_fa (k := 5) (p := q) (i := L * jaa.sz) (off := 0) (by kernel_rfl) rfl rfl (fun _ _ _ h => h) hS0 rfl (by simp [Act.eval]) fo_implTensor_0 ?_
 (try simp only [pv1,pv2,pv3])
 simp only [Act.put,jab,pu1,pu2,pu3,pu4,pu5];refine hs_ld1 (k := 6) (q := adr q (L * jaa.sz + 0)) (u := .int .i64 rL) (by kernel_rfl) rfl rfl (fun _ _ _ h => h) hS0 rfl (by simp [Act.eval]) (fun W hW => by exact (V5.ext hW).cell HcL.out rfl) ?_
 (try simp only [pv1,pv2,pv3])
 simp only [Act.put,jab,pu1,pu2,pu3,pu4,pu5];refine jad (k := 7) (.slice q n k) (by kernel_rfl) rfl rfl (fun _ _ _ h => h) hS0 (fun W hW => by go_simp) ?_
 (try simp only [pv1,pv2,pv3])
 simp only [Act.put,jab,pu1,pu2,pu3,pu4,pu5];refine jad (k := 8) (.int .i64 (L : Int)) (by kernel_rfl) rfl rfl (fun _ _ _ h => h) hS0 (fun W hW => by go_simp) ?_
 (try simp only [pv1,pv2,pv3])
 simp only [Act.put,jab,pu1,pu2,pu3,pu4,pu5];refine jbi (k := 9) (p := q) (m := n) (c := k) (kk := .i64) (j := L) (i := (L : Int)) (by kernel_rfl) rfl rfl (fun _ _ _ h => h) hS0 rfl (by simp [Act.eval]) (by simp [Act.eval]) rfl hqs hLn ?_
 (try simp only [pv1,pv2,pv3])
 simp only [Act.put,jab,pu1,pu2,pu3,pu4,pu5];refine hs_fa (k := 10) (p := q) (i := L * jaa.sz) (off := 1) (by kernel_rfl) rfl rfl (fun _ _ _ h => h) hS0 rfl (by simp [Act.eval]) fo_implTensor_1 ?_
 (try simp only [pv1,pv2,pv3])
 simp only [Act.put,jab,pu1,pu2,pu3,pu4,pu5];refine hs_ld1 (k := 11) (q := adr q (L * jaa.sz + 1)) (u := .int .i64 cL) (by kernel_rfl) rfl rfl (fun _ _ _ h => h) hS0 rfl (by simp [Act.eval]) (fun W hW => by exact (V5.ext hW).cell HcL.out rfl) ?_
 (try simp only [pv1,pv2,pv3])
 simp only [Act.put,jab,pu1,pu2,pu3,pu4,pu5];refine jan (k := 12) (by kernel_rfl) ?_;refine jav (f := 111) (args := #[.int .i64 rL,.int .i64 cL,.float .f32 1065353216]) rfl rfl rfl Try.func111 rfl (by kernel_rfl) (by simp [Act.eval]) (filledN_any rL cL 1065353216 W4.drew s1 s2 s3 s4) ?_;rintro e W5 ⟨qf,kf,vf,rfl,ownf,hff,ef⟩
 rw [List.length_replicate] at ownf ⊢;rw [cn_one32] at hff;refine ⟨_,rfl,ef,?_⟩
 (try simp only [pv1,pv2,pv3])
 simp only [Act.put,jab,pu1,pu2,pu3,pu4,pu5];refine ja7 (k := 13) (by kernel_rfl) rfl ?_;have G6 := G5.ext ef;have hB6 : B ≤ W5.heap.size := by have := eD.size;have := ef.size;omega
 have tA : jbg W5 [.int .i64 rL,.int .i64 cL,.slice qf (rL * cL) kf] (rL,cL) (tFill rL cL jcl) := ⟨qf,kf,vf,_,rfl,rfl,by simp,jbt ownf,hff,(jbb ownf).1,(jbb ownf).2⟩;have KG := hid (give_any B bh gh bo go n L _ _ _ _ _ (rL,cL) _ W5 G6 hB6 hLn hn tA ⟨s1,s2,s3,s4⟩ (fun h => by simp [List.getD_eq_getElem?_getD,hLn] at h));have X5 := X4.trans (eD.trans ef);clear hS0 G5 V5 G6 tA ownf hff ef eD;go_wp2_with fail;refine KG.out.mono ?_;rintro e W6 ⟨rfl,css6,bss6,G7,ch6⟩
 have hst : (List.replicate n false).set L true = hasG (jbe ops 0) ∧ (List.replicate n t0).set L (if (List.replicate n false).getD L false = true then tAdd ((List.replicate n t0).getD L t0) (tFill rL cL jcl) else tFill rL cL jcl) = memG ops (jbe ops 0) n := by
  have h := gradT_zero ops (by rw [HLen.out];exact h1);rw [HLen.out] at h;rw [h.1,h.2,hseed.out,HLe.out];refine ⟨rfl,?_⟩;rw [if_neg (by simp [List.getD_eq_getElem?_getD,show n - 1 < n by omega])]
 rw [hst.1,hst.2] at G7;have X6 : Ext w W6 := X5.chg ch6 (fun b hb => by omega);have hB6 : B ≤ W6.heap.size := by have := ch6.size;omega
 clear hst ch6 KG G0 X5 X4 hB HcL hseed HrL s1 s2 s3 s4;go_wp2_with fail;go_loopw [9] (fun iv wr => ∃ (m : Nat) (cs' : List (List Value)) (bs' : List (List Nat)),m ≤ n ∧ iv = .int .i64 ((n : Int) - 1 - (m : Int)) ∧ GSt wr B bh gh bo go n (hasG (jbe ops m)) cs' bs' (memG ops (jbe ops m) (n - m)) ∧ Ext w wr ∧ B ≤ wr.heap.size) (fun iv _ => (intOf iv + 1).toNat)
 case atStart => exact ⟨0,css6,bss6,by omega,by have := HL.out;rw [← this];simp,G7,X6,hB6⟩
 case round =>
  clear G7 X6 hB6;obtain ⟨m,cs',bs',hm,rfl,G7,X6,hB6⟩ := hrel
  by_cases hlt : m < n
  · obtain ⟨i,hi⟩ : ∃ i : Nat,(n : Int) - 1 - (m : Int) = (i : Int) := ⟨n - 1 - m,by omega⟩
    have hin : i < n := by omega
    have Hie := hid (show i = ops.length - 1 - m by rw [HLen.out];omega);have Him := hid (show n - m = i + 1 by omega);have Him' := hid (show n - (m + 1) = i by omega);have Hi2 := hid (show (i : Int) - 1 = (n : Int) - 1 - ((m + 1 : Nat) : Int) by omega);rw [hi];rw [Him.out] at G7;have Hi := hid hi;clear hi;obtain ⟨oc,hoc,hro⟩ := O.at' hin;have hro' := hro;obtain ⟨zb,oq,om,ocp,hoc'⟩ := op_vals2 hro;obtain ⟨ok,hok⟩ : ∃ x,x = (ops.getD i o0).1 := ⟨_,rfl⟩;obtain ⟨oa,hoa⟩ : ∃ x,x = (ops.getD i o0).2.1 := ⟨_,rfl⟩;obtain ⟨ob,hob⟩ : ∃ x,x = (ops.getD i o0).2.2.1 := ⟨_,rfl⟩;obtain ⟨orr,horr⟩ : ∃ x,x = (ops.getD i o0).2.2.2.2.1.1 := ⟨_,rfl⟩;obtain ⟨occ,hocc⟩ : ∃ x,x = (ops.getD i o0).2.2.2.2.1.2.1 := ⟨_,rfl⟩;rw [← hok,← hoa,← hob,← horr,← hocc] at hoc';subst hoc';have Ha := hid hoa;have Hb := hid hob;have hop := HT.out.ok i (by rw [HLen.out];exact hin);have Hk := hid hok;clear hok hoa hob horr hocc;obtain ⟨W1,hW1⟩ : ∃ W1,W1 = wr.alloc (.cells #[.int .i64 ok,.int .i64 oa,.int .i64 ob,.float .f32 zb,.int .i64 orr,.int .i64 occ,.slice oq om ocp] 98) := ⟨_,rfl⟩;have e1 : Ext wr W1 := by rw [hW1];exact Ext.alloc _ _
    have B10 : HB W1 wr.heap.size #[.int .i64 ok,.int .i64 oa,.int .i64 ob,.float .f32 zb,.int .i64 orr,.int .i64 occ,.slice oq om ocp] 98 := by rw [hW1];exact HB.new _ _ _
    have G8 := G7.ext e1;have y6 := G8.hb.cell 0 rfl;have hcs := cs_heap G8.hr;have hcO := (O.ext X6).cs;have hlh : ((hasG (jbe ops m)).map Value.bool).length = n := by rw [List.length_map];exact G7.hl
    have hgt : ((hasG (jbe ops m)).map Value.bool)[i]? = some (.bool ((hasG (jbe ops m)).getD i false)) := by have h := G7.hl;simp [show i < (hasG (jbe ops m)).length by omega]
    have Hoc := hid hoc;have Hlh := hid hlh;have Hgt := hid hgt;have hcnt := O.cnt;have hsz := O.size;have X8 := X6.trans e1;rw [hW1] at y6 hcs;clear hoc hlh hgt hro
    cases hhas : (jbe ops m).getD i none with
    | none =>
      have Hnone := hid hhas;have hf : (hasG (jbe ops m)).getD i false = false := by rw [hasG_get _ (by rw [jcc,HLen.out];exact hin),hhas];rfl
      have Hf := hid hf;clear hhas hf;go_wp2_with (first | ((with_reducible show gx2);first | (refine jax (s := shOp) (j := i) rfl rfl rfl rfl (fun _ => rfl) rfl rfl rfl hcO hsz hcnt hin hps Hoc.out ?_;simp only [ofCs,Sh.agg,if_true]) | (refine jbl rfl rfl rfl rfl (fun _ => rfl) rfl rfl hcs Hlh.out (by omega) (by omega) ?_;intro u hu;rw [Int.toNat_natCast] at hu;replace hu := Hgt.out.symm.trans hu;rw [Hf.out] at hu;cases hu)));rw [← hW1];obtain ⟨cvi,hci,hvi⟩ := hva.out i hin;obtain ⟨qi,ki,ui,xi,rfl,_,_,_,_,_,_⟩ := hvi;have Hci := hid hci;have hsi := HT.out.side i (by rw [HLen.out];exact hin);have Hz := hid (zero_eq HT.out (show i < ops.length by rw [HLen.out];exact hin));obtain ⟨ri,hri⟩ : ∃ r,r = (sh i).1 := ⟨_,rfl⟩;obtain ⟨ci,hci'⟩ : ∃ r,r = (sh i).2 := ⟨_,rfl⟩;rw [← hri,← hci'] at Hci Hz hsi;obtain ⟨s1,s2,s3,s4⟩ := hsi;clear hci hri hci' hW1 y6 hcs;have eD := Ext.drew W1;have V5 := V.ext (X8.trans eD);have o5 := G8.ob.ext eD;refine jal (n := 14) (S := fun W => Ext W1.drew W) (by kernel_rfl) rfl ?_;have hS0 : Ext W1.drew W1.drew := Ext.refl _;refine jad (k := 0) (.slice (some ⟨go,0,none⟩) n n) (by kernel_rfl) rfl rfl (fun _ _ _ h => h) hS0 (fun W hW => by have y := (o5.ext hW).cell 0 rfl;go_simp) ?_
      (try simp only [pv1,pv2,pv3])
      simp only [Act.put,jab,pu1,pu2,pu3,pu4,pu5];refine jad (k := 1) (.int .i64 (i : Int)) (by kernel_rfl) rfl rfl (fun _ _ _ h => h) hS0 (fun W hW => by go_simp) ?_
      (try simp only [pv1,pv2,pv3])
      simp only [Act.put,jab,pu1,pu2,pu3,pu4,pu5];refine jad (k := 2) (.slice q n k) (by kernel_rfl) rfl rfl (fun _ _ _ h => h) hS0 (fun W hW => by go_simp) ?_
      (try simp only [pv1,pv2,pv3])
      simp only [Act.put,jab,pu1,pu2,pu3,pu4,pu5];refine jad (k := 3) (.int .i64 (i : Int)) (by kernel_rfl) rfl rfl (fun _ _ _ h => h) hS0 (fun W hW => by go_simp) ?_
      (try simp only [pv1,pv2,pv3])
      simp only [Act.put,jab,pu1,pu2,pu3,pu4,pu5];refine jbi (k := 4) (p := q) (m := n) (c := k) (kk := .i64) (j := i) (i := (i : Int)) (by kernel_rfl) rfl rfl (fun _ _ _ h => h) hS0 rfl (by simp [Act.eval]) (by simp [Act.eval]) rfl hqs hin ?_
      (try simp only [pv1,pv2,pv3])
      simp only [Act.put,jab,pu1,pu2,pu3,pu4,pu5];refine hs_fa (k := 5) (p := q) (i := i * jaa.sz) (off := 0) (by kernel_rfl) rfl rfl (fun _ _ _ h => h) hS0 rfl (by simp [Act.eval]) fo_implTensor_0 ?_
      (try simp only [pv1,pv2,pv3])
      simp only [Act.put,jab,pu1,pu2,pu3,pu4,pu5];refine hs_ld1 (k := 6) (q := adr q (i * jaa.sz + 0)) (u := .int .i64 ri) (by kernel_rfl) rfl rfl (fun _ _ _ h => h) hS0 rfl (by simp [Act.eval]) (fun W hW => by exact (V5.ext hW).cell Hci.out rfl) ?_
      (try simp only [pv1,pv2,pv3])
      simp only [Act.put,jab,pu1,pu2,pu3,pu4,pu5];refine jad (k := 7) (.slice q n k) (by kernel_rfl) rfl rfl (fun _ _ _ h => h) hS0 (fun W hW => by go_simp) ?_
      (try simp only [pv1,pv2,pv3])
      simp only [Act.put,jab,pu1,pu2,pu3,pu4,pu5];refine jad (k := 8) (.int .i64 (i : Int)) (by kernel_rfl) rfl rfl (fun _ _ _ h => h) hS0 (fun W hW => by go_simp) ?_
      (try simp only [pv1,pv2,pv3])
      simp only [Act.put,jab,pu1,pu2,pu3,pu4,pu5];refine jbi (k := 9) (p := q) (m := n) (c := k) (kk := .i64) (j := i) (i := (i : Int)) (by kernel_rfl) rfl rfl (fun _ _ _ h => h) hS0 rfl (by simp [Act.eval]) (by simp [Act.eval]) rfl hqs hin ?_
      (try simp only [pv1,pv2,pv3])
      simp only [Act.put,jab,pu1,pu2,pu3,pu4,pu5];refine hs_fa (k := 10) (p := q) (i := i * jaa.sz) (off := 1) (by kernel_rfl) rfl rfl (fun _ _ _ h => h) hS0 rfl (by simp [Act.eval]) fo_implTensor_1 ?_
      (try simp only [pv1,pv2,pv3])
      simp only [Act.put,jab,pu1,pu2,pu3,pu4,pu5];refine hs_ld1 (k := 11) (q := adr q (i * jaa.sz + 1)) (u := .int .i64 ci) (by kernel_rfl) rfl rfl (fun _ _ _ h => h) hS0 rfl (by simp [Act.eval]) (fun W hW => by exact (V5.ext hW).cell Hci.out rfl) ?_
      (try simp only [pv1,pv2,pv3])
      simp only [Act.put,jab,pu1,pu2,pu3,pu4,pu5];refine jan (k := 12) (by kernel_rfl) ?_;refine jav (f := 111) (args := #[.int .i64 ri,.int .i64 ci,.float .f32 0]) rfl rfl rfl Try.func111 rfl (by kernel_rfl) (by simp [Act.eval]) (filledN_any ri ci 0 W1.drew s1 s2 s3 s4) ?_;rintro e W5 ⟨qf,kf,vf,rfl,ownf,hff,ef⟩
      rw [List.length_replicate] at ownf ⊢;rw [cn0] at hff;refine ⟨_,rfl,ef,?_⟩
      (try simp only [pv1,pv2,pv3])
      simp only [Act.put,jab,pu1,pu2,pu3,pu4,pu5];refine jbi (k := 13) (p := some ⟨go,0,none⟩) (m := n) (c := n) (kk := .i64) (j := i) (i := (i : Int)) (by kernel_rfl) rfl rfl (fun _ _ _ h => h) ef rfl (by simp [Act.eval]) (by simp [Act.eval]) rfl rfl hin ?_
      (try simp only [pv1,pv2,pv3])
      simp only [Act.put,jab,pu1,pu2,pu3,pu4,pu5];refine ja7 (k := 14) (by kernel_rfl) rfl ?_;have G9 := (G8.ext eD).ext ef;obtain ⟨W6,hr6,or6,ch6⟩ := run_stE (j := i) (y0 := .int .i64 ri) (y1 := .int .i64 ci) (y2 := .slice qf (ri * ci) kf) G9.or G9.els.all (by rw [G9.els.1,G9.ll];exact hin) rfl rfl rfl;refine ja4 rfl (w' := W6) (by have h := hr6;rw [← jbn] at h;simp [execOp,Act.eval,h]) ?_;have own6 := jag ownf ch6 (fun b hb => by have hb : b = go := hb;have := eD.size;have := e1.size;have := G9.lt;omega);obtain ⟨k1,k3,k4⟩ := own_mk (r := (ri : Int)) (c := (ci : Int)) (B := B) (List.length_replicate) (jak own6 (by have := eD.size;have := e1.size;omega)) hff;have kk : ∃ S,Chg S W5 W6 ∧ ∀ b,S b → b < B := ⟨fun b => b = go,ch6,fun b hb => by have := G9.lt;omega⟩;have X9 : Ext w W6 := ((X8.trans eD).trans ef).chg ch6 (fun b hb => by have hb : b = go := hb;omega)
      have G10 : ∃ cs2 bs2,GSt W6 B bh gh bo go n (hasG (jbe ops (m + 1))) cs2 bs2 (memG ops (jbe ops (m + 1)) (n - (m + 1))) := by
       have hn' := Hnone.out;have hst := step_none (by rw [← Hie.out];exact hn');rw [hst,Him'.out,memG_none (by rw [HLen.out];exact hin) hn',Hz.out];exact ⟨_,_,G9.hb.chg ch6 (fun h => G9.n1 h),G9.hr.chg ch6 (fun h => G9.n2 h),G9.ob.chg ch6 (fun h => G9.n3 h),or6,(OwnEs.put G9.els kk i k1 k3 k4 G9.lo).1,(OwnEs.put G9.els kk i k1 k3 k4 G9.lo).2,G9.hl,by rw [List.length_set];exact G9.ll,G9.lt,G9.n1,G9.n2,G9.n3,G9.n4,G9.n5⟩
      obtain ⟨cs10,bs10,G10⟩ := G10;have HG := hid G10;have hB10 : B ≤ W6.heap.size := by have := ch6.size;have := ef.size;have := eD.size;have := e1.size;omega
      clear G10 hr6 or6 ch6 ownf own6 k1 k3 k4 kk hff G9 hS0 V5 o5 eD ef G8 G7 B10;go_wp2;go_roundw
      case rel => exact ⟨m + 1,_,_,by omega,by rw [← Hi2.out],HG.out,X9,hB10⟩
      case measure => simp [intOf] <;> (have := Hi2.out;omega)
    | some g =>
      have Hsome := hid hhas;have hf : (hasG (jbe ops m)).getD i false = true := by rw [hasG_get _ (by rw [jcc,HLen.out];exact hin),hhas];rfl
      have Hf := hid hf;clear hhas hf
      by_cases hk : ok = 0
      · subst hk
        go_wp2_with (first | ((with_reducible show gx2);first | (refine jax (s := shOp) (j := i) rfl rfl rfl rfl (fun _ => rfl) rfl rfl rfl hcO hsz hcnt hin hps Hoc.out ?_;simp only [ofCs,Sh.agg,if_true]) | (refine jbl rfl rfl rfl rfl (fun _ => rfl) rfl rfl hcs Hlh.out (by omega) (by omega) ?_;intro u hu;rw [Int.toNat_natCast] at hu;replace hu := Hgt.out.symm.trans hu;rw [Hf.out] at hu;cases hu)));rw [← hW1];go_roundw
        case rel =>
         refine ⟨m + 1,cs',bs',by omega,by rw [← Hi2.out],?_,X8,by have := e1.size;omega⟩;rw [step_inp (by rw [← Hie.out];exact Hk.out.symm),Him'.out,← memG_some Hsome.out];exact G8
        case measure => simp [intOf] <;> (have := Hi2.out;omega)
      · have hkb : (ok == 0) = false := by simpa using hk
        have Hk0 := hid hk;clear hk;go_wp2_with (first | ((with_reducible show gx2);first | (refine jax (s := shOp) (j := i) rfl rfl rfl rfl (fun _ => rfl) rfl rfl rfl hcO hsz hcnt hin hps Hoc.out ?_;simp only [ofCs,Sh.agg,if_true]) | (refine jbl rfl rfl rfl rfl (fun _ => rfl) rfl rfl hcs Hlh.out (by omega) (by omega) ?_;intro u hu;rw [Int.toNat_natCast] at hu;replace hu := Hgt.out.symm.trans hu;rw [Hf.out] at hu;cases hu)));rw [← hW1];clear hW1 y6 hcs;obtain ⟨kN,a,b,ek,ea,eb,hai,hbi⟩ := op_nat hop (by rw [← Hk.out];exact Hk0.out);rw [← Hk.out] at ek;rw [← Ha.out] at ea;rw [← Hb.out] at eb;subst ek ea eb;have han : a < n := by omega
        have hbn : b < n := by omega
        obtain ⟨ca,hca,tva⟩ := hva.out a han;obtain ⟨cb,hcb,tvb⟩ := hva.out b hbn;have hGs := gradT_ok HT.out (by rw [HLen.out];exact h1) m (by rw [HLen.out];omega);have hgsh := hGs i g Hsome.out;have hci : i < cs'.length := by rw [G8.els.1,G8.ll];exact hin
        have hbi' : i < bs'.length := by rw [G8.els.2.1,G8.ll];exact hin
        have hmem : (memG ops (jbe ops m) (i + 1)).getD i t0 = g := by rw [memG_get _ _ (by rw [HLen.out];exact hin),Hsome.out]
        have hll : i < (memG ops (jbe ops m) (i + 1)).length := by rw [G8.ll];exact hin
        have hown := G8.els.2.2 i cs'[i] bs'[i] g (by simp) (by simp) (by rw [← hmem];simp [hll]);have tgB := tenAtB_of hown hgsh;have hfg : ∀ x ∈ bs'[i],B ≤ x ∧ x < W1.heap.size := fun x hx => ⟨G8.lo x (List.mem_flatten.2 ⟨bs'[i],List.getElem_mem hbi',hx⟩),hown.lt x hx⟩
        obtain ⟨fg,hfge⟩ : ∃ x,x = bs'[i] := ⟨_,rfl⟩;rw [← hfge] at tgB hfg;have hgE : Cs W1 (some (adr (some ⟨go,0,none⟩) (i * jaa.sz))) cs'[i] := (cs_heap G8.or).elem G8.els.all hci;obtain ⟨cg,hcg⟩ : ∃ x,x = cs'[i] := ⟨_,rfl⟩;rw [← hcg] at tgB hgE hown;have Hfg := hid hfg;have hcg3 : cg.length = jaa.sz := hown.rep.size;have hca3 : ca.length = jaa.sz := by obtain ⟨_,_,_,_,rfl,_⟩ := tva;rfl
        have hcb3 : cb.length = jaa.sz := by obtain ⟨_,_,_,_,rfl,_⟩ := tvb;rfl
        have eD := Ext.drew W1;have V5 := V.ext (X8.trans eD);have o5 := G8.ob.ext eD;have B11 := B10.ext eD;have hgE := hgE.ext eD;have Hca := hid hca;have Hcb := hid hcb;have hW8 : B ≤ W1.heap.size := by have := e1.size;omega
        have HK := hid (fun W (hW : Ext W1.drew W) => parts_any hop (by rw [← Hk.out];exact Hk0.out) (fun j hj => HT.out.side j (by rw [HLen.out];omega)) fg _ cg ca cb g (vAt ops a) (vAt ops b) W (tgB.ext (eD.trans hW)) (by rw [← Ha.out];exact tva.ext (X8.trans (eD.trans hW))) (by rw [← Hb.out];exact tvb.ext (X8.trans (eD.trans hW))) (hro'.ext (X8.trans (eD.trans hW))));rw [← Hk.out,Int.toNat_natCast] at HK;generalize hA : partA kN (ops.getD i o0).2.2.2.1 g (vAt ops a) (vAt ops b) = dA at HK;generalize hBB : partB kN g (vAt ops a) (vAt ops b) = dB at HK;have HA := hid hA;have HBB := hid hBB;have hsD := eD.size;clear hca hcb tva tvb hci hbi' hmem hll hown tgB hcg hA hBB hro' hfge hfg;have HGs := hid hGs;have Hgsh := hid hgsh;clear hGs hgsh;refine wp_cut (fun ua ub b11 b12 W => ∃ (xr xc : Int) (xq : Option Addr) (xn xk : Nat) (yr yc : Int) (yq : Option Addr) (yn yk : Nat),ua = .agg #[.int .i64 xr,.int .i64 xc,.slice xq xn xk] ∧ ub = .agg #[.int .i64 yr,.int .i64 yc,.slice yq yn yk] ∧ HB W b11 #[.int .i64 xr,.int .i64 xc,.slice xq xn xk] 27 ∧ HB W b12 #[.int .i64 yr,.int .i64 yc,.slice yq yn yk] 27 ∧ Ext W1.drew W ∧ (∃ fa,RepF fa W ua dA ∧ ∀ b ∈ fa,B ≤ b) ∧ (∃ fb,RepF fb W ub dB ∧ ∀ b ∈ fb,B ≤ b) ∧ W1.heap.size ≤ b11 ∧ W1.heap.size ≤ b12) (fun ua ub b11 b12 t => (((((((((((((((((((((t.put (some 69) (.agg #[.int .i64 (kN : Int),.int .i64 (a : Int),.int .i64 (b : Int),.float .f32 zb,.int .i64 orr,.int .i64 occ,.slice oq om ocp])).put (some 70) (.slice (some ⟨go,0,none⟩) n n)).put (some 71) (.int .i64 (i : Int))).put (some 72) (.pointer (some (adr (some ⟨go,0,none⟩) (i * jaa.sz))))).put (some 73) (ofCs jaa cg)).put (some 74) (.slice q n k)).put (some 75) (.pointer (some ⟨wr.heap.size,1,none⟩))).put (some 76) (.int .i64 (a : Int))).put (some 77) (.pointer (some (adr q (a * jaa.sz))))).put (some 78) (ofCs jaa ca)).put (some 79) (.slice q n k)).put (some 80) (.pointer (some ⟨wr.heap.size,2,none⟩))).put (some 81) (.int .i64 (b : Int))).put (some 82) (.pointer (some (adr q (b * jaa.sz))))).put (some 83) (ofCs jaa cb)).put (some 84) (.tuple #[ua,ub])).put (some 68) (.tuple #[ua,ub])).put (some 85) (ua)).put (some 86) (ub)).put (some 11) (.pointer (some ⟨b11,0,none⟩))).put (some 12) (.pointer (some ⟨b12,0,none⟩)))) ?_ ?_
        · refine jal (n := 22) (S := fun W => Ext W1.drew W) (by kernel_rfl) rfl ?_
          have hS0 : Ext W1.drew W1.drew := Ext.refl _;refine jad (k := 0) (.agg #[.int .i64 (kN : Int),.int .i64 (a : Int),.int .i64 (b : Int),.float .f32 zb,.int .i64 orr,.int .i64 occ,.slice oq om ocp]) (by kernel_rfl) rfl rfl (fun _ _ _ ⟨_,_,_,_,h,_⟩ => by cases h) hS0 (fun W hW => by have y0 := (B11.ext hW).cell 0 rfl;have y1 := (B11.ext hW).cell 1 rfl;have y2 := (B11.ext hW).cell 2 rfl;have y3 := (B11.ext hW).cell 3 rfl;have y4 := (B11.ext hW).cell 4 rfl;have y5 := (B11.ext hW).cell 5 rfl;have y6 := (B11.ext hW).cell 6 rfl;go_simp) ?_
          (try simp only [pv1,pv2,pv3])
          simp only [Act.put,jab,pu1,pu2,pu3,pu4,pu5];refine jad (k := 1) (.slice (some ⟨go,0,none⟩) n n) (by kernel_rfl) rfl rfl (fun _ _ _ ⟨_,_,_,_,h,_⟩ => by cases h) hS0 (fun W hW => by have y := (o5.ext hW).cell 0 rfl;go_simp) ?_
          (try simp only [pv1,pv2,pv3])
          simp only [Act.put,jab,pu1,pu2,pu3,pu4,pu5];refine jad (k := 2) (.int .i64 (i : Int)) (by kernel_rfl) rfl rfl (fun _ _ _ ⟨_,_,_,_,h,_⟩ => by cases h) hS0 (fun W hW => by go_simp) ?_
          (try simp only [pv1,pv2,pv3])
          simp only [Act.put,jab,pu1,pu2,pu3,pu4,pu5];refine jbi (k := 3) (p := some ⟨go,0,none⟩) (m := n) (c := n) (kk := .i64) (j := i) (i := (i : Int)) (by kernel_rfl) rfl rfl (fun _ _ _ ⟨_,_,_,_,h,_⟩ => by cases h) hS0 rfl (by simp [Act.eval]) (by simp [Act.eval]) rfl rfl hin ?_
          (try simp only [pv1,pv2,pv3])
          simp only [Act.put,jab,pu1,pu2,pu3,pu4,pu5];refine jby (k := 4) (q := adr (some ⟨go,0,none⟩) (i * jaa.sz)) (s := jaa) (cs := cg) (by kernel_rfl) rfl rfl (fun _ _ _ ⟨_,_,_,_,h,_⟩ => by cases h) hS0 rfl (by simp [Act.eval]) hcg3 (fun W hW => by exact hgE.ext hW) ?_
          (try simp only [pv1,pv2,pv3])
          simp only [Act.put,jab,pu1,pu2,pu3,pu4,pu5];refine jad (k := 5) (.slice q n k) (by kernel_rfl) rfl rfl (fun _ _ _ ⟨_,_,_,_,h,_⟩ => by cases h) hS0 (fun W hW => by go_simp) ?_
          (try simp only [pv1,pv2,pv3])
          simp only [Act.put,jab,pu1,pu2,pu3,pu4,pu5];refine jad (k := 6) (.pointer (some ⟨wr.heap.size,1,none⟩)) (by kernel_rfl) rfl rfl (fun _ _ _ ⟨_,_,_,_,h,_⟩ => by cases h) hS0 (fun W hW => by go_simp) ?_
          (try simp only [pv1,pv2,pv3])
          simp only [Act.put,jab,pu1,pu2,pu3,pu4,pu5];refine jad (k := 7) (.int .i64 (a : Int)) (by kernel_rfl) rfl rfl (fun _ _ _ ⟨_,_,_,_,h,_⟩ => by cases h) hS0 (fun W hW => by have y := (B11.ext hW).cell 1 rfl;go_simp) ?_
          (try simp only [pv1,pv2,pv3])
          simp only [Act.put,jab,pu1,pu2,pu3,pu4,pu5];refine jbi (k := 8) (p := q) (m := n) (c := k) (kk := .i64) (j := a) (i := (a : Int)) (by kernel_rfl) rfl rfl (fun _ _ _ ⟨_,_,_,_,h,_⟩ => by cases h) hS0 rfl (by simp [Act.eval]) (by simp [Act.eval]) rfl hqs han ?_
          (try simp only [pv1,pv2,pv3])
          simp only [Act.put,jab,pu1,pu2,pu3,pu4,pu5];refine jby (k := 9) (q := adr q (a * jaa.sz)) (s := jaa) (cs := ca) (by kernel_rfl) rfl rfl (fun _ _ _ ⟨_,_,_,_,h,_⟩ => by cases h) hS0 rfl (by simp [Act.eval]) hca3 (fun W hW => by exact (V5.ext hW).elem Hca.out) ?_
          (try simp only [pv1,pv2,pv3])
          simp only [Act.put,jab,pu1,pu2,pu3,pu4,pu5];refine jad (k := 10) (.slice q n k) (by kernel_rfl) rfl rfl (fun _ _ _ ⟨_,_,_,_,h,_⟩ => by cases h) hS0 (fun W hW => by go_simp) ?_
          (try simp only [pv1,pv2,pv3])
          simp only [Act.put,jab,pu1,pu2,pu3,pu4,pu5];refine jad (k := 11) (.pointer (some ⟨wr.heap.size,2,none⟩)) (by kernel_rfl) rfl rfl (fun _ _ _ ⟨_,_,_,_,h,_⟩ => by cases h) hS0 (fun W hW => by go_simp) ?_
          (try simp only [pv1,pv2,pv3])
          simp only [Act.put,jab,pu1,pu2,pu3,pu4,pu5];refine jad (k := 12) (.int .i64 (b : Int)) (by kernel_rfl) rfl rfl (fun _ _ _ ⟨_,_,_,_,h,_⟩ => by cases h) hS0 (fun W hW => by have y := (B11.ext hW).cell 2 rfl;go_simp) ?_
          (try simp only [pv1,pv2,pv3])
          simp only [Act.put,jab,pu1,pu2,pu3,pu4,pu5];refine jbi (k := 13) (p := q) (m := n) (c := k) (kk := .i64) (j := b) (i := (b : Int)) (by kernel_rfl) rfl rfl (fun _ _ _ ⟨_,_,_,_,h,_⟩ => by cases h) hS0 rfl (by simp [Act.eval]) (by simp [Act.eval]) rfl hqs hbn ?_
          (try simp only [pv1,pv2,pv3])
          simp only [Act.put,jab,pu1,pu2,pu3,pu4,pu5];refine jby (k := 14) (q := adr q (b * jaa.sz)) (s := jaa) (cs := cb) (by kernel_rfl) rfl rfl (fun _ _ _ ⟨_,_,_,_,h,_⟩ => by cases h) hS0 rfl (by simp [Act.eval]) hcb3 (fun W hW => by exact (V5.ext hW).elem Hcb.out) ?_
          (try simp only [pv1,pv2,pv3])
          simp only [Act.put,jab,pu1,pu2,pu3,pu4,pu5];refine hs_three (x := 15) (y := 19) (z := 20) (by kernel_rfl) ?_ ?_ ?_
          · refine jav (f := 112) (args := #[.agg #[.int .i64 (kN : Int),.int .i64 (a : Int),.int .i64 (b : Int),.float .f32 zb,.int .i64 orr,.int .i64 occ,.slice oq om ocp],ofCs jaa cg,ofCs jaa ca,ofCs jaa cb]) rfl rfl rfl Try.func112 rfl (by kernel_rfl) (by simp [Act.eval]) (HK.out W1.drew hS0) ?_
            rintro e Wc ⟨ua,ub,fa,fb,rfl,ra1,rb1,ma,mb,ec⟩
            have szc := ec.size;have szE := (hS0).size;have eWc := (hS0).trans ec;refine ⟨_,rfl,eWc,?_⟩
            (try simp only [pv1,pv2,pv3])
            simp only [Act.put,jab,pu1,pu2,pu3,pu4,pu5];refine jad (k := 16) (.tuple #[ua,ub]) (by kernel_rfl) rfl rfl (fun _ _ _ ⟨_,_,_,_,h,_⟩ => by cases h) eWc (fun W hW => by go_simp) ?_
            (try simp only [pv1,pv2,pv3])
            simp only [Act.put,jab,pu1,pu2,pu3,pu4,pu5];refine jad (k := 17) (ua) (by kernel_rfl) rfl rfl (fun _ _ _ ⟨_,_,_,_,h,_⟩ => by cases h) eWc (fun W hW => by go_simp) ?_
            (try simp only [pv1,pv2,pv3])
            simp only [Act.put,jab,pu1,pu2,pu3,pu4,pu5];refine jad (k := 18) (ub) (by kernel_rfl) rfl rfl (fun _ _ _ ⟨_,_,_,_,h,_⟩ => by cases h) eWc (fun W hW => by go_simp) ?_
            (try simp only [pv1,pv2,pv3])
            simp only [Act.put,jab,pu1,pu2,pu3,pu4,pu5];refine hs_two (k := 19) (l := 20) (dk := 11) (dl := 12) (Zk := #[.int .i64 0,.int .i64 0,.slice none 0 0]) (Zl := #[.int .i64 0,.int .i64 0,.slice none 0 0]) (tk := 27) (tl := 27) (by kernel_rfl) rfl rfl rfl rfl rfl rfl (by decide) (fun W b => by go_simp) (fun W b => by go_simp) (fun W hW => eWc.trans hW) ?_;intro b11 b12 Wt eW2 lb11 lb12 hne hb1 hb2
            (try simp only [pv1,pv2,pv3])
            simp only [Act.put,jab,pu1,pu2,pu3,pu4,pu5];have eT := eWc.trans eW2;have hsc := eWc.size;have lt1 := hb1.lt;have lt2 := hb2.lt;have ra2 := ra1.ext eW2;have rb2 := rb1.ext eW2;refine jan (k := 21) (by kernel_rfl) ?_;have ra3 := ra2;have rb3 := rb2;have hst := eT.size
            have na : ∀ b ∈ fa,b ≠ b11 ∧ b ≠ b12 ∧ B ≤ b := fun b hb => by
             rcases ma b hb with h | h
             · have := Hfg.out b h;omega
             · omega
            have nb : ∀ b ∈ fb,b ≠ b11 ∧ b ≠ b12 ∧ B ≤ b := fun b hb => by
             rcases mb b hb with h | h
             · have := Hfg.out b h;omega
             · omega
            obtain ⟨xr,xc,xq,xn,xk,rfl⟩ := ra2.here.cells;obtain ⟨yr,yc,yq,yn,yk,rfl⟩ := rb2.here.cells;obtain ⟨V1,hr1,B1',ch1⟩ := jaq (y0 := .int .i64 xr) (y1 := .int .i64 xc) (y2 := .slice xq xn xk) hb1 rfl rfl rfl;refine jaz (w' := V1) rfl rfl (by simp [execOp,Act.eval,hr1]) ?_;have eV1 : Ext W1.drew V1 := eT.chg ch1 (fun x hx => by have hx : x = b11 := hx;omega);refine ⟨eV1,?_⟩
            (try simp only [pv1,pv2,pv3])
            simp only [Act.put,jab,pu1,pu2,pu3,pu4,pu5];refine ja7 (k := 22) (by kernel_rfl) rfl ?_;have B2a := hb2.chg ch1 (fun h => by have h : b12 = b11 := h;omega);obtain ⟨V2,hr2,B2',ch2⟩ := jaq (y0 := .int .i64 yr) (y1 := .int .i64 yc) (y2 := .slice yq yn yk) B2a rfl rfl rfl;refine ja4 rfl (w' := V2) (by simp [execOp,Act.eval,hr2]) ?_;refine ⟨_,_,b11,b12,rfl,by simp only [Act.put,jab,pu1,pu2,pu3,pv1,pv2,pv3],xr,xc,xq,xn,xk,yr,yc,yq,yn,yk,rfl,rfl,B1'.chg ch2 (fun h => by have h : b11 = b12 := h;omega),B2',eV1.chg ch2 (fun x hx => by have hx : x = b12 := hx;omega),⟨fa,(ra3.chg ch1 (fun b hb h => (na b hb).1 h)).chg ch2 (fun b hb h => (na b hb).2.1 h),fun b hb => (na b hb).2.2⟩,⟨fb,(rb3.chg ch1 (fun b hb h => (nb b hb).1 h)).chg ch2 (fun b hb h => (nb b hb).2.1 h),fun b hb => (nb b hb).2.2⟩,by omega,by omega⟩
          · refine jcp (v := .pointer (some ⟨W1.drew.heap.size,0,none⟩)) (w' := W1.drew.alloc (.cells #[.int .i64 0,.int .i64 0,.slice none 0 0] 27)) rfl rfl (by go_simp) ?_
            have ab11 := Ext.alloc W1.drew (.cells #[.int .i64 0,.int .i64 0,.slice none 0 0] 27);have hb11 := HB.new W1.drew #[.int .i64 0,.int .i64 0,.slice none 0 0] 27;have lb11 := hb11.lt;obtain ⟨b11,hb11'⟩ : ∃ x,x = W1.drew.heap.size := ⟨_,rfl⟩;rw [← hb11'] at hb11 lb11;generalize W1.drew.alloc (.cells #[.int .i64 0,.int .i64 0,.slice none 0 0] 27) = Wa at *;rw [← hb11'];have eWa := (hS0).trans ab11;refine ⟨eWa,?_⟩
            (try simp only [pv1,pv2,pv3])
            simp only [Act.put,jab,pu1,pu2,pu3,pu4,pu5];refine hs_pair (x := 15) (y := 20) (by kernel_rfl) ?_ ?_
            · refine jav (f := 112) (args := #[.agg #[.int .i64 (kN : Int),.int .i64 (a : Int),.int .i64 (b : Int),.float .f32 zb,.int .i64 orr,.int .i64 occ,.slice oq om ocp],ofCs jaa cg,ofCs jaa ca,ofCs jaa cb]) rfl rfl rfl Try.func112 rfl (by kernel_rfl) (by simp [Act.eval]) (HK.out Wa eWa) ?_
              rintro e Wc ⟨ua,ub,fa,fb,rfl,ra1,rb1,ma,mb,ec⟩
              have szc := ec.size;have szE := (eWa).size;have eWc := (eWa).trans ec;refine ⟨_,rfl,eWc,?_⟩
              (try simp only [pv1,pv2,pv3])
              simp only [Act.put,jab,pu1,pu2,pu3,pu4,pu5];refine jad (k := 16) (.tuple #[ua,ub]) (by kernel_rfl) rfl rfl (fun _ _ _ ⟨_,_,_,_,h,_⟩ => by cases h) eWc (fun W hW => by go_simp) ?_
              (try simp only [pv1,pv2,pv3])
              simp only [Act.put,jab,pu1,pu2,pu3,pu4,pu5];refine jad (k := 17) (ua) (by kernel_rfl) rfl rfl (fun _ _ _ ⟨_,_,_,_,h,_⟩ => by cases h) eWc (fun W hW => by go_simp) ?_
              (try simp only [pv1,pv2,pv3])
              simp only [Act.put,jab,pu1,pu2,pu3,pu4,pu5];refine jad (k := 18) (ub) (by kernel_rfl) rfl rfl (fun _ _ _ ⟨_,_,_,_,h,_⟩ => by cases h) eWc (fun W hW => by go_simp) ?_
              (try simp only [pv1,pv2,pv3])
              simp only [Act.put,jab,pu1,pu2,pu3,pu4,pu5];have szc := ec.size;refine jan (k := 20) (by kernel_rfl) ?_;refine jcp (v := .pointer (some ⟨Wc.heap.size,0,none⟩)) (w' := Wc.alloc (.cells #[.int .i64 0,.int .i64 0,.slice none 0 0] 27)) rfl rfl (by go_simp) ?_;have ab12 := Ext.alloc Wc (.cells #[.int .i64 0,.int .i64 0,.slice none 0 0] 27);have hb12 := HB.new Wc #[.int .i64 0,.int .i64 0,.slice none 0 0] 27;have lb12 := hb12.lt;obtain ⟨b12,hb12'⟩ : ∃ x,x = Wc.heap.size := ⟨_,rfl⟩;rw [← hb12'] at hb12 lb12;generalize Wc.alloc (.cells #[.int .i64 0,.int .i64 0,.slice none 0 0] 27) = Wt at *;rw [← hb12'];have eWt := (eWc).trans ab12;refine ⟨eWt,?_⟩
              (try simp only [pv1,pv2,pv3])
              simp only [Act.put,jab,pu1,pu2,pu3,pu4,pu5];have hb1 := (hb11.ext ec).ext ab12;have hb2 := hb12;have eT := eWt;have ra2 := ra1.ext ab12;have rb2 := rb1.ext ab12;have hne : b11 ≠ b12 := by omega
              have lt1 := hb1.lt;have lt2 := hb2.lt;refine jan (k := 21) (by kernel_rfl) ?_;have ra3 := ra2;have rb3 := rb2;have hst := eT.size
              have na : ∀ b ∈ fa,b ≠ b11 ∧ b ≠ b12 ∧ B ≤ b := fun b hb => by
               rcases ma b hb with h | h
               · have := Hfg.out b h;omega
               · omega
              have nb : ∀ b ∈ fb,b ≠ b11 ∧ b ≠ b12 ∧ B ≤ b := fun b hb => by
               rcases mb b hb with h | h
               · have := Hfg.out b h;omega
               · omega
              obtain ⟨xr,xc,xq,xn,xk,rfl⟩ := ra2.here.cells;obtain ⟨yr,yc,yq,yn,yk,rfl⟩ := rb2.here.cells;obtain ⟨V1,hr1,B1',ch1⟩ := jaq (y0 := .int .i64 xr) (y1 := .int .i64 xc) (y2 := .slice xq xn xk) hb1 rfl rfl rfl;refine jaz (w' := V1) rfl rfl (by simp [execOp,Act.eval,hr1]) ?_;have eV1 : Ext W1.drew V1 := eT.chg ch1 (fun x hx => by have hx : x = b11 := hx;omega);refine ⟨eV1,?_⟩
              (try simp only [pv1,pv2,pv3])
              simp only [Act.put,jab,pu1,pu2,pu3,pu4,pu5];refine ja7 (k := 22) (by kernel_rfl) rfl ?_;have B2a := hb2.chg ch1 (fun h => by have h : b12 = b11 := h;omega);obtain ⟨V2,hr2,B2',ch2⟩ := jaq (y0 := .int .i64 yr) (y1 := .int .i64 yc) (y2 := .slice yq yn yk) B2a rfl rfl rfl;refine ja4 rfl (w' := V2) (by simp [execOp,Act.eval,hr2]) ?_;refine ⟨_,_,b11,b12,rfl,by simp only [Act.put,jab,pu1,pu2,pu3,pv1,pv2,pv3],xr,xc,xq,xn,xk,yr,yc,yq,yn,yk,rfl,rfl,B1'.chg ch2 (fun h => by have h : b11 = b12 := h;omega),B2',eV1.chg ch2 (fun x hx => by have hx : x = b12 := hx;omega),⟨fa,(ra3.chg ch1 (fun b hb h => (na b hb).1 h)).chg ch2 (fun b hb h => (na b hb).2.1 h),fun b hb => (na b hb).2.2⟩,⟨fb,(rb3.chg ch1 (fun b hb h => (nb b hb).1 h)).chg ch2 (fun b hb h => (nb b hb).2.1 h),fun b hb => (nb b hb).2.2⟩,by omega,by omega⟩
            · refine jcp (v := .pointer (some ⟨Wa.heap.size,0,none⟩)) (w' := Wa.alloc (.cells #[.int .i64 0,.int .i64 0,.slice none 0 0] 27)) rfl rfl (by go_simp) ?_
              have ab12 := Ext.alloc Wa (.cells #[.int .i64 0,.int .i64 0,.slice none 0 0] 27);have hb12 := HB.new Wa #[.int .i64 0,.int .i64 0,.slice none 0 0] 27;have lb12 := hb12.lt;obtain ⟨b12,hb12'⟩ : ∃ x,x = Wa.heap.size := ⟨_,rfl⟩;rw [← hb12'] at hb12 lb12;generalize Wa.alloc (.cells #[.int .i64 0,.int .i64 0,.slice none 0 0] 27) = Wd at *;rw [← hb12'];have eWd := (eWa).trans ab12;refine ⟨eWd,?_⟩
              (try simp only [pv1,pv2,pv3])
              simp only [Act.put,jab,pu1,pu2,pu3,pu4,pu5];refine jan (k := 15) (by kernel_rfl) ?_;refine jav (f := 112) (args := #[.agg #[.int .i64 (kN : Int),.int .i64 (a : Int),.int .i64 (b : Int),.float .f32 zb,.int .i64 orr,.int .i64 occ,.slice oq om ocp],ofCs jaa cg,ofCs jaa ca,ofCs jaa cb]) rfl rfl rfl Try.func112 rfl (by kernel_rfl) (by simp [Act.eval]) (HK.out Wd eWd) ?_;rintro e Wt ⟨ua,ub,fa,fb,rfl,ra1,rb1,ma,mb,ec⟩
              have szc := ec.size;have szE := (eWd).size;have eWt := (eWd).trans ec;refine ⟨_,rfl,eWt,?_⟩
              (try simp only [pv1,pv2,pv3])
              simp only [Act.put,jab,pu1,pu2,pu3,pu4,pu5];refine jad (k := 16) (.tuple #[ua,ub]) (by kernel_rfl) rfl rfl (fun _ _ _ ⟨_,_,_,_,h,_⟩ => by cases h) eWt (fun W hW => by go_simp) ?_
              (try simp only [pv1,pv2,pv3])
              simp only [Act.put,jab,pu1,pu2,pu3,pu4,pu5];refine jad (k := 17) (ua) (by kernel_rfl) rfl rfl (fun _ _ _ ⟨_,_,_,_,h,_⟩ => by cases h) eWt (fun W hW => by go_simp) ?_
              (try simp only [pv1,pv2,pv3])
              simp only [Act.put,jab,pu1,pu2,pu3,pu4,pu5];refine jad (k := 18) (ub) (by kernel_rfl) rfl rfl (fun _ _ _ ⟨_,_,_,_,h,_⟩ => by cases h) eWt (fun W hW => by go_simp) ?_
              (try simp only [pv1,pv2,pv3])
              simp only [Act.put,jab,pu1,pu2,pu3,pu4,pu5];have hb1 := (hb11.ext ab12).ext ec;have hb2 := hb12.ext ec;have eT := eWt;have ra2 := ra1;have rb2 := rb1;have hne : b11 ≠ b12 := by omega
              have lt1 := hb1.lt;have lt2 := hb2.lt;refine jan (k := 21) (by kernel_rfl) ?_;have ra3 := ra2;have rb3 := rb2;have hst := eT.size
              have na : ∀ b ∈ fa,b ≠ b11 ∧ b ≠ b12 ∧ B ≤ b := fun b hb => by
               rcases ma b hb with h | h
               · have := Hfg.out b h;omega
               · omega
              have nb : ∀ b ∈ fb,b ≠ b11 ∧ b ≠ b12 ∧ B ≤ b := fun b hb => by
               rcases mb b hb with h | h
               · have := Hfg.out b h;omega
               · omega
              obtain ⟨xr,xc,xq,xn,xk,rfl⟩ := ra2.here.cells;obtain ⟨yr,yc,yq,yn,yk,rfl⟩ := rb2.here.cells;obtain ⟨V1,hr1,B1',ch1⟩ := jaq (y0 := .int .i64 xr) (y1 := .int .i64 xc) (y2 := .slice xq xn xk) hb1 rfl rfl rfl;refine jaz (w' := V1) rfl rfl (by simp [execOp,Act.eval,hr1]) ?_;have eV1 : Ext W1.drew V1 := eT.chg ch1 (fun x hx => by have hx : x = b11 := hx;omega);refine ⟨eV1,?_⟩
              (try simp only [pv1,pv2,pv3])
              simp only [Act.put,jab,pu1,pu2,pu3,pu4,pu5];refine ja7 (k := 22) (by kernel_rfl) rfl ?_;have B2a := hb2.chg ch1 (fun h => by have h : b12 = b11 := h;omega);obtain ⟨V2,hr2,B2',ch2⟩ := jaq (y0 := .int .i64 yr) (y1 := .int .i64 yc) (y2 := .slice yq yn yk) B2a rfl rfl rfl;refine ja4 rfl (w' := V2) (by simp [execOp,Act.eval,hr2]) ?_;refine ⟨_,_,b11,b12,rfl,by simp only [Act.put,jab,pu1,pu2,pu3,pv1,pv2,pv3],xr,xc,xq,xn,xk,yr,yc,yq,yn,yk,rfl,rfl,B1'.chg ch2 (fun h => by have h : b11 = b12 := h;omega),B2',eV1.chg ch2 (fun x hx => by have hx : x = b12 := hx;omega),⟨fa,(ra3.chg ch1 (fun b hb h => (na b hb).1 h)).chg ch2 (fun b hb h => (na b hb).2.1 h),fun b hb => (na b hb).2.2⟩,⟨fb,(rb3.chg ch1 (fun b hb h => (nb b hb).1 h)).chg ch2 (fun b hb h => (nb b hb).2.1 h),fun b hb => (nb b hb).2.2⟩,by omega,by omega⟩
          · refine jcp (v := .pointer (some ⟨W1.drew.heap.size,0,none⟩)) (w' := W1.drew.alloc (.cells #[.int .i64 0,.int .i64 0,.slice none 0 0] 27)) rfl rfl (by go_simp) ?_
            have ab12 := Ext.alloc W1.drew (.cells #[.int .i64 0,.int .i64 0,.slice none 0 0] 27);have hb12 := HB.new W1.drew #[.int .i64 0,.int .i64 0,.slice none 0 0] 27;have lb12 := hb12.lt;obtain ⟨b12,hb12'⟩ : ∃ x,x = W1.drew.heap.size := ⟨_,rfl⟩;rw [← hb12'] at hb12 lb12;generalize W1.drew.alloc (.cells #[.int .i64 0,.int .i64 0,.slice none 0 0] 27) = Wa at *;rw [← hb12'];have eWa := (hS0).trans ab12;refine ⟨eWa,?_⟩
            (try simp only [pv1,pv2,pv3])
            simp only [Act.put,jab,pu1,pu2,pu3,pu4,pu5];refine hs_pair (x := 15) (y := 19) (by kernel_rfl) ?_ ?_
            · refine jav (f := 112) (args := #[.agg #[.int .i64 (kN : Int),.int .i64 (a : Int),.int .i64 (b : Int),.float .f32 zb,.int .i64 orr,.int .i64 occ,.slice oq om ocp],ofCs jaa cg,ofCs jaa ca,ofCs jaa cb]) rfl rfl rfl Try.func112 rfl (by kernel_rfl) (by simp [Act.eval]) (HK.out Wa eWa) ?_
              rintro e Wc ⟨ua,ub,fa,fb,rfl,ra1,rb1,ma,mb,ec⟩
              have szc := ec.size;have szE := (eWa).size;have eWc := (eWa).trans ec;refine ⟨_,rfl,eWc,?_⟩
              (try simp only [pv1,pv2,pv3])
              simp only [Act.put,jab,pu1,pu2,pu3,pu4,pu5];refine jad (k := 16) (.tuple #[ua,ub]) (by kernel_rfl) rfl rfl (fun _ _ _ ⟨_,_,_,_,h,_⟩ => by cases h) eWc (fun W hW => by go_simp) ?_
              (try simp only [pv1,pv2,pv3])
              simp only [Act.put,jab,pu1,pu2,pu3,pu4,pu5];refine jad (k := 17) (ua) (by kernel_rfl) rfl rfl (fun _ _ _ ⟨_,_,_,_,h,_⟩ => by cases h) eWc (fun W hW => by go_simp) ?_
              (try simp only [pv1,pv2,pv3])
              simp only [Act.put,jab,pu1,pu2,pu3,pu4,pu5];refine jad (k := 18) (ub) (by kernel_rfl) rfl rfl (fun _ _ _ ⟨_,_,_,_,h,_⟩ => by cases h) eWc (fun W hW => by go_simp) ?_
              (try simp only [pv1,pv2,pv3])
              simp only [Act.put,jab,pu1,pu2,pu3,pu4,pu5];have szc := ec.size;refine jan (k := 19) (by kernel_rfl) ?_;refine jcp (v := .pointer (some ⟨Wc.heap.size,0,none⟩)) (w' := Wc.alloc (.cells #[.int .i64 0,.int .i64 0,.slice none 0 0] 27)) rfl rfl (by go_simp) ?_;have ab11 := Ext.alloc Wc (.cells #[.int .i64 0,.int .i64 0,.slice none 0 0] 27);have hb11 := HB.new Wc #[.int .i64 0,.int .i64 0,.slice none 0 0] 27;have lb11 := hb11.lt;obtain ⟨b11,hb11'⟩ : ∃ x,x = Wc.heap.size := ⟨_,rfl⟩;rw [← hb11'] at hb11 lb11;generalize Wc.alloc (.cells #[.int .i64 0,.int .i64 0,.slice none 0 0] 27) = Wt at *;rw [← hb11'];have eWt := (eWc).trans ab11;refine ⟨eWt,?_⟩
              (try simp only [pv1,pv2,pv3])
              simp only [Act.put,jab,pu1,pu2,pu3,pu4,pu5];have hb1 := hb11;have hb2 := (hb12.ext ec).ext ab11;have eT := eWt;have ra2 := ra1.ext ab11;have rb2 := rb1.ext ab11;have hne : b11 ≠ b12 := by omega
              have lt1 := hb1.lt;have lt2 := hb2.lt;refine jan (k := 21) (by kernel_rfl) ?_;have ra3 := ra2;have rb3 := rb2;have hst := eT.size
              have na : ∀ b ∈ fa,b ≠ b11 ∧ b ≠ b12 ∧ B ≤ b := fun b hb => by
               rcases ma b hb with h | h
               · have := Hfg.out b h;omega
               · omega
              have nb : ∀ b ∈ fb,b ≠ b11 ∧ b ≠ b12 ∧ B ≤ b := fun b hb => by
               rcases mb b hb with h | h
               · have := Hfg.out b h;omega
               · omega
              obtain ⟨xr,xc,xq,xn,xk,rfl⟩ := ra2.here.cells;obtain ⟨yr,yc,yq,yn,yk,rfl⟩ := rb2.here.cells;obtain ⟨V1,hr1,B1',ch1⟩ := jaq (y0 := .int .i64 xr) (y1 := .int .i64 xc) (y2 := .slice xq xn xk) hb1 rfl rfl rfl;refine jaz (w' := V1) rfl rfl (by simp [execOp,Act.eval,hr1]) ?_;have eV1 : Ext W1.drew V1 := eT.chg ch1 (fun x hx => by have hx : x = b11 := hx;omega);refine ⟨eV1,?_⟩
              (try simp only [pv1,pv2,pv3])
              simp only [Act.put,jab,pu1,pu2,pu3,pu4,pu5];refine ja7 (k := 22) (by kernel_rfl) rfl ?_;have B2a := hb2.chg ch1 (fun h => by have h : b12 = b11 := h;omega);obtain ⟨V2,hr2,B2',ch2⟩ := jaq (y0 := .int .i64 yr) (y1 := .int .i64 yc) (y2 := .slice yq yn yk) B2a rfl rfl rfl;refine ja4 rfl (w' := V2) (by simp [execOp,Act.eval,hr2]) ?_;refine ⟨_,_,b11,b12,rfl,by simp only [Act.put,jab,pu1,pu2,pu3,pv1,pv2,pv3],xr,xc,xq,xn,xk,yr,yc,yq,yn,yk,rfl,rfl,B1'.chg ch2 (fun h => by have h : b11 = b12 := h;omega),B2',eV1.chg ch2 (fun x hx => by have hx : x = b12 := hx;omega),⟨fa,(ra3.chg ch1 (fun b hb h => (na b hb).1 h)).chg ch2 (fun b hb h => (na b hb).2.1 h),fun b hb => (na b hb).2.2⟩,⟨fb,(rb3.chg ch1 (fun b hb h => (nb b hb).1 h)).chg ch2 (fun b hb h => (nb b hb).2.1 h),fun b hb => (nb b hb).2.2⟩,by omega,by omega⟩
            · refine jcp (v := .pointer (some ⟨Wa.heap.size,0,none⟩)) (w' := Wa.alloc (.cells #[.int .i64 0,.int .i64 0,.slice none 0 0] 27)) rfl rfl (by go_simp) ?_
              have ab11 := Ext.alloc Wa (.cells #[.int .i64 0,.int .i64 0,.slice none 0 0] 27);have hb11 := HB.new Wa #[.int .i64 0,.int .i64 0,.slice none 0 0] 27;have lb11 := hb11.lt;obtain ⟨b11,hb11'⟩ : ∃ x,x = Wa.heap.size := ⟨_,rfl⟩;rw [← hb11'] at hb11 lb11;generalize Wa.alloc (.cells #[.int .i64 0,.int .i64 0,.slice none 0 0] 27) = Wd at *;rw [← hb11'];have eWd := (eWa).trans ab11;refine ⟨eWd,?_⟩
              (try simp only [pv1,pv2,pv3])
              simp only [Act.put,jab,pu1,pu2,pu3,pu4,pu5];refine jan (k := 15) (by kernel_rfl) ?_;refine jav (f := 112) (args := #[.agg #[.int .i64 (kN : Int),.int .i64 (a : Int),.int .i64 (b : Int),.float .f32 zb,.int .i64 orr,.int .i64 occ,.slice oq om ocp],ofCs jaa cg,ofCs jaa ca,ofCs jaa cb]) rfl rfl rfl Try.func112 rfl (by kernel_rfl) (by simp [Act.eval]) (HK.out Wd eWd) ?_;rintro e Wt ⟨ua,ub,fa,fb,rfl,ra1,rb1,ma,mb,ec⟩
              have szc := ec.size;have szE := (eWd).size;have eWt := (eWd).trans ec;refine ⟨_,rfl,eWt,?_⟩
              (try simp only [pv1,pv2,pv3])
              simp only [Act.put,jab,pu1,pu2,pu3,pu4,pu5];refine jad (k := 16) (.tuple #[ua,ub]) (by kernel_rfl) rfl rfl (fun _ _ _ ⟨_,_,_,_,h,_⟩ => by cases h) eWt (fun W hW => by go_simp) ?_
              (try simp only [pv1,pv2,pv3])
              simp only [Act.put,jab,pu1,pu2,pu3,pu4,pu5];refine jad (k := 17) (ua) (by kernel_rfl) rfl rfl (fun _ _ _ ⟨_,_,_,_,h,_⟩ => by cases h) eWt (fun W hW => by go_simp) ?_
              (try simp only [pv1,pv2,pv3])
              simp only [Act.put,jab,pu1,pu2,pu3,pu4,pu5];refine jad (k := 18) (ub) (by kernel_rfl) rfl rfl (fun _ _ _ ⟨_,_,_,_,h,_⟩ => by cases h) eWt (fun W hW => by go_simp) ?_
              (try simp only [pv1,pv2,pv3])
              simp only [Act.put,jab,pu1,pu2,pu3,pu4,pu5];have hb1 := hb11.ext ec;have hb2 := (hb12.ext ab11).ext ec;have eT := eWt;have ra2 := ra1;have rb2 := rb1;have hne : b11 ≠ b12 := by omega
              have lt1 := hb1.lt;have lt2 := hb2.lt;refine jan (k := 21) (by kernel_rfl) ?_;have ra3 := ra2;have rb3 := rb2;have hst := eT.size
              have na : ∀ b ∈ fa,b ≠ b11 ∧ b ≠ b12 ∧ B ≤ b := fun b hb => by
               rcases ma b hb with h | h
               · have := Hfg.out b h;omega
               · omega
              have nb : ∀ b ∈ fb,b ≠ b11 ∧ b ≠ b12 ∧ B ≤ b := fun b hb => by
               rcases mb b hb with h | h
               · have := Hfg.out b h;omega
               · omega
              obtain ⟨xr,xc,xq,xn,xk,rfl⟩ := ra2.here.cells;obtain ⟨yr,yc,yq,yn,yk,rfl⟩ := rb2.here.cells;obtain ⟨V1,hr1,B1',ch1⟩ := jaq (y0 := .int .i64 xr) (y1 := .int .i64 xc) (y2 := .slice xq xn xk) hb1 rfl rfl rfl;refine jaz (w' := V1) rfl rfl (by simp [execOp,Act.eval,hr1]) ?_;have eV1 : Ext W1.drew V1 := eT.chg ch1 (fun x hx => by have hx : x = b11 := hx;omega);refine ⟨eV1,?_⟩
              (try simp only [pv1,pv2,pv3])
              simp only [Act.put,jab,pu1,pu2,pu3,pu4,pu5];refine ja7 (k := 22) (by kernel_rfl) rfl ?_;have B2a := hb2.chg ch1 (fun h => by have h : b12 = b11 := h;omega);obtain ⟨V2,hr2,B2',ch2⟩ := jaq (y0 := .int .i64 yr) (y1 := .int .i64 yc) (y2 := .slice yq yn yk) B2a rfl rfl rfl;refine ja4 rfl (w' := V2) (by simp [execOp,Act.eval,hr2]) ?_;refine ⟨_,_,b11,b12,rfl,by simp only [Act.put,jab,pu1,pu2,pu3,pv1,pv2,pv3],xr,xc,xq,xn,xk,yr,yc,yq,yn,yk,rfl,rfl,B1'.chg ch2 (fun h => by have h : b11 = b12 := h;omega),B2',eV1.chg ch2 (fun x hx => by have hx : x = b12 := hx;omega),⟨fa,(ra3.chg ch1 (fun b hb h => (na b hb).1 h)).chg ch2 (fun b hb h => (na b hb).2.1 h),fun b hb => (na b hb).2.2⟩,⟨fb,(rb3.chg ch1 (fun b hb h => (nb b hb).1 h)).chg ch2 (fun b hb h => (nb b hb).2.1 h),fun b hb => (nb b hb).2.2⟩,by omega,by omega⟩
        · rintro ua ub b11 b12 W2 ⟨xr,xc,xq,xn,xk,yr,yc,yq,yn,yk,rfl,rfl,hb1,hb2,eW2,⟨fa,rA,ma⟩,⟨fb,rB,mb⟩,g1,g2⟩
          simp only [Act.put,jab,pu1,pu2,pu3]
          have hsA : jbk (sh a) dA := by
           rw [← HA.out];have h := partA_shaped (g := g) (v := vAt ops a) (w := vAt ops b) hop (by rw [← Hk.out];exact Hk0.out) Hgsh.out (by rw [← Ha.out];exact jck HT.out (by rw [HLen.out];exact han)) (fun _ => by rw [← Hb.out];exact jck HT.out (by rw [HLen.out];exact hbn));rw [← Hk.out,← Ha.out] at h;exact h
          have G11 := (G8.ext eD).ext eW2;have hB11 : B ≤ W2.heap.size := by have := eW2.size;omega
          have B12 := B11.ext eW2;have KG := hid (give_any B bh gh bo go n a _ _ _ _ _ (sh a) dA W2 G11 hB11 han hn (rA.ten hsA) (HT.out.side a (by rw [HLen.out];exact han)) (has_shaped HGs.out (by rw [jcc]) (i + 1) (by rw [HLen.out];exact han)))
          have HSt : Hid (jbe ops (m + 1) = if twoK kN then giveG (giveG (jbe ops m) a dA) b dB else giveG (jbe ops m) a dA) := by
           have h := step_op (ops := ops) (m := m) (o := ops.getD i o0) (by rw [← Hie.out]) (by rw [← Hie.out];exact Hsome.out) (by rw [← Hk.out];exact Hk0.out);rw [← Hk.out,← Ha.out,← Hb.out] at h;simp only [Int.toNat_natCast] at h;rw [HA.out,HBB.out] at h;exact h
          rw [← hasG_give (jbe ops m) a dA (by rw [jcc,HLen.out];exact han),← memG_give (jbe ops m) (i + 1) a dA (by rw [jcc]) (by rw [HLen.out];exact han)] at KG;have hgA : (giveG (jbe ops m) a dA).getD i none = some g := by rw [giveG_get _ _ _ (by rw [jcc,HLen.out];exact han),if_neg (by omega)];exact Hsome.out
          have x1 := B12.cell 1 rfl;have x2 := B12.cell 2 rfl;have x0 := B12.cell 0 rfl;have p0 := hb1.cell 0 rfl;have p1 := hb1.cell 1 rfl;have p2 := hb1.cell 2 rfl;have HgA := hid hgA;have HsA := hid hsA;have X11 := X8.trans (eD.trans eW2);clear hgA hsA HK V5 o5 hgE G7 G8 B10 B11 G11;go_wp2_with fail;refine KG.out.mono ?_;rintro e W3 ⟨rfl,cs3,bs3,G12,ch3⟩
          have hne1 : ¬ (wr.heap.size = gh ∨ wr.heap.size = go) := by have := G12.lt;omega
          have hne2 : ¬ (b12 = gh ∨ b12 = go) := by have := G12.lt;have := e1.size;omega
          have B13 := B12.chg ch3 hne1;have hb2' := hb2.chg ch3 hne2;have rB' := rB.chg ch3 (fun x hx h => by have := mb x hx;have := G12.lt;omega);have x0 := B13.cell 0 rfl;have x2 := B13.cell 2 rfl;have p0 := hb2'.cell 0 rfl;have p1 := hb2'.cell 1 rfl;have p2 := hb2'.cell 2 rfl;have X12 : Ext w W3 := X11.chg ch3 (fun x hx => by omega);have hB12 : B ≤ W3.heap.size := by have := ch3.size;omega
          clear x1;go_wp2_with fail;refine (jbh kN W3).mono ?_;rintro e W4 ⟨rfl,rfl⟩
          cases htw : twoK kN with
          | false =>
            have HTw := hid htw;have HG := hid G12;clear htw G12;go_wp2;go_roundw
            case rel =>
             refine ⟨m + 1,cs3,bs3,by omega,by rw [← Hi2.out],?_,X12,hB12⟩;have h := HSt.out;rw [HTw.out,if_neg (by simp)] at h;rw [h,Him'.out,← memG_some HgA.out];exact HG.out
            case measure => simp [intOf] <;> (have := Hi2.out;omega)
          | true =>
            have hsB : jbk (sh b) dB := by
             rw [← HBB.out];have h := partB_shaped (g := g) (v := vAt ops a) (w := vAt ops b) hop (by rw [← Hk.out,Int.toNat_natCast];exact htw) Hgsh.out (by rw [← Ha.out];exact jck HT.out (by rw [HLen.out];exact han));rw [← Hk.out,← Hb.out] at h;exact h
            have hGs2 := giveG_ok HGs.out HsA.out (show a < (jbe ops m).length by rw [jcc,HLen.out];exact han);have hl2 : (giveG (jbe ops m) a dA).length = ops.length := by rw [giveG_len,jcc]
            have KG2 := hid (give_any B bh gh bo go n b _ _ _ _ _ (sh b) dB W3 G12 hB12 hbn hn (rB'.ten hsB) (HT.out.side b (by rw [HLen.out];exact hbn)) (has_shaped hGs2 hl2 (i + 1) (by rw [HLen.out];exact hbn)));rw [← hasG_give (giveG (jbe ops m) a dA) b dB (by rw [hl2,HLen.out];exact hbn),← memG_give (giveG (jbe ops m) a dA) (i + 1) b dB hl2 (by rw [HLen.out];exact hbn)] at KG2;have hgB : (giveG (giveG (jbe ops m) a dA) b dB).getD i none = some g := by rw [giveG_get _ _ _ (by rw [hl2,HLen.out];exact hbn),if_neg (by omega)];exact HgA.out
            have HTw := hid htw;have HgB := hid hgB;clear htw hsB hGs2 hl2 hgB G12;go_wp2_with fail;refine KG2.out.mono ?_;rintro e W5 ⟨rfl,cs5,bs5,G13,ch5⟩
            have X13 : Ext w W5 := X12.chg ch5 (fun x hx => by omega);have hB13 : B ≤ W5.heap.size := by have := ch5.size;omega
            have HG := hid G13;clear G13 ch5;go_wp2;go_roundw
            case rel =>
             refine ⟨m + 1,cs5,bs5,by omega,by rw [← Hi2.out],?_,X13,hB13⟩;have h := HSt.out;rw [HTw.out,if_pos rfl] at h;rw [h,Him'.out,← memG_some HgB.out];exact HG.out
            case measure => simp [intOf] <;> (have := Hi2.out;omega)
  · obtain rfl : m = n := by omega
    have h0 : ¬ (0 : Int) ≤ (m : Int) - 1 - (m : Int) := by omega
    have Hg := hid G7;have y5 := G7.ob.cell 0 rfl;clear G7;go_wp2;go_ret;have G7 := Hg.out;have hdone : memG ops (jbe ops m) (m - m) = jca ops := by rw [Nat.sub_self,← HLen.out];exact memG_done ops
    rw [hdone] at G7;refine ⟨go,rfl,⟨cs',cs_heap G7.or,?_,by rw [G7.els.1,G7.ll]⟩,X6⟩;have k1 := G7.els.1;have k2 := G7.els.2.1;refine All2.of_get k1 fun j cs d hc hd => ?_
    have hj : j < cs'.length := (List.getElem?_eq_some_iff.1 hc).1;exact (G7.els.2.2 j cs (bs'[j]'(by omega)) d hc (by simp) hd).rep
end Go.Proofs.Ytmbckkcgiafagaa
