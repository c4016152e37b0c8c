/- A part of the proofs: ShpB, ShpC, MtR. -/
import Derived.Test.YtmbckkcgiafagaaZ32FnMode
import Derived.Test.YtmbckkcgiafagaaZ28FnMode
import Derived.Test.YtmbckkcgiafagaaZ08FnMode
import Derived.Test.YtmbckkcgiafagaaZ30FnMode
import Derived.Test.YtmbckkcgiafagaaZ09FnMode
set_option linter.unusedSimpArgs false
set_option linter.unusedVariables false
set_option maxRecDepth 100000
set_option maxHeartbeats 16000000
namespace Go.Proofs.Ytmbckkcgiafagaa
open Go.RowKit
abbrev shShp : Sh := .pr .int (.pr .int .un)
instance slShp : SlTy Try.prog 142 167 2 (.agg #[.int .i64 0,.int .i64 0]) 16 := ⟨by kernel_rfl,by kernel_rfl,by kernel_rfl,by decide,by decide⟩
instance elShp : ElTy Try.prog 167 shShp := ⟨by kernel_rfl,by kernel_rfl⟩
def shpC (sh : Nat → Nat × Nat) (i : Nat) : List (List Value) := (List.range i).map fun j => [.int .i64 (sh j).1,.int .i64 (sh j).2]
theorem shpC_len (sh : Nat → Nat × Nat) (i : Nat) : (shpC sh i).length = i := by simp [shpC]
theorem shpC_sz (sh : Nat → Nat × Nat) (i : Nat) : ∀ c ∈ shpC sh i,c.length = 2 := by
 intro c hc;simp [shpC] at hc;obtain ⟨j,_,rfl⟩ := hc;rfl
theorem shpC_at (sh : Nat → Nat × Nat) {i j : Nat} (h : j < i) : (shpC sh i)[j]'(by rw [shpC_len];exact h) = [.int .i64 (sh j).1,.int .i64 (sh j).2] := by simp [shpC]
theorem jb5 (sh : Nat → Nat × Nat) (i : Nat) : (shpC sh (i + 1)).flatten = (shpC sh i).flatten ++ [.int .i64 (sh i).1,.int .i64 (sh i).2] := by simp [shpC,List.range_succ]
theorem shp_elem {w : World} {p : Option Addr} {sh : Nat → Nat × Nat} {i j : Nat} (h : Cs w p (shpC sh i).flatten) (hj : j < i) : Cs w (some (adr p (j * 2))) [.int .i64 (sh j).1,.int .i64 (sh j).2] := by
 have := h.elem (s := 2) (shpC_sz sh i) (i := j) (by rw [shpC_len];exact hj)
 rwa [shpC_at sh hj] at this
theorem run_st2s {w : World} {b : Nat} {x0 x1 y0 y1 : Value} (h : HB w b #[x0,x1] 167) (h0 : y0.oneCell' = true) (h1 : y1.oneCell' = true) :
 ∃ w',(Instr.storeAt 167 (.pointer (some ⟨b,0,none⟩)) (.agg #[y0,y1])).run Try.prog w = .ok () w' ∧ HB w' b #[y0,y1] 167 ∧ Chg (fun k => k = b) w w' := by
 have hb' : w.heap[b]? = some (.cells #[x0,x1] 167 (0,0)) := h;have hst := run_storeCells_at Try.prog b 0 167 [y0,y1] 0 #[x0,x1] w hb' (by simp) (by intro v hv;simp at hv;rcases hv with rfl | rfl <;> assumption);obtain ⟨i,hi,hz⟩ := Option.map_eq_some_iff.1 (ElTy.inf (P := Try.prog) (t := 167) (s := shShp));have hcells : (Value.agg #[y0,y1]).cells = #[y0,y1] := rfl;refine ⟨_,?_,setRow_heap w b #[x0,x1] _ 167 (0,0) hb',⟨rfl,rfl,rfl,by simp,fun j hj hn' => setRow_other w b j _ hn'⟩⟩;simp [Instr.storeAt,Instr.sureAddr,storeVar,sizeOf,typeInfo,hi,hz,hcells];rw [if_pos (show 2 = shShp.sz from rfl),hst];rfl
theorem eq_shape (a b : Int) (w : World) : (binOp .eql 167 (.agg #[.int .i64 a,.int .i64 b]) (.agg #[.int .i64 a,.int .i64 b])).run Try.prog w = .ok (.bool true) w := by
 have hS : Try.prog.underlying 167 = some (.struct (Try.prog.fieldsOf 167)) := by kernel_rfl
 have hp : Try.prog.stoodInHeld 167 = false := by kernel_rfl
 rw [run_eql_struct,show (10000 : Nat) = 9999 + 1 from rfl,run_equalIn_agg w 9999 167 _ _ hS hp];simp only [Program.fieldsOf,Try.underlying167];go_simp
def ShpK (sh : Nat → Nat × Nat) (i K a b : Nat) : Prop :=
 ((K = 1 ∨ K = 3) ∧ sh b = sh a ∧ sh i = sh a) ∨ ((K = 2 ∨ K = 4) ∧ sh b = (1,(sh a).2) ∧ sh i = sh a) ∨ (K = 6 ∧ (sh b).1 = (sh a).2 ∧ sh i = ((sh a).1,(sh b).2)) ∨ ((K = 5 ∨ K = 8 ∨ K = 9) ∧ sh i = sh a) ∨ (K = 7 ∧ sh i = ((sh a).2,(sh a).1)) ∨ (K = 10 ∧ sh i = (1,1))
theorem opOk_kind {sh : Nat → Nat × Nat} {i : Nat} {o : shOp.T} (h : OpOk sh i o) (hk : o.1 ≠ 0) : ∃ K a b : Nat,o.1 = (K : Int) ∧ o.2.1 = (a : Int) ∧ o.2.2.1 = (b : Int) ∧ o.2.2.2.2.1 = t0 ∧ a < i ∧ b < i ∧ K ≠ 0 ∧ ShpK sh i K a b := by
 cases h with
 | inp => exact absurd rfl hk
 | add a b ha hb h1 h2 => exact ⟨1,a,b,rfl,rfl,rfl,rfl,ha,hb,by decide,.inl ⟨.inl rfl,h1,h2⟩⟩
 | addR a b ha hb h1 h2 => exact ⟨2,a,b,rfl,rfl,rfl,rfl,ha,hb,by decide,.inr (.inl ⟨.inl rfl,h1,h2⟩)⟩
 | mul a b ha hb h1 h2 => exact ⟨3,a,b,rfl,rfl,rfl,rfl,ha,hb,by decide,.inl ⟨.inr rfl,h1,h2⟩⟩
 | mulR a b ha hb h1 h2 => exact ⟨4,a,b,rfl,rfl,rfl,rfl,ha,hb,by decide,.inr (.inl ⟨.inr rfl,h1,h2⟩)⟩
 | scl a z ha h2 => exact ⟨5,a,0,rfl,rfl,rfl,rfl,ha,by omega,by decide,.inr (.inr (.inr (.inl ⟨.inl rfl,h2⟩)))⟩
 | mm a b ha hb h1 h2 => exact ⟨6,a,b,rfl,rfl,rfl,rfl,ha,hb,by decide,.inr (.inr (.inl ⟨rfl,h1,h2⟩))⟩
 | turn a ha h2 => exact ⟨7,a,0,rfl,rfl,rfl,rfl,ha,by omega,by decide,.inr (.inr (.inr (.inr (.inl ⟨rfl,h2⟩))))⟩
 | relu a ha h2 => exact ⟨8,a,0,rfl,rfl,rfl,rfl,ha,by omega,by decide,.inr (.inr (.inr (.inl ⟨.inr (.inl rfl),h2⟩)))⟩
 | sqr a ha h2 => exact ⟨9,a,0,rfl,rfl,rfl,rfl,ha,by omega,by decide,.inr (.inr (.inr (.inl ⟨.inr (.inr rfl),h2⟩)))⟩
 | sum a ha h2 => exact ⟨10,a,0,rfl,rfl,rfl,rfl,ha,by omega,by decide,.inr (.inr (.inr (.inr (.inr ⟨rfl,h2⟩))))⟩
theorem opOk_inp {sh : Nat → Nat × Nat} {i : Nat} {o : shOp.T} (h : OpOk sh i o) (hk : o.1 = 0) : ∃ (r c : Nat) (xs : List Nat),o = mkOp 0 0 0 0 (tn r c xs) ∧ sh i = (r,c) := by
 cases h with
 | inp r c xs hl hs => exact ⟨r,c,xs,rfl,hs⟩
 | _ => exact absurd hk (by simp [mkOp])
theorem shapes_any {sh : Nat → Nat × Nat} (p : Option Addr) (n c : Nat) (css : List (List Value)) (ops : List shOp.T) (w : World) (O : Ops w p n css ops) (hT : jbz sh ops) (h1 : 1 ≤ n) :
 Calls Try.prog 107 #[.slice p n c] w fun e w' => ∃ u,e = .returned (.tuple #[u,.bool true]) ∧ Ext w w' := by
 have hlen := O.len;have hn : n ≤ 48 := by have := hT.len;omega
 have hps : p.isSome = true := O.cs.some_of (s := 7) (i := 0) O.size (by decide) (by have := O.cnt;omega);have hd1 : decide ((n : Int) < 1) = false := by simp;omega
 have hd2 : decide ((48 : Int) < (n : Int)) = false := by simp;omega
 have HO := hid O;have HT := hid hT;have HL := hid hlen;clear O hT hlen;have G0 : (w.alloc (.cells #[] 167)).ownsRow w.heap.size 167 2 (.slice (some ⟨w.heap.size,0,none⟩) 0 0) 0 [] := World.ownsRow_made w #[] 0 (Nat.le_refl _) (by decide) rfl;have E0 := Ext.alloc w (.cells #[] 167);go_enter Try.func107,Try.ntmps107;go_wp2;go_loopw [4,22] (fun v iv wr => ∃ (i : Nat) (q : Option Addr) (k : Nat),i ≤ n ∧ iv = .int .i64 (i : Int) ∧ v = .slice q i k ∧ wr.ownsRow w.heap.size 167 2 v i (shpC sh i).flatten ∧ Ext w wr) (fun _ iv _ => n - (intOf iv).toNat)
 case atStart => exact ⟨0,some ⟨w.heap.size,0,none⟩,0,by omega,rfl,rfl,G0,E0⟩
 case round =>
  clear G0 E0;obtain ⟨i,q,k,hi,rfl,rfl,hG,he⟩ := hrel
  by_cases hlt : i < n
  · have hdl : decide ((i : Int) < (n : Int)) = true := by simp;omega
    obtain ⟨oc,hoc,hro⟩ := HO.out.at' hlt;have hok := HT.out.ok i (by rw [HL.out];exact hlt);obtain ⟨zb,oq,cc,rfl,hz,hm⟩ := op_valsT hro;have Hoc := hid hoc;have KF := hid (fun W (hW : Ext wr W) => fieldsFit_any hok (fun j hj => HT.out.side j (by rw [HL.out];omega)) (by omega) _ W (hro.ext (he.trans hW)));have hcs := (HO.out.ext he).cs;have hcnt := HO.out.cnt;have hsz := HO.out.size;have hsz0 := he.size;generalize ops.getD i o0 = op at *;clear hoc hro hz;simp only [ofCs,Sh.agg,if_true] at KF
    by_cases hk0 : op.1 = 0
    · obtain ⟨r,cl,xs,rfl,hs⟩ := opOk_inp hok hk0
      clear hok hk0;simp only [mkOp,tn] at KF Hoc hm;generalize xs.length = N at *;obtain ⟨W1,hW1⟩ : ∃ W1,W1 = wr.alloc (.cells #[.int .i64 0,.int .i64 0,.int .i64 0,.float .f32 zb,.int .i64 r,.int .i64 cl,.slice oq N cc] 98) := ⟨_,rfl⟩;have e1 : Ext wr W1 := by rw [hW1];exact Ext.alloc _ _
      have B6 : HB W1 wr.heap.size #[.int .i64 0,.int .i64 0,.int .i64 0,.float .f32 zb,.int .i64 r,.int .i64 cl,.slice oq N cc] 98 := by rw [hW1];exact HB.new _ _ _
      have HS := hid hs;clear hs;go_wp2_with (first | ((with_reducible show gx2);refine jax (s := shOp) (j := i) rfl rfl rfl rfl (fun _ => rfl) rfl rfl rfl hcs hsz hcnt hlt hps Hoc.out ?_;simp only [ofCs,Sh.agg,if_true]) | fail);rw [← hW1];clear hW1;refine (KF.out W1 e1).mono ?_;rintro e w2 ⟨rfl,e2⟩
      have B6 := B6.ext e2;have E2 := e1.trans e2;have y0 := B6.cell 0 rfl;have y4 := B6.cell 4 rfl;have y5 := B6.cell 5 rfl;have hG2 := jah hG E2;have hsz2 := E2.size;go_wp2_with ((with_reducible show gx6);refine ja9 (u := .agg #[.int .i64 r,.int .i64 cl]) rfl rfl rfl rfl rfl rfl rfl (fun _ => rfl) (fun _ => rfl) hG2 (by unfold maxLen;omega) (by omega) (by omega) ?_;intro g9 c9 w9 own9 g9' hg9);have own9 : w9.ownsRow w.heap.size 167 2 (.slice (some ⟨g9,0,none⟩) (i + 1) c9) (i + 1) ((shpC sh i).flatten ++ [.int .i64 (sh i).1,.int .i64 (sh i).2]) := by rw [HS.out];exact own9
      go_roundw
      case rel =>
       exact ⟨i + 1,_,_,by omega,by go_num,rfl,by rw [jb5];exact own9,(he.trans E2).grown g9' (fun k hk => by have := jas hG2 k hk;omega)⟩
      case measure => simp [intOf];omega
    · obtain ⟨K,a,b,o1,o2,o3,o5,ha,hb,hK,hsk⟩ := opOk_kind hok hk0
      clear hok hk0;obtain ⟨p1,p2,p3,p4,⟨p5,p6,p7,p8⟩,p9⟩ := op;simp only [t0,Prod.mk.injEq] at o5;dsimp only at o1 o2 o3;obtain ⟨rfl,rfl,rfl,-⟩ := o5;subst o1;subst o2;subst o3;simp only [List.length_nil] at KF Hoc hm;have hK1 : ((K : Int) == 0) = false := by simp;omega
      have hK2 : decide ((K : Int) = 0) = false := by simp;omega
      have hK3 : (K = 0) = False := by simp;omega
      obtain ⟨W1,hW1⟩ : ∃ W1,W1 = wr.alloc (.cells #[.int .i64 K,.int .i64 a,.int .i64 b,.float .f32 zb,.int .i64 0,.int .i64 0,.slice oq 0 cc] 98) := ⟨_,rfl⟩;have e1 : Ext wr W1 := by rw [hW1];exact Ext.alloc _ _
      have B6 : HB W1 wr.heap.size #[.int .i64 K,.int .i64 a,.int .i64 b,.float .f32 zb,.int .i64 0,.int .i64 0,.slice oq 0 cc] 98 := by rw [hW1];exact HB.new _ _ _
      have HSK := hid hsk;have hqs : q.isSome = true := (jbt hG).some_of (s := 2) (i := 0) (shpC_sz sh i) (by decide) (by rw [shpC_len];omega);clear hsk;go_wp2_with (first | ((with_reducible show gx2);refine jax (s := shOp) (j := i) rfl rfl rfl rfl (fun _ => rfl) rfl rfl rfl hcs hsz hcnt hlt hps Hoc.out ?_;simp only [ofCs,Sh.agg,if_true]) | fail);rw [← hW1];clear hW1;refine (KF.out W1 e1).mono ?_;rintro e w2 ⟨rfl,e2⟩
      have B6 := B6.ext e2;have E2 := e1.trans e2;have y0 := B6.cell 0 rfl;have y1 := B6.cell 1 rfl;have y2 := B6.cell 2 rfl;clear Hoc KF hcs hcnt hsz;go_wp2_with fail;have eD := Ext.drew w2;have hGD := jbt (jah hG (E2.trans eD));have c6 := B6.ext eD;have hsd := eD.size;have hsz2 := E2.size;have b6lt := B6.lt;refine jal (n := 13) (S := fun W => Ext w2.drew W) (by kernel_rfl) rfl ?_;have hS0 : Ext w2.drew w2.drew := Ext.refl _;refine jad (k := 0) (.slice q i k) (by kernel_rfl) rfl rfl (fun _ _ _ h => h) hS0 (fun W hW => by go_simp) ?_;simp only [Act.put,jab,pu1,pu2,pu3,pu4,pu5];refine jad (k := 1) (.pointer (some ⟨wr.heap.size,1,none⟩)) (by kernel_rfl) rfl rfl (fun _ _ _ h => h) hS0 (fun W hW => by go_simp) ?_;simp only [Act.put,jab,pu1,pu2,pu3,pu4,pu5];refine jad (k := 2) (.int .i64 (a : Int)) (by kernel_rfl) rfl rfl (fun _ _ _ h => h) hS0 (fun W hW => by have y := (c6.ext hW).cell 1 rfl;go_simp) ?_;simp only [Act.put,jab,pu1,pu2,pu3,pu4,pu5];refine jbi (k := 3) (p := q) (m := i) (c := k) (kk := .i64) (j := a) (i := (a : Int)) (by kernel_rfl) rfl rfl (fun _ _ _ h => h) hS0 rfl (by simp [Act.eval]) (by simp [Act.eval]) rfl hqs ha ?_;simp only [Act.put,jab,pu1,pu2,pu3,pu4,pu5];refine jby (k := 4) (q := adr q (a * 2)) (s := shShp) (cs := [.int .i64 (sh a).1,.int .i64 (sh a).2]) (by kernel_rfl) rfl rfl (fun _ _ _ h => h) hS0 rfl (by simp [Act.eval]) rfl (fun W hW => (shp_elem hGD ha).ext hW) ?_;simp only [Act.put,jab,pu1,pu2,pu3,pu4,pu5];refine jad (k := 5) (.slice q i k) (by kernel_rfl) rfl rfl (fun _ _ _ h => h) hS0 (fun W hW => by go_simp) ?_;simp only [Act.put,jab,pu1,pu2,pu3,pu4,pu5];refine jad (k := 6) (.pointer (some ⟨wr.heap.size,2,none⟩)) (by kernel_rfl) rfl rfl (fun _ _ _ h => h) hS0 (fun W hW => by go_simp) ?_;simp only [Act.put,jab,pu1,pu2,pu3,pu4,pu5];refine jad (k := 7) (.int .i64 (b : Int)) (by kernel_rfl) rfl rfl (fun _ _ _ h => h) hS0 (fun W hW => by have y := (c6.ext hW).cell 2 rfl;go_simp) ?_;simp only [Act.put,jab,pu1,pu2,pu3,pu4,pu5];refine jbi (k := 8) (p := q) (m := i) (c := k) (kk := .i64) (j := b) (i := (b : Int)) (by kernel_rfl) rfl rfl (fun _ _ _ h => h) hS0 rfl (by simp [Act.eval]) (by simp [Act.eval]) rfl hqs hb ?_;simp only [Act.put,jab,pu1,pu2,pu3,pu4,pu5];refine jby (k := 9) (q := adr q (b * 2)) (s := shShp) (cs := [.int .i64 (sh b).1,.int .i64 (sh b).2]) (by kernel_rfl) rfl rfl (fun _ _ _ h => h) hS0 rfl (by simp [Act.eval]) rfl (fun W hW => (shp_elem hGD hb).ext hW) ?_;simp only [Act.put,jab,pu1,pu2,pu3,pu4,pu5];refine hs_two (k := 10) (l := 11) (dk := 7) (dl := 8) (Zk := #[.int .i64 0,.int .i64 0]) (Zl := #[.int .i64 0,.int .i64 0]) (tk := 167) (tl := 167) (by kernel_rfl) rfl rfl rfl rfl rfl rfl (by decide) (fun W b => by go_simp) (fun W b => by go_simp) (fun W hW => hW) ?_;intro b7 b8 W3 eW hb7 hb8 hne B7 B8;simp only [Act.put,jab,pu1,pu2,pu3,pu4,pu5];refine jan (k := 12) (by kernel_rfl) ?_;obtain ⟨W4,hr4,B7',ch7⟩ := run_st2s (y0 := .int .i64 (sh a).1) (y1 := .int .i64 (sh a).2) B7 rfl rfl;refine jaz (w' := W4) rfl rfl (by simp [execOp,Act.eval,ofCs,Sh.agg,hr4]) ?_;have eW4 : Ext w2.drew W4 := eW.chg ch7 (fun k hk => by have hk : k = b7 := hk;omega);have B8' := B8.chg ch7 (fun h => hne h.symm);refine ⟨eW4,?_⟩;simp only [Act.put,jab,pu1,pu2,pu3,pu4,pu5];refine ja7 (k := 13) (by kernel_rfl) rfl ?_;obtain ⟨W5,hr5,B8'',ch8⟩ := run_st2s (y0 := .int .i64 (sh b).1) (y1 := .int .i64 (sh b).2) B8' rfl rfl;refine ja4 rfl (w' := W5) (by simp [execOp,Act.eval,ofCs,Sh.agg,hr5]) ?_;have e25 : Ext w2 W5 := eD.trans (eW4.chg ch8 (fun k hk => by have hk : k = b8 := hk;omega));have eW5 : Ext wr W5 := E2.trans e25;have B7'' := B7'.chg ch8 (fun h => hne h);have d6 := B6.ext e25;clear ch7 ch8 hr4 hr5 B7 B7' B8 B8' eW eW4 c6 hS0 hGD y0 y1 y2 B6 hqs b6lt hb7 hb8 hne hsd eD e2 e1 E2 e25;have hsz5 := eW5.size;have f0 := B7''.cell 0 rfl;have f1 := B7''.cell 1 rfl;have eA := Ext.alloc W5 (.cells #[.int .i64 (sh a).1,.int .i64 (sh a).2] 167);have D7 := B7''.ext eA;have D8 := B8''.ext eA;have D6 := d6.ext eA;have z0 := D6.cell 0 rfl;have f0' := D7.cell 0 rfl;have f1' := D7.cell 1 rfl;have hKS := HSK.out;clear HSK B7'' B8'' d6 D6 D7 hK1 hK2 hK3 hK;unfold ShpK at hKS;rcases hKS with ⟨rfl | rfl,s1,s2⟩ | ⟨rfl | rfl,s1,s2⟩ | ⟨rfl,s1,s2⟩ | ⟨rfl | rfl | rfl,s2⟩ | ⟨rfl,s2⟩ | ⟨rfl,s2⟩
      · rw [s1] at D8;clear s1
        have k0 := D8.cell 0 rfl;have k1 := D8.cell 1 rfl;have hG2 := jah hG (eW5.trans (Ext.alloc W5 (.cells #[.int .i64 (sh a).1,.int .i64 (sh a).2] 167)));have hszA := (Ext.alloc W5 (.cells #[.int .i64 (sh a).1,.int .i64 (sh a).2] 167)).size;have HE := fun a b W => eq_shape a b W
        have HS := hid s2;clear s2 D8;go_wp2_with ((with_reducible show gx6);refine ja9 (u := .agg #[.int .i64 (sh a).1,.int .i64 (sh a).2]) rfl rfl rfl rfl rfl rfl rfl (fun _ => rfl) (fun _ => rfl) hG2 (by unfold maxLen;omega) (by omega) (by omega) ?_;intro g9 c9 w9 own9 g9' hg9);have own9 : w9.ownsRow w.heap.size 167 2 (.slice (some ⟨g9,0,none⟩) (i + 1) c9) (i + 1) ((shpC sh i).flatten ++ [.int .i64 (sh i).1,.int .i64 (sh i).2]) := by rw [HS.out];exact own9
        go_roundw
        case rel =>
         exact ⟨i + 1,_,_,by omega,by go_num,rfl,by rw [jb5];exact own9,(he.trans (eW5.trans (Ext.alloc _ _))).grown g9' (fun k hk => by have := jas hG2 k hk;omega)⟩
        case measure => simp [intOf];omega
      · rw [s1] at D8;clear s1
        have k0 := D8.cell 0 rfl;have k1 := D8.cell 1 rfl;have hG2 := jah hG (eW5.trans (Ext.alloc W5 (.cells #[.int .i64 (sh a).1,.int .i64 (sh a).2] 167)));have hszA := (Ext.alloc W5 (.cells #[.int .i64 (sh a).1,.int .i64 (sh a).2] 167)).size;have HE := fun a b W => eq_shape a b W
        have HS := hid s2;clear s2 D8;go_wp2_with ((with_reducible show gx6);refine ja9 (u := .agg #[.int .i64 (sh a).1,.int .i64 (sh a).2]) rfl rfl rfl rfl rfl rfl rfl (fun _ => rfl) (fun _ => rfl) hG2 (by unfold maxLen;omega) (by omega) (by omega) ?_;intro g9 c9 w9 own9 g9' hg9);have own9 : w9.ownsRow w.heap.size 167 2 (.slice (some ⟨g9,0,none⟩) (i + 1) c9) (i + 1) ((shpC sh i).flatten ++ [.int .i64 (sh i).1,.int .i64 (sh i).2]) := by rw [HS.out];exact own9
        go_roundw
        case rel =>
         exact ⟨i + 1,_,_,by omega,by go_num,rfl,by rw [jb5];exact own9,(he.trans (eW5.trans (Ext.alloc _ _))).grown g9' (fun k hk => by have := jas hG2 k hk;omega)⟩
        case measure => simp [intOf];omega
      · rw [s1] at D8;clear s1
        have k0 := D8.cell 0 rfl;have k1 := D8.cell 1 rfl;have hG2 := jah hG (eW5.trans (Ext.alloc W5 (.cells #[.int .i64 (sh a).1,.int .i64 (sh a).2] 167)));have hszA := (Ext.alloc W5 (.cells #[.int .i64 (sh a).1,.int .i64 (sh a).2] 167)).size;have HE := fun a b W => eq_shape a b W
        have HS := hid s2;clear s2 D8;go_wp2_with ((with_reducible show gx6);refine ja9 (u := .agg #[.int .i64 (sh a).1,.int .i64 (sh a).2]) rfl rfl rfl rfl rfl rfl rfl (fun _ => rfl) (fun _ => rfl) hG2 (by unfold maxLen;omega) (by omega) (by omega) ?_;intro g9 c9 w9 own9 g9' hg9);have own9 : w9.ownsRow w.heap.size 167 2 (.slice (some ⟨g9,0,none⟩) (i + 1) c9) (i + 1) ((shpC sh i).flatten ++ [.int .i64 (sh i).1,.int .i64 (sh i).2]) := by rw [HS.out];exact own9
        go_roundw
        case rel =>
         exact ⟨i + 1,_,_,by omega,by go_num,rfl,by rw [jb5];exact own9,(he.trans (eW5.trans (Ext.alloc _ _))).grown g9' (fun k hk => by have := jas hG2 k hk;omega)⟩
        case measure => simp [intOf];omega
      · rw [s1] at D8;clear s1
        have k0 := D8.cell 0 rfl;have k1 := D8.cell 1 rfl;have hG2 := jah hG (eW5.trans (Ext.alloc W5 (.cells #[.int .i64 (sh a).1,.int .i64 (sh a).2] 167)));have hszA := (Ext.alloc W5 (.cells #[.int .i64 (sh a).1,.int .i64 (sh a).2] 167)).size;have HE := fun a b W => eq_shape a b W
        have HS := hid s2;clear s2 D8;go_wp2_with ((with_reducible show gx6);refine ja9 (u := .agg #[.int .i64 (sh a).1,.int .i64 (sh a).2]) rfl rfl rfl rfl rfl rfl rfl (fun _ => rfl) (fun _ => rfl) hG2 (by unfold maxLen;omega) (by omega) (by omega) ?_;intro g9 c9 w9 own9 g9' hg9);have own9 : w9.ownsRow w.heap.size 167 2 (.slice (some ⟨g9,0,none⟩) (i + 1) c9) (i + 1) ((shpC sh i).flatten ++ [.int .i64 (sh i).1,.int .i64 (sh i).2]) := by rw [HS.out];exact own9
        go_roundw
        case rel =>
         exact ⟨i + 1,_,_,by omega,by go_num,rfl,by rw [jb5];exact own9,(he.trans (eW5.trans (Ext.alloc _ _))).grown g9' (fun k hk => by have := jas hG2 k hk;omega)⟩
        case measure => simp [intOf];omega
      · rw [s1] at D8;clear s1
        have k0 := D8.cell 0 rfl;have k1 := D8.cell 1 rfl;have hG2 := jah hG (eW5.trans (Ext.alloc W5 (.cells #[.int .i64 (sh a).1,.int .i64 (sh b).2] 167)));have hszA := (Ext.alloc W5 (.cells #[.int .i64 (sh a).1,.int .i64 (sh b).2] 167)).size;have HE := fun a b W => eq_shape a b W
        have HS := hid s2;clear s2 D8;go_wp2_with ((with_reducible show gx6);refine ja9 (u := .agg #[.int .i64 (sh a).1,.int .i64 (sh b).2]) rfl rfl rfl rfl rfl rfl rfl (fun _ => rfl) (fun _ => rfl) hG2 (by unfold maxLen;omega) (by omega) (by omega) ?_;intro g9 c9 w9 own9 g9' hg9);have own9 : w9.ownsRow w.heap.size 167 2 (.slice (some ⟨g9,0,none⟩) (i + 1) c9) (i + 1) ((shpC sh i).flatten ++ [.int .i64 (sh i).1,.int .i64 (sh i).2]) := by rw [HS.out];exact own9
        go_roundw
        case rel =>
         exact ⟨i + 1,_,_,by omega,by go_num,rfl,by rw [jb5];exact own9,(he.trans (eW5.trans (Ext.alloc _ _))).grown g9' (fun k hk => by have := jas hG2 k hk;omega)⟩
        case measure => simp [intOf];omega
      · skip
        have k0 := D8.cell 0 rfl;have k1 := D8.cell 1 rfl;have hG2 := jah hG (eW5.trans (Ext.alloc W5 (.cells #[.int .i64 (sh a).1,.int .i64 (sh a).2] 167)));have hszA := (Ext.alloc W5 (.cells #[.int .i64 (sh a).1,.int .i64 (sh a).2] 167)).size;have HE := fun a b W => eq_shape a b W
        have HS := hid s2;clear s2 D8;go_wp2_with ((with_reducible show gx6);refine ja9 (u := .agg #[.int .i64 (sh a).1,.int .i64 (sh a).2]) rfl rfl rfl rfl rfl rfl rfl (fun _ => rfl) (fun _ => rfl) hG2 (by unfold maxLen;omega) (by omega) (by omega) ?_;intro g9 c9 w9 own9 g9' hg9);have own9 : w9.ownsRow w.heap.size 167 2 (.slice (some ⟨g9,0,none⟩) (i + 1) c9) (i + 1) ((shpC sh i).flatten ++ [.int .i64 (sh i).1,.int .i64 (sh i).2]) := by rw [HS.out];exact own9
        go_roundw
        case rel =>
         exact ⟨i + 1,_,_,by omega,by go_num,rfl,by rw [jb5];exact own9,(he.trans (eW5.trans (Ext.alloc _ _))).grown g9' (fun k hk => by have := jas hG2 k hk;omega)⟩
        case measure => simp [intOf];omega
      · skip
        have k0 := D8.cell 0 rfl;have k1 := D8.cell 1 rfl;have hG2 := jah hG (eW5.trans (Ext.alloc W5 (.cells #[.int .i64 (sh a).1,.int .i64 (sh a).2] 167)));have hszA := (Ext.alloc W5 (.cells #[.int .i64 (sh a).1,.int .i64 (sh a).2] 167)).size;have HE := fun a b W => eq_shape a b W
        have HS := hid s2;clear s2 D8;go_wp2_with ((with_reducible show gx6);refine ja9 (u := .agg #[.int .i64 (sh a).1,.int .i64 (sh a).2]) rfl rfl rfl rfl rfl rfl rfl (fun _ => rfl) (fun _ => rfl) hG2 (by unfold maxLen;omega) (by omega) (by omega) ?_;intro g9 c9 w9 own9 g9' hg9);have own9 : w9.ownsRow w.heap.size 167 2 (.slice (some ⟨g9,0,none⟩) (i + 1) c9) (i + 1) ((shpC sh i).flatten ++ [.int .i64 (sh i).1,.int .i64 (sh i).2]) := by rw [HS.out];exact own9
        go_roundw
        case rel =>
         exact ⟨i + 1,_,_,by omega,by go_num,rfl,by rw [jb5];exact own9,(he.trans (eW5.trans (Ext.alloc _ _))).grown g9' (fun k hk => by have := jas hG2 k hk;omega)⟩
        case measure => simp [intOf];omega
      · skip
        have k0 := D8.cell 0 rfl;have k1 := D8.cell 1 rfl;have hG2 := jah hG (eW5.trans (Ext.alloc W5 (.cells #[.int .i64 (sh a).1,.int .i64 (sh a).2] 167)));have hszA := (Ext.alloc W5 (.cells #[.int .i64 (sh a).1,.int .i64 (sh a).2] 167)).size;have HE := fun a b W => eq_shape a b W
        have HS := hid s2;clear s2 D8;go_wp2_with ((with_reducible show gx6);refine ja9 (u := .agg #[.int .i64 (sh a).1,.int .i64 (sh a).2]) rfl rfl rfl rfl rfl rfl rfl (fun _ => rfl) (fun _ => rfl) hG2 (by unfold maxLen;omega) (by omega) (by omega) ?_;intro g9 c9 w9 own9 g9' hg9);have own9 : w9.ownsRow w.heap.size 167 2 (.slice (some ⟨g9,0,none⟩) (i + 1) c9) (i + 1) ((shpC sh i).flatten ++ [.int .i64 (sh i).1,.int .i64 (sh i).2]) := by rw [HS.out];exact own9
        go_roundw
        case rel =>
         exact ⟨i + 1,_,_,by omega,by go_num,rfl,by rw [jb5];exact own9,(he.trans (eW5.trans (Ext.alloc _ _))).grown g9' (fun k hk => by have := jas hG2 k hk;omega)⟩
        case measure => simp [intOf];omega
      · skip
        have k0 := D8.cell 0 rfl;have k1 := D8.cell 1 rfl;have hG2 := jah hG (eW5.trans (Ext.alloc W5 (.cells #[.int .i64 (sh a).2,.int .i64 (sh a).1] 167)));have hszA := (Ext.alloc W5 (.cells #[.int .i64 (sh a).2,.int .i64 (sh a).1] 167)).size;have HE := fun a b W => eq_shape a b W
        have HS := hid s2;clear s2 D8;go_wp2_with ((with_reducible show gx6);refine ja9 (u := .agg #[.int .i64 (sh a).2,.int .i64 (sh a).1]) rfl rfl rfl rfl rfl rfl rfl (fun _ => rfl) (fun _ => rfl) hG2 (by unfold maxLen;omega) (by omega) (by omega) ?_;intro g9 c9 w9 own9 g9' hg9);have own9 : w9.ownsRow w.heap.size 167 2 (.slice (some ⟨g9,0,none⟩) (i + 1) c9) (i + 1) ((shpC sh i).flatten ++ [.int .i64 (sh i).1,.int .i64 (sh i).2]) := by rw [HS.out];exact own9
        go_roundw
        case rel =>
         exact ⟨i + 1,_,_,by omega,by go_num,rfl,by rw [jb5];exact own9,(he.trans (eW5.trans (Ext.alloc _ _))).grown g9' (fun k hk => by have := jas hG2 k hk;omega)⟩
        case measure => simp [intOf];omega
      · skip
        have k0 := D8.cell 0 rfl;have k1 := D8.cell 1 rfl;have hG2 := jah hG (eW5.trans (Ext.alloc W5 (.cells #[.int .i64 1,.int .i64 1] 167)));have hszA := (Ext.alloc W5 (.cells #[.int .i64 1,.int .i64 1] 167)).size;have HE := fun a b W => eq_shape a b W
        have HS := hid s2;clear s2 D8;go_wp2_with ((with_reducible show gx6);refine ja9 (u := .agg #[.int .i64 1,.int .i64 1]) rfl rfl rfl rfl rfl rfl rfl (fun _ => rfl) (fun _ => rfl) hG2 (by unfold maxLen;omega) (by omega) (by omega) ?_;intro g9 c9 w9 own9 g9' hg9);have own9 : w9.ownsRow w.heap.size 167 2 (.slice (some ⟨g9,0,none⟩) (i + 1) c9) (i + 1) ((shpC sh i).flatten ++ [.int .i64 (sh i).1,.int .i64 (sh i).2]) := by rw [HS.out];exact own9
        go_roundw
        case rel =>
         exact ⟨i + 1,_,_,by omega,by go_num,rfl,by rw [jb5];exact own9,(he.trans (eW5.trans (Ext.alloc _ _))).grown g9' (fun k hk => by have := jas hG2 k hk;omega)⟩
        case measure => simp [intOf];omega
  · obtain rfl : i = n := by omega
    have hdl : decide ((i : Int) < (i : Int)) = false := by simp
    go_wp2;go_ret2;exact ⟨_,rfl,he⟩
theorem ValidTape_yes {sh : Nat → Nat × Nat} (p : Option Addr) (n c : Nat) (css : List (List Value)) (ops : List shOp.T) (w : World) (O : Ops w p n css ops) (hT : jbz sh ops) (h1 : 1 ≤ n) : Calls Try.prog 66 #[.slice p n c] w (RetB w true) := by
 have C := hid (shapes_any p n c css ops w O hT h1);clear O hT;go_enter Try.func66,Try.ntmps66;go_wp2_with fail;refine C.out.mono ?_;rintro e w1 ⟨u,rfl,e1⟩
 go_wp2;go_ret;exact ⟨rfl,e1⟩
theorem RunTape_yes {sh : Nat → Nat × Nat} (p : Option Addr) (n c : Nat) (css : List (List Value)) (ops : List shOp.T) (w : World) (O : Ops w p n css ops) (hT : jbz sh ops) (h1 : 1 ≤ n) :
 Calls Try.prog 25 #[.slice p n c] w fun e w' => ∃ q k cs2,e = .returned (.tuple #[.slice q n k,.bool true]) ∧ Tens w' q n cs2 (jb7 ops n) ∧ n ≤ k ∧ Ext w w' := by
 have C := hid (ValidTape_yes p n c css ops w O hT h1);have D := hid (fun W (h : Ext w W) => runTape_any p n c css ops W (O.ext h) hT h1);clear O hT;go_enter Try.func25,Try.ntmps25;go_wp2_with fail;refine C.out.mono ?_;rintro e w1 ⟨rfl,e1⟩
 go_wp2_with fail;refine (D.out w1 e1).mono ?_;rintro e w2 ⟨u,rfl,hT,e2⟩
 obtain ⟨q,k,cs2,rfl,h1,h2,h3⟩ := hT.tens;rw [valsT_len] at h1 h2 ⊢;go_wp2;go_ret2;exact ⟨q,k,cs2,rfl,h1,h2,e1.trans e2⟩
theorem Gradients_yes {sh : Nat → Nat × Nat} (p : Option Addr) (n c : Nat) (css : List (List Value)) (ops : List shOp.T) (w : World) (O : Ops w p n css ops) (hT : jbz sh ops) (h1 : 1 ≤ n) :
 Calls Try.prog 26 #[.slice p n c] w fun e w' => ∃ g gcs,e = .returned (.tuple #[.slice (some ⟨g,0,none⟩) n n,.bool true]) ∧ Tens w' (some ⟨g,0,none⟩) n gcs (jca ops) ∧ Ext w w' := by
 have C := hid (ValidTape_yes p n c css ops w O hT h1);have D := hid (fun W (h : Ext w W) => runTape_any p n c css ops W (O.ext h) hT h1);have G := hid (fun q k vcs W (h : Ext w W) (V : Tens W q n vcs (jb7 ops n)) => gradients_any p q n c k css vcs ops W (O.ext h) V hT h1);clear O hT;go_enter Try.func26,Try.ntmps26;go_wp2_with fail;refine C.out.mono ?_;rintro e w1 ⟨rfl,e1⟩
 go_wp2_with fail;refine (D.out w1 e1).mono ?_;rintro e w2 ⟨u,rfl,hT,e2⟩
 obtain ⟨q,k,cs2,rfl,h1,h2,h3⟩ := hT.tens;rw [valsT_len] at h1 h2 ⊢;go_wp2_with fail;refine (G.out q k cs2 w2 (e1.trans e2) h1).mono ?_;rintro e w3 ⟨g,gcs,rfl,h4,e3⟩
 go_wp2;go_ret2;exact ⟨g,gcs,rfl,h4,(e1.trans e2).trans e3⟩
theorem ModelTape_any (p q q2 : Option Addr) (n c nx cx ny cy : Nat) (r k r2 k2 : Int) (css : List (List Value)) (L : List jac.T) (xs ys : List Nat) (us vs : List Value) (w : World) (hL : Lays w p n css L) (hxl : xs.length = nx) (hyl : ys.length = ny) (hnx : nx ≤ maxLen) (hny : ny ≤ maxLen) (hcx : nx ≤ cx) (hcy : ny ≤ cy) (hqx : Cs w q us) (hfx : F32s us xs) (hqy : Cs w q2 vs) (hfy : F32s vs ys) :
 Calls Try.prog 24 #[.agg #[.slice p n c],.agg #[.int .i64 r,.int .i64 k,.slice q nx cx],.agg #[.int .i64 r2,.int .i64 k2,.slice q2 ny cy]] w fun e w' => TapeRet L r k xs r2 k2 ys e w' ∧ Ext w w' := by
 obtain ⟨W0,hW0⟩ : ∃ W0,W0 = ((w.alloc (.cells #[.slice p n c] 38)).alloc (.cells #[.int .i64 r,.int .i64 k,.slice q nx cx] 27)).alloc (.cells #[.int .i64 r2,.int .i64 k2,.slice q2 ny cy] 27) := ⟨_,rfl⟩;obtain ⟨E0,s0,b0,b1,b2⟩ := box3 hW0;have K := hid (modelTape_any p q q2 n c nx cx ny cy r k r2 k2 css L xs ys us vs W0 (hL.ext E0) hxl hyl hnx hny hcx hcy (hqx.ext E0) hfx (hqy.ext E0) hfy);clear b0 b1 b2 hL hxl hyl;go_enter Try.func24,Try.ntmps24;go_wp2_with fail;rw [← hW0];clear hW0;refine K.out.mono ?_;rintro e w1 ⟨hg,e1⟩
 have HG := hid hg;clear hg
 obtain ⟨v1,v2,v3,rfl⟩ : ∃ v1 v2 v3,e = .returned (.tuple #[v1,v2,v3]) := by
  rcases HG.out with ⟨_,h⟩ | ⟨_,q,qw,c,cw,css,h,_⟩
  · exact ⟨_,_,_,h⟩
  · exact ⟨_,_,_,h⟩
 go_wp2;refine bodyPost_ret (results_tmp3 (t := 6) (u := 7) (v := 8) (by kernel_rfl) _ _ _) rfl ?_;exact ⟨HG.out,E0.trans e1⟩
theorem sameShape_eq (r c : Int) (p q : Option Addr) (n m cp cq : Nat) (w : World) : Calls Try.prog 72 #[.agg #[.int .i64 r,.int .i64 c,.slice p n cp],.agg #[.int .i64 r,.int .i64 c,.slice q m cq]] w (RetB w true) := by
 go_enter Try.func72,Try.ntmps72;go_wp2;go_ret;exact ⟨by simp,(Ext.alloc _ _).trans (Ext.alloc _ _)⟩
theorem SameTensors_eq (r c : Int) (p q : Option Addr) (n cp cq : Nat) (us vs : List Value) (xs : List Nat) (w : World) (ht : tenB r c n = true) (hx : xs.length = n) (hn : n ≤ maxLen) (hp : Cs w p us) (hq : Cs w q vs) (hu : F32s us xs) (hv : F32s vs xs) (bx : In32 xs) :
 Calls Try.prog 29 #[.agg #[.int .i64 r,.int .i64 c,.slice p n cp],.agg #[.int .i64 r,.int .i64 c,.slice q n cq]] w (RetB w true) := by
 obtain ⟨W0,hW0⟩ : ∃ W0,W0 = (w.alloc (.cells #[.int .i64 r,.int .i64 c,.slice p n cp] 27)).alloc (.cells #[.int .i64 r,.int .i64 c,.slice q n cq] 27) := ⟨_,rfl⟩;obtain ⟨E0,s0,b0,b1⟩ := box2 hW0;have b0 : HB W0 w.heap.size #[.int .i64 r,.int .i64 c,.slice p n cp] 27 := b0;have b1 : HB W0 (w.heap.size + 1) #[.int .i64 r,.int .i64 c,.slice q n cq] 27 := b1;have V := hid (fun (p : Option Addr) (cp : Nat) W => jbo r c p n cp W hn);rw [ht] at V;have S := hid (fun W (h : Ext w W) => sameLists_any p q n n cp cq us vs xs xs W hx hx hn (hp.ext h) (hq.ext h) hu hv bx bx);have hdd : decide (xs = xs) = true := by simp
 rw [hdd] at S;clear hdd hx hp hq;have x0 := b0.cell 0 rfl;have x1 := b0.cell 1 rfl;have x2 := b0.cell 2 rfl;have y0 := b1.cell 0 rfl;have y1 := b1.cell 1 rfl;have y2 := b1.cell 2 rfl;go_enter Try.func29,Try.ntmps29;rw [hW0] at x0 x1 x2 y0 y1 y2;go_wp2_with fail;rw [← hW0];clear x0 x1 x2 y0 y1 y2;clear hW0;refine (V.out p cp W0).mono ?_;rintro e w1 ⟨rfl,e1⟩
 have x0 := (b0.ext e1).cell 0 rfl;have x1 := (b0.ext e1).cell 1 rfl;have x2 := (b0.ext e1).cell 2 rfl;have y0 := (b1.ext e1).cell 0 rfl;have y1 := (b1.ext e1).cell 1 rfl;have y2 := (b1.ext e1).cell 2 rfl;go_wp2_with fail;refine (V.out q cq w1).mono ?_;rintro e w2 ⟨rfl,e2⟩
 have E2 := e1.trans e2;clear x0 x1 x2 y0 y1 y2;have x0 := (b0.ext E2).cell 0 rfl;have x1 := (b0.ext E2).cell 1 rfl;have x2 := (b0.ext E2).cell 2 rfl;have y0 := (b1.ext E2).cell 0 rfl;have y1 := (b1.ext E2).cell 1 rfl;have y2 := (b1.ext E2).cell 2 rfl;go_wp2_with fail;refine (sameShape_eq r c p q n n cp cq w2).mono ?_;rintro e w3 ⟨rfl,e3⟩
 have E3 := E2.trans e3;clear x0 x1 x2 y0 y1 y2;have x0 := (b0.ext E3).cell 0 rfl;have x1 := (b0.ext E3).cell 1 rfl;have x2 := (b0.ext E3).cell 2 rfl;have y0 := (b1.ext E3).cell 0 rfl;have y1 := (b1.ext E3).cell 1 rfl;have y2 := (b1.ext E3).cell 2 rfl;go_wp2_with fail;refine (S.out w3 (E0.trans E3)).mono ?_;rintro e w4 ⟨rfl,e4⟩
 go_wp2;go_ret;exact ⟨rfl,(E0.trans E3).trans e4⟩
theorem product_comm (x y : Ieee.Datum) : x.product y = y.product x := by
 cases x <;> cases y <;> simp [Ieee.Datum.product,Bool.xor_comm,Nat.mul_comm,Int.add_comm]
theorem fop_mul_comm (k : FloatKind) (x y : Nat) : fop .mul k x y = fop .mul k y x := by
 simp [fop,floatBits,Ieee.Format.mul,product_comm]
theorem dotG_comm (f g : Nat → Nat) : ∀ n,dotG f g n = dotG g f n
 | 0 => rfl
 | n + 1 => by simp only [dotG];rw [dotG_comm f g n,fop_mul_comm]
def RowIs (R c : Nat) (D : List Nat) (f : Nat → List Nat) : Prop := D.length = R * c ∧ ∀ r,r < R → ∀ j,j < c → D.getD (r * c + j) 0 = (f r).getD j 0
theorem RowIs.congr {R c : Nat} {D : List Nat} {f g : Nat → List Nat} (h : RowIs R c D f) (e : ∀ r,r < R → f r = g r) : RowIs R c D g :=
 ⟨h.1,fun r hr j hj => by rw [h.2 r hr j hj,e r hr]⟩
theorem dense_rows {R c o : Nat} {D W Bs : List Nat} {f : Nat → List Nat} (h : RowIs R c D f) : RowIs R o (addRX (R * o) o (mmX R c o D (turnX o c W)) Bs) (fun r => tab o (rO 0 c W Bs (f r))) := by
 refine ⟨by simp [addRX,jaf],fun r hr j hj => ?_⟩;have hl := row_lt hr hj;obtain ⟨hd,hm⟩ := jb8 (i := r) hj;unfold addRX mmX;rw [jct _ hl,jct _ hl,hd,hm,tab_get _ hj];unfold rO;rw [if_pos rfl]
 congr 1
 rw [dotG_comm];refine dotG_congr (fun t ht => ?_) (fun t ht => h.2 r hr t ht);have hl2 := row_lt ht hj;obtain ⟨hd2,hm2⟩ := jb8 (i := t) hj;unfold turnX;rw [jct _ hl2,hd2,hm2]
theorem relu_rows {R c : Nat} {D W Bs : List Nat} {f : Nat → List Nat} (h : RowIs R c D f) : RowIs R c (rluX D.length D) (fun r => tab c (rO 1 c W Bs (f r))) := by
 refine ⟨by simp [rluX,jaf,h.1],fun r hr j hj => ?_⟩;have hl := row_lt hr hj;unfold rluX;rw [h.1,jct _ hl,tab_get _ hj,h.2 r hr j hj];unfold rO;rw [if_neg (by decide),if_pos rfl]
theorem scale_rows {R c : Nat} {D W Bs : List Nat} {f : Nat → List Nat} (h : RowIs R c D f) : RowIs R c (mulRX D.length c D W) (fun r => tab c (rO 2 c W Bs (f r))) := by
 refine ⟨by simp [mulRX,jaf,h.1],fun r hr j hj => ?_⟩;have hl := row_lt hr hj;obtain ⟨_,hm⟩ := jb8 (i := r) hj;unfold mulRX;rw [h.1,jct _ hl,tab_get _ hj,h.2 r hr j hj,hm];unfold rO;rw [if_neg (by decide),if_neg (by decide),if_pos rfl,fop_mul_comm]
theorem flat_at {c : Nat} {f : Nat → List Nat} : ∀ {R : Nat},(∀ r,r < R → (f r).length = c) → (((List.range R).map f).flatten).length = R * c ∧ ∀ r,r < R → ∀ j,j < c → (((List.range R).map f).flatten).getD (r * c + j) 0 = (f r).getD j 0
 | 0,_ => by simp
 | R + 1,h => by
   obtain ⟨h1,h2⟩ := flat_at (R := R) (fun r hr => h r (by omega));have e : ((List.range (R + 1)).map f).flatten = ((List.range R).map f).flatten ++ f R := by simp [List.range_succ]
   rw [e];refine ⟨by rw [List.length_append,h1,h R (by omega),Nat.add_mul,Nat.one_mul],fun r hr j hj => ?_⟩
   by_cases hrR : r < R
   · rw [getD_appl _ _ _ _ (by rw [h1];exact row_lt hrR hj)];exact h2 r hrR j hj
   · obtain rfl : r = R := by omega
     rw [jbj _ _ _ _ (by rw [h1];omega),h1,show r * c + j - r * c = j by omega]
theorem RowIs.flat {R c : Nat} {D : List Nat} {f : Nat → List Nat} (h : RowIs R c D f) (hf : ∀ r,r < R → (f r).length = c) : D = ((List.range R).map f).flatten := by
 obtain ⟨h1,h2⟩ := flat_at hf;refine List.ext_getElem (by rw [h.1,h1]) fun i hi hi2 => ?_
 rw [h.1] at hi
 have hc : 0 < c := by
  rcases Nat.eq_zero_or_pos c with h0 | h0
  · rw [h0,Nat.mul_zero] at hi;omega
  · exact h0
 have e : i = i / c * c + i % c := by rw [Nat.mul_comm];exact (Nat.div_add_mod i c).symm
 have k1 := h.2 (i / c) (by rw [Nat.div_lt_iff_lt_mul hc];exact hi) (i % c) (Nat.mod_lt _ hc);have k2 := h2 (i / c) (by rw [Nat.div_lt_iff_lt_mul hc];exact hi) (i % c) (Nat.mod_lt _ hc);rw [← e] at k1 k2;rw [← k2] at k1;rw [List.getD_eq_getElem?_getD,List.getD_eq_getElem?_getD,List.getElem?_eq_getElem (by rw [h.1];exact hi),List.getElem?_eq_getElem hi2] at k1;exact k1
theorem valsT_app (ops more : List shOp.T) : ∀ i,i ≤ ops.length → jb7 (ops ++ more) i = jb7 ops i
 | 0,_ => rfl
 | i + 1,h => by simp only [jb7];rw [valsT_app ops more i (by omega),getD_appl _ _ _ _ (by omega)]
theorem vAt_app {ops : List shOp.T} (more : List shOp.T) {i : Nat} (h : i < ops.length) : vAt (ops ++ more) i = vAt ops i := by
 unfold vAt;rw [valsT_app ops more (i + 1) h]
theorem vAt_op {ops : List shOp.T} {n k a b z : Nat} (ho : ops.getD n o0 = mkOp k a b z t0) (hk : k ≠ 0) (ha : a < n) (hb : b < n) : vAt ops n = opV k z (vAt ops a) (vAt ops b) := by
 rw [vAt_eq,ho,valT_mk hk,valsT_at ops ha,valsT_at ops hb]
theorem vAt_inp {ops : List shOp.T} {n : Nat} {t : jaa.T} (ho : ops.getD n o0 = mkOp 0 0 0 0 t) : vAt ops n = t := by
 rw [vAt_eq,ho];rfl
theorem mtStep_rows {R c o : Nat} {s : Mt} {d : jac.T} {D : List Nat} {f : Nat → List Nat} (hv : vAt s.1 s.2.2 = tn R c D) (hl : s.2.2 < s.1.length) (h2 : 2 ≤ s.1.length) (h : RowIs R c D f) (hd : layD d = true) (hk : d.1 = 0 ∨ d.1 = 1 ∨ d.1 = 2) (hc : d.2.1 = (c : Int)) (ho : d.2.2.1 = (o : Int)) :
 (ja6 d s).2.2 + 1 = (ja6 d s).1.length ∧ ∃ D',vAt (ja6 d s).1 (ja6 d s).2.2 = tn R o D' ∧ RowIs R o D' (fun r => layF d (f r)) := by
 obtain ⟨ops,ws,j⟩ := s;obtain ⟨k,i,oo,W,Bs,u⟩ := d;dsimp only at hv hl h2 hk hc ho;subst hc;subst ho
 have hsq : k = 0 ∨ c = o := by
  unfold layD layB at hd;simp only [Bool.and_eq_true,Bool.or_eq_true,decide_eq_true_eq] at hd;rcases hd.2.2.2.1 with h | h
  · exact .inl h
  · exact .inr (Int.ofNat.inj h)
 clear hd;obtain ⟨n,hn⟩ : ∃ n,ops.length = n := ⟨_,rfl⟩;rw [hn] at hl h2;rcases hk with rfl | rfl | rfl
 · simp only [ja6,if_true,hn]
   refine ⟨by simp [hn],_,?_,dense_rows (W := W) (Bs := Bs) h⟩;obtain ⟨Q,hQ⟩ : ∃ Q,Q = ops ++ [mkOp 0 0 0 0 ((o : Int),(c : Int),W,()),mkOp 0 0 0 0 (1,(o : Int),Bs,()),mkOp 7 n 0 0 t0,mkOp 6 j (n + 2) 0 t0,mkOp 2 (n + 3) (n + 1) 0 t0] := ⟨_,rfl⟩;rw [← hQ]
   have g : ∀ m,Q.getD (n + m) o0 = [mkOp 0 0 0 0 ((o : Int),(c : Int),W,()),mkOp 0 0 0 0 (1,(o : Int),Bs,()),mkOp 7 n 0 0 t0,mkOp 6 j (n + 2) 0 t0,mkOp 2 (n + 3) (n + 1) 0 t0].getD m o0 := fun m => by
    rw [hQ,jbj _ _ _ _ (by omega),hn,show n + m - n = m by omega]
   have v0 : vAt Q j = tn R c D := by rw [hQ,vAt_app _ (by omega)];exact hv
   have v1 : vAt Q (n + 0) = tn o c W := vAt_inp (g 0);have v2 : vAt Q (n + 1) = tn 1 o Bs := vAt_inp (g 1)
   have v3 : vAt Q (n + 2) = tn c o (turnX o c W) := by
    rw [vAt_op (g 2) (by decide) (by omega) (by omega),show vAt Q n = tn o c W from v1];simp only [opV,tn,Int.toNat_natCast]
   have v4 : vAt Q (n + 3) = tn R o (mmX R c o D (turnX o c W)) := by
    rw [vAt_op (g 3) (by decide) (by omega) (by omega),v0,v3];simp only [opV,tn,Int.toNat_natCast]
   rw [vAt_op (g 4) (by decide) (by omega) (by omega),v4,v2];simp only [opV,tn,Int.toNat_natCast,mmX,jaf]
 · obtain rfl : c = o := by rcases hsq with h | h;exact absurd h (by decide);exact h
   simp only [ja6,show ¬ ((1 : Int) = 0) by decide,if_false,if_true,hn];refine ⟨by simp [hn],_,?_,relu_rows (W := W) (Bs := Bs) h⟩
   have g : (ops ++ [mkOp 8 j 0 0 t0]).getD n o0 = mkOp 8 j 0 0 t0 := by
    rw [jbj _ _ _ _ (by omega),hn,Nat.sub_self];rfl
   rw [vAt_op g (by decide) hl (by omega),vAt_app _ (by omega),show vAt ops j = tn R c D from hv];simp only [opV,tn]
 · obtain rfl : c = o := by rcases hsq with h | h;exact absurd h (by decide);exact h
   simp only [ja6,show ¬ ((2 : Int) = 0) by decide,show ¬ ((2 : Int) = 1) by decide,if_false,hn];refine ⟨by simp [hn],_,?_,scale_rows (W := W) (Bs := Bs) h⟩;obtain ⟨Q,hQ⟩ : ∃ Q,Q = ops ++ [mkOp 0 0 0 0 (1,(c : Int),W,()),mkOp 4 j n 0 t0] := ⟨_,rfl⟩;rw [← hQ]
   have g : ∀ m,Q.getD (n + m) o0 = [mkOp 0 0 0 0 (1,(c : Int),W,()),mkOp 4 j n 0 t0].getD m o0 := fun m => by
    rw [hQ,jbj _ _ _ _ (by omega),hn,show n + m - n = m by omega]
   have v0 : vAt Q j = tn R c D := by rw [hQ,vAt_app _ (by omega)];exact hv
   have v1 : vAt Q (n + 0) = tn 1 c W := vAt_inp (g 0);rw [vAt_op (g 1) (by decide) (by omega) (by omega),v0,show vAt Q n = tn 1 c W from v1];simp only [opV,tn,Int.toNat_natCast]
theorem mtTo_rows {L : List jac.T} (h : ModOk L) (ht : tapeB L = true) {R : Nat} {xs : List Nat} {y : jaa.T} (hx : xs.length = R * colL L 0) :
 ∀ i,i ≤ L.length → 2 + i ≤ (mtTo L (tn R (colL L 0) xs) y i).1.length ∧ (1 ≤ i → (mtTo L (tn R (colL L 0) xs) y i).2.2 + 1 = (mtTo L (tn R (colL L 0) xs) y i).1.length) ∧ (mtTo L (tn R (colL L 0) xs) y i).2.2 < (mtTo L (tn R (colL L 0) xs) y i).1.length ∧ ∃ D,vAt (mtTo L (tn R (colL L 0) xs) y i).1 (mtTo L (tn R (colL L 0) xs) y i).2.2 = tn R (colL L i) D ∧ RowIs R (colL L i) D (fun r => curF L (rowT xs (colL L 0) r) i)
 | 0,_ => by
   refine ⟨by simp [mtTo],fun h => absurd h (by decide),by simp [mtTo],xs,rfl,hx,fun r hr j hj => ?_⟩;show xs.getD (r * colL L 0 + j) 0 = (curF L (rowT xs (colL L 0) r) 0).getD j 0;rw [curF_zero];unfold rowT;have hl := row_lt hr hj;rw [part_get (by rw [Nat.add_mul];omega)]
 | i + 1,hi => by
   obtain ⟨a1,a2,a3,D,a4,a5⟩ := mtTo_rows h ht (y := y) hx i (by omega);have hil : i < L.length := by omega
   have hk : (L[i].1 : Int) = 0 ∨ (L[i].1 : Int) = 1 ∨ (L[i].1 : Int) = 2 := by simpa using List.all_eq_true.1 ht L[i] (List.getElem_mem _)
   have hs : mtTo L (tn R (colL L 0) xs) y (i + 1) = ja6 L[i] (mtTo L (tn R (colL L 0) xs) y i) := by simp [mtTo,List.getD_eq_getElem?_getD,hil]
   obtain ⟨g1,g2,_⟩ := layD_int (h.lay i hil);rw [← colL_at hil] at g1;rw [← colL_succ h hil] at g2;obtain ⟨b1,D',b2,b3⟩ := mtStep_rows (o := colL L (i + 1)) a4 a3 (by omega) a5 (h.lay i hil) hk g1.symm g2.symm;rw [← hs] at b1 b2
   have hlen : (mtTo L (tn R (colL L 0) xs) y i).1.length + 1 ≤ (mtTo L (tn R (colL L 0) xs) y (i + 1)).1.length := by
    rw [hs];unfold ja6;dsimp only
    split
    · simp
    · split <;> simp
   exact ⟨by omega,fun _ => b1,by omega,D',b2,b3.congr fun r hr => (curF_succ _ hil).symm⟩
theorem mtape_rows {L : List jac.T} (h : ModOk L) (ht : tapeB L = true) {R I O : Nat} {xs : List Nat} {y : jaa.T} (hI : (I : Int) = inL L 0) (hO : (O : Int) = outL L) (hx : xs.length = R * I) (z : Nat) :
 8 ≤ (mtape L (tn R I xs) y z).length ∧ vAt (mtape L (tn R I xs) y z) ((mtape L (tn R I xs) y z).length - 6) = tn R O (rowsM L xs I R) := by
 have hp := h.pos
 have c0 : colL L 0 = I := by
  unfold colL;rw [if_pos (by omega),← hI,Int.toNat_natCast]
 have c1 : colL L L.length = O := by
  unfold colL;rw [if_neg (by omega),← hO,Int.toNat_natCast]
 subst c0;obtain ⟨a1,a2,a3,D,a4,a5⟩ := mtTo_rows h ht (y := y) hx L.length (Nat.le_refl _);have a2 := a2 hp;unfold mtape mtEnd;have hlen : ∀ (A B C D E : shOp.T) (l : List shOp.T),(l ++ [A,B,C,D,E]).length = l.length + 5 := fun _ _ _ _ _ _ => by simp
 rw [hlen,show (mtTo L (tn R (colL L 0) xs) y L.length).1.length + 5 - 6 = (mtTo L (tn R (colL L 0) xs) y L.length).2.2 by omega,vAt_app _ a3,a4,c1];refine ⟨by omega,?_⟩
 congr 1
 rw [c1] at a5;refine a5.flat fun r hr => ?_
 have := cur_out h (x := rowT xs (colL L 0) r) (by rw [rowT_len hx hr];exact hI);rw [← hO] at this;exact Int.ofNat.inj this
end Go.Proofs.Ytmbckkcgiafagaa
