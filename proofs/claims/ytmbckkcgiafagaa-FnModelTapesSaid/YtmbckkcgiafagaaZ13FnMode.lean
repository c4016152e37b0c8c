/- A part of the proofs: ConfP, Red, Tp, OwnX, TnI, TnI2, TnI3. -/
import Derived.Test.YtmbckkcgiafagaaZ11FnMode
import Derived.Test.YtmbckkcgiafagaaZ10FnMode
import Derived.Test.YtmbckkcgiafagaaZ12FnMode
import Derived.Test.YtmbckkcgiafagaaZ08FnMode
import Derived.Test.YtmbckkcgiafagaaZ03FnMode
import Derived.Test.YtmbckkcgiafagaaZ07FnMode
import Derived.Test.YtmbckkcgiafagaaZ09FnMode
set_option linter.unusedSimpArgs false
set_option linter.unusedVariables false
set_option maxRecDepth 100000
set_option maxHeartbeats 16000000
namespace Go.Proofs.Ytmbckkcgiafagaa
open Go.RowKit
theorem r8At_any (p : Option Addr) (n c : Nat) (bs : List Nat) (i N : Nat) (w : World) (hc : Cs w p (u8s bs)) (hl : bs.length = n) (hn : n ≤ 1048576) (hb : ∀ b ∈ bs,b < 256) (hN : N ≤ 100000) :
 Calls Try.prog 10 #[.slice p n c,.int .i64 i,.int .i64 N] w fun e w' => ∃ x : Nat,e = .returned (.int .i64 x) ∧ (1 ≤ N → x < N) ∧ w = w' := by
 have hlen : (u8s bs).length = n := by simp [u8s,hl]
 by_cases h1 : N ≤ 1
 · go_enter Try.func10,Try.ntmps10
   go_wp2;go_ret;exact ⟨0,rfl,fun h => by omega,rfl⟩
 · have d3 : ((N : Int) = 0) = False := by simp;omega
   have d4 : ((N : Int) = -1) = False := by first | (simp;done) | (simp;omega)
   by_cases h2 : i < n
   · have hib : i < bs.length := by omega
     have hv : (u8s bs)[i]? = some (.int .u8 ((bs[i] : Nat) : Int)) := by simp [u8s,hib]
     have hb2 := hb bs[i] (by simp);generalize bs[i] = b at *;have wb : IntKind.i64.wrap (b : Int) = (b : Int) := ja2 _ (by omega) (by omega);have Hv := hid hv;have Hl := hid hlen;have hni : ¬ n ≤ i := by omega
     clear hv hlen hl hib hb;go_enter Try.func10,Try.ntmps10;go_wp2_with ((with_reducible show gx2);refine jbl rfl rfl rfl rfl (fun _ => rfl) rfl rfl hc Hl.out (by omega) (by omega) ?_;intro u hu;rw [Int.toNat_natCast,Hv.out] at hu;cases hu);go_ret;have g1 := Int.emod_nonneg (b : Int) (show (N : Int) ≠ 0 by omega);have g2 := Int.emod_lt_of_pos (b : Int) (show (0 : Int) < N by omega);exact ⟨((b : Int) % N).toNat,by rw [Int.toNat_of_nonneg g1];rfl,fun h => by omega,rfl⟩
   · have hni : n ≤ i := by omega
     go_enter Try.func10,Try.ntmps10;go_wp2;go_ret;exact ⟨0,rfl,fun h => by omega,rfl⟩
theorem R8Tensor_any (p : Option Addr) (n c : Nat) (bs : List Nat) (R C : Nat) (w : World) (hc : Cs w p (u8s bs)) (hl : bs.length = n) (hn : n ≤ 1048576) (hb : ∀ b ∈ bs,b < 256) (hR : R ≤ 16) (hC : C ≤ 16) :
 Calls Try.prog 12 #[.slice p n c,.int .i64 R,.int .i64 C] w (GotT R C w) := by
 obtain ⟨W0,hW0⟩ : ∃ W0,W0 = w.alloc (.cells #[.int .i64 0,.int .i64 0,.slice none 0 0] 27) := ⟨_,rfl⟩;have E0 : Ext w W0 := by rw [hW0];exact Ext.alloc _ _
 have b0 : HB W0 w.heap.size #[.int .i64 0,.int .i64 0,.slice none 0 0] 27 := by rw [hW0];exact HB.new _ _ _
 have z0 := b0.lt;go_enter Try.func12,Try.ntmps12;go_wp2_with fail;rw [← hW0];clear hW0;refine (l00From_any p n c bs W0 (hc.ext E0) hl hn hb).mono ?_;rintro e w1 ⟨rfl,src,e1⟩
 have hsz := e1.size;go_wp2_with fail;refine (l02DrawSized_any W0.heap.size 0 R C w1 src hR hC (by omega)).mono ?_;rintro e w2 ⟨xs,q,c2,vs,rfl,hx,hxb,ho,hf,_,c3⟩
 have E2 := chg_new (E0.trans e1) c3 (by omega);have B1 := (b0.ext e1).chg c3 (fun hh => by omega);have n0 := B1.froz 0;have n1 := B1.froz 1;have n2 := B1.froz 2;have y0 := B1.cell 0 rfl;have y1 := B1.cell 1 rfl;have y2 := B1.cell 2 rfl;have HX := hid hx;clear hx;generalize hRM : R * C = RM at *;go_wp2;have Z7 : HB (((w2.setCell ⟨w.heap.size,0,none⟩ (.int .i64 R)).setCell ⟨w.heap.size,1,none⟩ (.int .i64 C)).setCell ⟨w.heap.size,2,none⟩ (.slice q RM c2)) w.heap.size #[.int .i64 R,.int .i64 C,.slice q RM c2] 27 := ((B1.set 0 _).set 1 _).set 2 _;have C7 : Chg (fun b => b = w.heap.size) w2 (((w2.setCell ⟨w.heap.size,0,none⟩ (.int .i64 R)).setCell ⟨w.heap.size,1,none⟩ (.int .i64 C)).setCell ⟨w.heap.size,2,none⟩ (.slice q RM c2)) := ((jbc _ _ 0 _).trans (jbc _ _ 1 _)).trans (jbc _ _ 2 _);clear n0 n1 n2 y0 y1 y2;generalize (((w2.setCell ⟨w.heap.size,0,none⟩ (.int .i64 R)).setCell ⟨w.heap.size,1,none⟩ (.int .i64 C)).setCell ⟨w.heap.size,2,none⟩ (.slice q RM c2)) = W7 at *;have y0 := Z7.cell 0 rfl;have y1 := Z7.cell 1 rfl;have y2 := Z7.cell 2 rfl;refine bodyPost_ret (v := .agg #[.int .i64 R,.int .i64 C,.slice q RM c2]) (by simp [results,Try.results12,go_sem,y0,y1,y2]) rfl ?_;subst hRM;exact ⟨xs,q,c2,vs,rfl,HX.out,hxb,jak (ja0 ho C7 (fun k hk hs => by have hs : k = _ := hs;have := jas ho k hk;omega)) (by omega),hf,E2.chg C7 (fun b hb => by have hb : b = _ := hb;omega)⟩
structure Fls (w : World) (p : Option Addr) (n : Nat) (us : List Value) (l : List (List Nat)) : Prop where
 cs : Cs w p us
 at' : ∀ i,i < n → ∃ q c vs,us[i]? = some (.slice q (l.getD i []).length c) ∧ Cs w q vs ∧ F32s vs (l.getD i []) ∧ (l.getD i []).length ≤ c
 len : l.length = n
 cnt : us.length = n
theorem Fls.ext {w w' : World} {p : Option Addr} {n : Nat} {us : List Value} {l : List (List Nat)} (h : Fls w p n us l) (e : Ext w w') : Fls w' p n us l :=
 ⟨h.cs.ext e,fun i hi => by obtain ⟨q,c,vs,h1,h2,h3,h4⟩ := h.at' i hi;exact ⟨q,c,vs,h1,h2.ext e,h3,h4⟩,h.len,h.cnt⟩
theorem getD_app {A : Type} (l k : List A) (d : A) (j : Nat) : (l ++ k).getD j d = if j < l.length then l.getD j d else k.getD (j - l.length) d := by
 by_cases h : j < l.length
 · rw [if_pos h];simp [List.getD_eq_getElem?_getD,List.getElem?_append_left h]
 · rw [if_neg h];simp [List.getD_eq_getElem?_getD,List.getElem?_append_right (Nat.le_of_not_lt h)]
theorem getD_appl {A : Type} (l k : List A) (d : A) (j : Nat) (h : j < l.length) : (l ++ k).getD j d = l.getD j d := by rw [getD_app,if_pos h]
theorem jbj {A : Type} (l k : List A) (d : A) (j : Nat) (h : l.length ≤ j) : (l ++ k).getD j d = k.getD (j - l.length) d := by rw [getD_app,if_neg (by omega)]
def ntab (n : Nat) (f : Nat → Nat) : List Nat := (List.range n).map f
theorem jaf (n : Nat) (f : Nat → Nat) : (ntab n f).length = n := by simp [ntab]
theorem jct {n i : Nat} (f : Nat → Nat) (h : i < n) : (ntab n f).getD i 0 = f i := by simp [ntab,h]
theorem ntab_succ (n : Nat) (f : Nat → Nat) : ntab (n + 1) f = ntab n f ++ [f n] := by simp [ntab,List.range_succ]
def addX (n : Nat) (xs ys : List Nat) : List Nat := ntab n fun i => fop .add .f32 (xs.getD i 0) (ys.getD i 0)
def mulX (n : Nat) (xs ys : List Nat) : List Nat := ntab n fun i => fop .mul .f32 (xs.getD i 0) (ys.getD i 0)
def addRX (n c : Nat) (xs ys : List Nat) : List Nat := ntab n fun i => fop .add .f32 (xs.getD i 0) (ys.getD (i % c) 0)
def mulRX (n c : Nat) (xs ys : List Nat) : List Nat := ntab n fun i => fop .mul .f32 (xs.getD i 0) (ys.getD (i % c) 0)
def sclX (n : Nat) (xs : List Nat) (z : Nat) : List Nat := ntab n fun i => fop .mul .f32 (xs.getD i 0) z
def rluX (n : Nat) (xs : List Nat) : List Nat := ntab n fun i => reluF (xs.getD i 0)
def turnX (r c : Nat) (xs : List Nat) : List Nat := ntab (c * r) fun k => xs.getD (k % r * c + k / r) 0
def mmX (a n b : Nat) (xs ys : List Nat) : List Nat := ntab (a * b) fun k => dotG (fun j => xs.getD (k / b * n + j) 0) (fun j => ys.getD (j * b + k % b) 0) n
def colG (c j : Nat) (xs : List Nat) : Nat → Nat
 | 0 => 0
 | m + 1 => if m % c = j then fop .add .f32 (colG c j xs m) (xs.getD m 0) else colG c j xs m
def sumRX (c : Nat) (xs : List Nat) : List Nat := ntab c fun j => colG c j xs xs.length
def rpX (n : Nat) (xs gs : List Nat) : List Nat := ntab n fun i => if fgt .f32 (xs.getD i 0) 0 then gs.getD i 0 else 0
theorem jb8 {b i k : Nat} (hk : k < b) : (i * b + k) / b = i ∧ (i * b + k) % b = k := by
 have hb : 0 < b := by omega
 constructor
 · rw [Nat.mul_comm,Nat.mul_add_div hb,Nat.div_eq_of_lt hk,Nat.add_zero]
 · rw [Nat.mul_comm,Nat.mul_add_mod,Nat.mod_eq_of_lt hk]
theorem row_lt {b i k a : Nat} (hi : i < a) (hk : k < b) : i * b + k < a * b := by
 have := Nat.mul_le_mul_right b (show i + 1 ≤ a by omega);rw [Nat.add_mul,Nat.one_mul] at this;omega
theorem ja5 {w : World} {B e s n hb t : Nat} {v : Value} {vs : List Value} {Z : Array Value} (h : w.ownsRow B e s v n vs) (k : HB w hb Z t) (ht : e ≠ t) : ∀ b,v.ownBlock = some b → b ≠ hb := by
 rintro b hb' rfl
 rcases h with ⟨_,⟨rfl,_⟩ | ⟨g,arr,c,rfl,_,hg,_⟩⟩
 · cases hb'
 · cases hb'
   have k' : w.heap[g]? = some (.cells Z t) := k;rw [hg] at k'
   cases k'
   exact ht rfl
section
variable {P : Program} {w wf : World} {ops : Array Oper} {rest : List Oper} {o : Oper} {a : Act} {Q : Act → Prop} {F : Option Tmp → World → World → Value → Prop}
theorem run_callv {f : FuncId} {xs : Array Operand} {ts : Array TypeId} {args cap : Array Value} {x : Operand} (ho : o.op = .call { callee := .value x,args := xs,argTypes := ts }) (hx : a.eval x = .func (.func f) #[] cap)
 (eg : ∀ args w,(callFunc f args).run P w = .ok (.enter f args) w) (hargs : xs.map a.eval = args) (w : World) : (execOp a.eval o).run P w = .ok (.enter f (args ++ cap)) w := by
 subst hargs;simp only [execOp,ho,resolve,hx,Deferred.ofValue,invoke,Sem.run_bind,Sem.run_pure,Result.andThen_ok,eg];simp [invoke,eg,Sem.run_bind,Sem.run_pure]
theorem y_callv {f : FuncId} {xs : Array Operand} {ts : Array TypeId} {args cap : Array Value} {x : Operand} (hw : Region.wanted o (yielded ops a.tmps) = true) (ho : o.op = .call { callee := .value x,args := xs,argTypes := ts }) (hx : a.eval x = .func (.func f) #[] cap)
 (eg : ∀ args w,(callFunc f args).run P w = .ok (.enter f args) w) (hargs : xs.map a.eval = args)
 (hc : ∀ w1,Ext w w1 → Calls P f (args ++ cap) w1 (fun e w3 => ∃ u,e = .returned u ∧ Ext w1 w3 ∧ F o.dst w1 w3 u))
 (h : ∀ u w1 w3,Ext w w1 → Ext w1 w3 → Ext w3 wf → F o.dst w1 w3 u → wpX P ops F w wf Q rest (a.put o.dst u)) : wpX P ops F w wf Q (o :: rest) a := by
 have hr := fun w1 => run_callv (P := P) (a := a) ho hx eg hargs w1
 refine ⟨fun _ w1 h1 hk => ?_,fun u hu => ?_⟩
 · rw [hr w1];exact ⟨Ext.refl _,hc w1 h1⟩
 · rcases hu with ⟨_,w1,h1,hk,h2⟩ | ⟨hw',_⟩
   · rw [hr w1] at h2
     obtain ⟨w3,h3,h4,h5⟩ := h2;exact h u w1 w3 h1 h3 h4 h5
   · rw [hw] at hw';cases hw'
end
def MapOk (fn : Nat) (cap : Array Value) (xs : List Nat) (f : Nat → Nat) (w : World) : Prop :=
 ∀ (i b : Nat) (W : World),i < xs.length → cn .f32 b = xs.getD i 0 → Ext w W → Calls Try.prog fn (#[.int .i64 i,.float .f32 b] ++ cap) W (RF .f32 W (f i))
theorem f32s_snoc {vs : List Value} {f : Nat → Nat} {i b : Nat} (h : F32s vs (ntab i f)) (hb : cn .f32 b = f i) : F32s (vs ++ [.float .f32 b]) (ntab (i + 1) f) := by
 rw [ntab_succ];refine ⟨by simp [h.1],fun j hj => ?_⟩
 by_cases e : j < vs.length
 · obtain ⟨c,h1,h2⟩ := h.2 j (by simpa using (by rw [← h.1];exact e))
   refine ⟨c,by rw [List.getElem?_append_left e];exact h1,?_⟩;rw [h2,getD_appl _ _ _ _ (by rw [← h.1];exact e)]
 · have h1 := h.1
   have hj' : j = vs.length := by simp [← h1] at hj;omega
   subst hj';refine ⟨b,by simp,?_⟩;rw [hb,h1,jbj _ _ _ _ (Nat.le_refl _)];have : i = vs.length := by rw [h1,jaf]
   simp [jaf]
theorem own_nil0 {w : World} {B e s : Nat} : w.ownsRow B e s (.slice none 0 0) 0 [] := ⟨by simp,.inl ⟨rfl,rfl⟩⟩
theorem mapped_any (fn : Nat) (cap : Array Value) (eg : ∀ args w,(callFunc fn args).run Try.prog w = .ok (.enter fn args) w) (r c : Int) (p : Option Addr) (n cp : Nat) (us : List Value) (xs : List Nat) (f : Nat → Nat) (w : World) (hx : xs.length = n) (hn : n ≤ 1048576) (hp : Cs w p us) (hf : F32s us xs) (hm : MapOk fn cap xs f w) :
 Calls Try.prog 145 #[.agg #[.int .i64 r,.int .i64 c,.slice p n cp],.func (.func fn) #[] cap] w (jao w r c (ntab n f)) := by
 have X := hid hx;have M := hid hm;clear hx hm;obtain ⟨W0,hW0⟩ : ∃ W0,W0 = ((w.alloc (.cells #[.int .i64 r,.int .i64 c,.slice p n cp] 27)).alloc (.cells #[.int .i64 0,.int .i64 0,.slice none 0 0] 27)).alloc (.cells #[.int .i64 r,.int .i64 c,.slice none 0 0] 27) := ⟨_,rfl⟩;obtain ⟨E0,s0,b0,b1,b2⟩ := box3 hW0;have b1 : HB W0 (w.heap.size + 1) #[.int .i64 0,.int .i64 0,.slice none 0 0] 27 := b1;have b2 : HB W0 (w.heap.size + 1 + 1) #[.int .i64 r,.int .i64 c,.slice none 0 0] 27 := b2;clear b0;go_enter Try.func145,Try.ntmps145;go_wp2;rw [← hW0];clear hW0;go_loopw [16] (fun iv wr => ∃ (i : Nat) (vs : List Value) (q : Option Addr) (cq : Nat),i ≤ n ∧ iv = .int .i64 (i : Int) ∧ HB wr (w.heap.size + 1 + 1) #[.int .i64 r,.int .i64 c,.slice q i cq] 27 ∧ HB wr (w.heap.size + 1) #[.int .i64 0,.int .i64 0,.slice none 0 0] 27 ∧ wr.ownsRow w.heap.size 33 1 (.slice q i cq) i vs ∧ Hid (F32s vs (ntab i f)) ∧ Ext w wr) (fun iv _ => n - (intOf iv).toNat)
 case atStart => exact ⟨0,[],none,0,by omega,rfl,b2,b1,own_nil0,F32s.nil,E0⟩
 case round =>
  clear b2 b1 E0;obtain ⟨i,vs,q,cq,hi,rfl,b2,b1,own,HV,he⟩ := hrel
  by_cases hlt : i < n
  · have k1 := hp.ext he
    have eD := Ext.drew wr;have c2 := b2.ext eD;have c1 := b1.ext eD;have y2 := c2.cell 2 rfl;have hmi := fun b hb (w1 : World) (h : Ext wr.drew w1) => M.out i b w1 (by rw [X.out];exact hlt) hb (he.trans (eD.trans h))
    obtain ⟨F,hF⟩ : ∃ F : Option Tmp → World → Value → Prop,F = fun _ _ u => ∃ b,u = .float .f32 b ∧ cn .f32 b = f i := ⟨_,rfl⟩
    have HF := hid hF;clear hF;have o1 := jah own eD;go_wp2_with (first | ((with_reducible show gx2);refine wl_ldF rfl rfl rfl rfl (fun _ => rfl) rfl rfl k1 hf X.out (by omega) (by omega) ?_;intro r1 g1;have G1 := hid g1;clear g1) | fail);refine jcj 7 (F := F) (by kernel_rfl) (by kernel_rfl) (by kernel_rfl) (by kernel_rfl) (by kernel_rfl) ?_;intro wf hwf;simp only [pw1,pw2,pw3,pw4]
    repeat (first
     | ((first | (refine ja8 rfl ?_) | (refine x_mv rfl rfl rfl ?_) | (refine x_as rfl rfl rfl ?_) | (refine y_callv (args := #[.int .i64 i,.float .f32 r1]) rfl rfl rfl eg ?_ ?_ ?_;(focus (simp [Act.eval];done));(focus (intro w1 hw1;rw [HF.out];exact (hmi r1 (by have := G1.out;simpa using this) w1 hw1).mono fun e w3 ⟨b,h1,h2,h3⟩ => ⟨_,h1,h3,b,rfl,h2⟩));rintro u wa wb e0 e3 e4 hu;simp only [HF.out] at hu;obtain ⟨b,rfl,hb⟩ := hu) | (refine x_build1 (u := .float .f32 b) rfl rfl rfl rfl ?_;intro g7 hg7 hg7' hc7));simp only [Act.put,jab,pu1,pu2,pu3,pu4,pu5])
     | (refine jbw rfl fun K hK w1 hw1 => ?_;have k0 := hw1.cell (y2);go_simp;refine hK _ ?_;clear hK K k0 hw1 w1))
    refine jbu ?_;have d2 := c2.ext hwf;have d1 := c1.ext hwf;have o2 := jah o1 hwf;have hz := d2.lt;have l2 := d2.cell 2 rfl;have f2 := d2.froz 2;have Hb := hid hb;have hsz := (he.trans (eD.trans hwf));have hs2 := hsz.size;clear y2 k1 hb;go_wp2_with ((with_reducible show gx5);refine wl_app1s rfl rfl rfl rfl o2 hc7 rfl (by simp [Value.cells,Value.oneCell']) (by unfold maxLen;omega) (by omega) (by omega) ?_;intro g9 c9 w9 own9 gr9 hg9;have d3 := d2.chg (Chg.of_grown gr9) (fun h => ja5 o2 d2 (by decide) _ h.symm rfl);have l3 := d3.cell 2 rfl;have f3 := d3.froz 2);go_roundw
    case rel =>
     have e9 : Ext w w9 := hsz.grown gr9 (fun k hk => by have := jas o2 k hk;omega);have hch := jbc w9 (w.heap.size + 1 + 1) 2 (.slice (some ⟨g9,0,none⟩) (i + 1) c9);exact ⟨i + 1,_,some ⟨g9,0,none⟩,c9,by omega,by go_num,d3.set 2 _,(d1.chg (Chg.of_grown gr9) (fun h => ja5 o2 d1 (by decide) _ h.symm rfl)).chg hch (fun h => by omega),ja0 own9 hch (fun k hk hs => ja5 own9 d3 (by decide) k hk hs),f32s_snoc HV.out Hb.out,e9.chg hch (fun k hk => by omega)⟩
    case measure => simp [intOf];omega
  · obtain rfl : i = n := by omega
    have y0 := b2.cell 0 rfl;have y1 := b2.cell 1 rfl;have y2 := b2.cell 2 rfl;have n0 := b1.cell 0 rfl;have n1 := b1.cell 1 rfl;have n2 := b1.cell 2 rfl;have m0 := b1.froz 0;have m1 := b1.froz 1;have m2 := b1.froz 2;go_wp2;refine bodyPost_ret (v := .agg #[.int .i64 r,.int .i64 c,.slice q i cq]) (by simp [results,Try.results145,go_sem,n0,n1,n2,m0,m1,m2]) rfl ?_;exact jao.of (jaf _ _) (ja0 own (S := fun k => k = w.heap.size + 1) (by (repeat (first | (with_reducible first | exact Chg.refl _ _ | exact Chg.of_ext (by assumption) | assumption) | ((with_reducible refine Chg.setCell ?_ ?_ _);rotate_left;focus (first | (simp;done) | (simp;omega))) | (with_reducible first | refine Chg.alloc ?_ _ | refine Chg.drew ?_ | refine px3 ?_ (by assumption))))) (fun k hk hs => ja5 own b1 (by decide) k hk hs)) HV.out rfl (he.chg (S := fun k => k = w.heap.size + 1) (by (repeat (first | (with_reducible first | exact Chg.refl _ _ | exact Chg.of_ext (by assumption) | assumption) | ((with_reducible refine Chg.setCell ?_ ?_ _);rotate_left;focus (first | (simp;done) | (simp;omega))) | (with_reducible first | refine Chg.alloc ?_ _ | refine Chg.drew ?_ | refine px3 ?_ (by assumption))))) (fun k hk => by omega))
theorem jcn {f : FuncId} {fn : Func} (hf : Try.prog.funcs[f]? = some fn) (hb : fn.body.isNone = false) (hn : (fn.name == "runtime.NumGoroutine") = false) (args : Array Value) (w : World) : (callFunc f args).run Try.prog w = .ok (.enter f args) w := by
 have hn' : ¬ fn.name = "runtime.NumGoroutine" := by simpa using hn
 have hb' : ¬ fn.body = none := by intro h;simp [h] at hb
 simp [callFunc,Sem.run,hf,hb',hn',program,Sem.run_bind]
theorem addTensors1_any (i b : Nat) (q : Nat) (r c : Int) (p : Option Addr) (n m cp : Nat) (us : List Value) (ys : List Nat) (x : Nat) (w : World) (hq : HB w q #[.int .i64 r,.int .i64 c,.slice p m cp] 27) (hy : ys.length = m) (hm : m ≤ 1048576) (hp : Cs w p us) (hf : F32s us ys) (hi : i < m) (hb : cn .f32 b = x) :
 Calls Try.prog 146 #[.int .i64 i,.float .f32 b,.pointer (some ⟨q,0,none⟩)] w (RF .f32 w (fop .add .f32 x (ys.getD i 0))) := by
 have y2 := hq.cell 2 rfl;have Y := hid hy;have Hb := hid hb;clear hy hb hq;go_enter Try.func146,Try.ntmps146;go_wp2_with (first | ((with_reducible show gx2);refine wl_ldF rfl rfl rfl rfl (fun _ => rfl) rfl rfl hp hf Y.out (by omega) (by omega) ?_;intro r1 g1;have G1 := hid g1;clear g1) | ((with_reducible show gx3);refine jcm rfl rfl rfl rfl rfl ?_;intro r3 w3 e3 g3;have G3 := hid g3;clear g3));go_ret;have q1 := G1.out;simp only [Int.toNat_natCast] at q1;exact ⟨r3,rfl,by rw [G3.out,Hb.out,q1],e3⟩
theorem addTensors_any (r c r2 c2 : Int) (p p2 : Option Addr) (n m cp cp2 : Nat) (us vs : List Value) (xs ys : List Nat) (w : World) (hx : xs.length = n) (hn : n ≤ 1048576) (hp : Cs w p us) (hf : F32s us xs) (hy : ys.length = m) (hm : m ≤ 1048576) (hp2 : Cs w p2 vs) (hf2 : F32s vs ys) (hnm : n ≤ m) :
 Calls Try.prog 110 #[.agg #[.int .i64 r,.int .i64 c,.slice p n cp],.agg #[.int .i64 r2,.int .i64 c2,.slice p2 m cp2]] w (jao w r c (addX n xs ys)) := by
 obtain ⟨W0,hW0⟩ : ∃ W0,W0 = ((w.alloc (.cells #[.int .i64 r,.int .i64 c,.slice p n cp] 27)).alloc (.cells #[.int .i64 r2,.int .i64 c2,.slice p2 m cp2] 27)).alloc (.cells #[.int .i64 0,.int .i64 0,.slice none 0 0] 27) := ⟨_,rfl⟩;obtain ⟨E0,s0,b0,b1,b2⟩ := box3 hW0;have b0 : HB W0 w.heap.size #[.int .i64 r,.int .i64 c,.slice p n cp] 27 := b0;have b1 : HB W0 (w.heap.size + 1) #[.int .i64 r2,.int .i64 c2,.slice p2 m cp2] 27 := b1;have b2 : HB W0 (w.heap.size + 1 + 1) #[.int .i64 0,.int .i64 0,.slice none 0 0] 27 := b2
 have M : Hid (MapOk 146 #[.pointer (some ⟨w.heap.size + 1,0,none⟩)] xs (fun i => fop .add .f32 (xs.getD i 0) (ys.getD i 0)) W0) := fun i b W hi hb hW => by
  have h := addTensors1_any i b (w.heap.size + 1) r2 c2 p2 m m cp2 vs ys _ W (b1.ext hW) hy hm (hp2.ext (E0.trans hW)) hf2 (by omega) hb
  simpa using h
 have K := hid (mapped_any 146 #[.pointer (some ⟨w.heap.size + 1,0,none⟩)] (jcn Try.func146 rfl (by kernel_rfl)) r c p n cp us xs _ W0 hx hn (hp.ext E0) hf M.out);have k0 := b0.cell 0 rfl;have k1 := b0.cell 1 rfl;have k2 := b0.cell 2 rfl;have HX := hid hx;have HY := hid hy;clear hx hy b1;go_enter Try.func110,Try.ntmps110;go_wp2_with fail;rw [← hW0];clear hW0;refine K.out.mono ?_;rintro e w1 ⟨q,k,ws,rfl,own,hf3,e1⟩
 rw [jaf] at own ⊢;have d2 := b2.ext e1;have n0 := d2.cell 0 rfl;have n1 := d2.cell 1 rfl;have n2 := d2.cell 2 rfl;have m0 := d2.froz 0;have m1 := d2.froz 1;have m2 := d2.froz 2;clear k0 k1 k2;go_wp2;refine bodyPost_ret (v := .agg #[.int .i64 r,.int .i64 c,.slice q n k]) (by simp [results,Try.results110,go_sem,n0,n1,n2,m0,m1,m2]) rfl ?_;exact jao.of (jaf _ _) (jak (jag (S := fun k => k = w.heap.size + 1 + 1) own (by (repeat (first | (with_reducible first | exact Chg.refl _ _ | exact Chg.of_ext (by assumption) | assumption) | ((with_reducible refine Chg.setCell ?_ ?_ _);rotate_left;focus (first | (simp;done) | (simp;omega))) | (with_reducible first | refine Chg.alloc ?_ _ | refine Chg.drew ?_ | refine px3 ?_ (by assumption))))) (fun k hk => by omega)) (by omega)) hf3 rfl (Ext.chg (S := fun k => k = w.heap.size + 1 + 1) (E0.trans e1) (by (repeat (first | (with_reducible first | exact Chg.refl _ _ | exact Chg.of_ext (by assumption) | assumption) | ((with_reducible refine Chg.setCell ?_ ?_ _);rotate_left;focus (first | (simp;done) | (simp;omega))) | (with_reducible first | refine Chg.alloc ?_ _ | refine Chg.drew ?_ | refine px3 ?_ (by assumption))))) (fun k hk => by omega))
theorem mulTensors1_any (i b : Nat) (q : Nat) (r c : Int) (p : Option Addr) (n m cp : Nat) (us : List Value) (ys : List Nat) (x : Nat) (w : World) (hq : HB w q #[.int .i64 r,.int .i64 c,.slice p m cp] 27) (hy : ys.length = m) (hm : m ≤ 1048576) (hp : Cs w p us) (hf : F32s us ys) (hi : i < m) (hb : cn .f32 b = x) :
 Calls Try.prog 160 #[.int .i64 i,.float .f32 b,.pointer (some ⟨q,0,none⟩)] w (RF .f32 w (fop .mul .f32 x (ys.getD i 0))) := by
 have y2 := hq.cell 2 rfl;have Y := hid hy;have Hb := hid hb;clear hy hb hq;go_enter Try.func160,Try.ntmps160;go_wp2_with (first | ((with_reducible show gx2);refine wl_ldF rfl rfl rfl rfl (fun _ => rfl) rfl rfl hp hf Y.out (by omega) (by omega) ?_;intro r1 g1;have G1 := hid g1;clear g1) | ((with_reducible show gx3);refine jcm rfl rfl rfl rfl rfl ?_;intro r3 w3 e3 g3;have G3 := hid g3;clear g3));go_ret;have q1 := G1.out;simp only [Int.toNat_natCast] at q1;exact ⟨r3,rfl,by rw [G3.out,Hb.out,q1],e3⟩
theorem jb1 (r c r2 c2 : Int) (p p2 : Option Addr) (n m cp cp2 : Nat) (us vs : List Value) (xs ys : List Nat) (w : World) (hx : xs.length = n) (hn : n ≤ 1048576) (hp : Cs w p us) (hf : F32s us xs) (hy : ys.length = m) (hm : m ≤ 1048576) (hp2 : Cs w p2 vs) (hf2 : F32s vs ys) (hnm : n ≤ m) :
 Calls Try.prog 138 #[.agg #[.int .i64 r,.int .i64 c,.slice p n cp],.agg #[.int .i64 r2,.int .i64 c2,.slice p2 m cp2]] w (jao w r c (mulX n xs ys)) := by
 obtain ⟨W0,hW0⟩ : ∃ W0,W0 = ((w.alloc (.cells #[.int .i64 r,.int .i64 c,.slice p n cp] 27)).alloc (.cells #[.int .i64 r2,.int .i64 c2,.slice p2 m cp2] 27)).alloc (.cells #[.int .i64 0,.int .i64 0,.slice none 0 0] 27) := ⟨_,rfl⟩;obtain ⟨E0,s0,b0,b1,b2⟩ := box3 hW0;have b0 : HB W0 w.heap.size #[.int .i64 r,.int .i64 c,.slice p n cp] 27 := b0;have b1 : HB W0 (w.heap.size + 1) #[.int .i64 r2,.int .i64 c2,.slice p2 m cp2] 27 := b1;have b2 : HB W0 (w.heap.size + 1 + 1) #[.int .i64 0,.int .i64 0,.slice none 0 0] 27 := b2
 have M : Hid (MapOk 160 #[.pointer (some ⟨w.heap.size + 1,0,none⟩)] xs (fun i => fop .mul .f32 (xs.getD i 0) (ys.getD i 0)) W0) := fun i b W hi hb hW => by
  have h := mulTensors1_any i b (w.heap.size + 1) r2 c2 p2 m m cp2 vs ys _ W (b1.ext hW) hy hm (hp2.ext (E0.trans hW)) hf2 (by omega) hb
  simpa using h
 have K := hid (mapped_any 160 #[.pointer (some ⟨w.heap.size + 1,0,none⟩)] (jcn Try.func160 rfl (by kernel_rfl)) r c p n cp us xs _ W0 hx hn (hp.ext E0) hf M.out);have k0 := b0.cell 0 rfl;have k1 := b0.cell 1 rfl;have k2 := b0.cell 2 rfl;have HX := hid hx;have HY := hid hy;clear hx hy b1;go_enter Try.func138,Try.ntmps138;go_wp2_with fail;rw [← hW0];clear hW0;refine K.out.mono ?_;rintro e w1 ⟨q,k,ws,rfl,own,hf3,e1⟩
 rw [jaf] at own ⊢;have d2 := b2.ext e1;have n0 := d2.cell 0 rfl;have n1 := d2.cell 1 rfl;have n2 := d2.cell 2 rfl;have m0 := d2.froz 0;have m1 := d2.froz 1;have m2 := d2.froz 2;clear k0 k1 k2;go_wp2;refine bodyPost_ret (v := .agg #[.int .i64 r,.int .i64 c,.slice q n k]) (by simp [results,Try.results138,go_sem,n0,n1,n2,m0,m1,m2]) rfl ?_;exact jao.of (jaf _ _) (jak (jag (S := fun k => k = w.heap.size + 1 + 1) own (by (repeat (first | (with_reducible first | exact Chg.refl _ _ | exact Chg.of_ext (by assumption) | assumption) | ((with_reducible refine Chg.setCell ?_ ?_ _);rotate_left;focus (first | (simp;done) | (simp;omega))) | (with_reducible first | refine Chg.alloc ?_ _ | refine Chg.drew ?_ | refine px3 ?_ (by assumption))))) (fun k hk => by omega)) (by omega)) hf3 rfl (Ext.chg (S := fun k => k = w.heap.size + 1 + 1) (E0.trans e1) (by (repeat (first | (with_reducible first | exact Chg.refl _ _ | exact Chg.of_ext (by assumption) | assumption) | ((with_reducible refine Chg.setCell ?_ ?_ _);rotate_left;focus (first | (simp;done) | (simp;omega))) | (with_reducible first | refine Chg.alloc ?_ _ | refine Chg.drew ?_ | refine px3 ?_ (by assumption))))) (fun k hk => by omega))
theorem addRow1_any (i b : Nat) (q : Nat) (p : Option Addr) (m cp : Nat) (us : List Value) (ys : List Nat) (x : Nat) (w : World) (hq : HB w q #[.slice p m cp] 25) (hy : ys.length = m) (hm : m ≤ 1048576) (hm1 : 1 ≤ m) (hp : Cs w p us) (hf : F32s us ys) (hi : i ≤ 1048576) (hb : cn .f32 b = x) :
 Calls Try.prog 159 #[.int .i64 i,.float .f32 b,.pointer (some ⟨q,0,none⟩)] w (RF .f32 w (fop .add .f32 x (ys.getD (i % m) 0))) := by
 have y0 := (hq.ext (Ext.drew w)).cell 0 rfl;have Y := hid hy;have Hb := hid hb;obtain ⟨f,hfe⟩ : ∃ f,f = i % m := ⟨_,rfl⟩;have hfm : f < m := by rw [hfe];exact Nat.mod_lt _ (by omega)
 have hmod : Int.tmod (i : Int) (m : Int) = (f : Int) := by rw [hfe];rfl
 have hz : ¬ ((m : Int) = 0) := by omega
 rw [← hfe];have k1 := hp.ext (Ext.drew w);clear hy hb hq hfe;go_enter Try.func159,Try.ntmps159;go_wp2_with fail;refine jae (F := fun _ _ _ => False) (by kernel_rfl) (by kernel_rfl) (by kernel_rfl) ?_;intro wf hwf
 repeat (first
  | ((first | (refine ja8 rfl ?_) | (refine x_mv rfl rfl rfl ?_) | (refine x_as rfl rfl rfl ?_) | (((with_reducible show wpX _ _ _ _ _ _ (Oper.mk _ (Op.binOp BinOp.rem _ _ _ _) _ _ _ _ :: _) _);refine x_pure (v := .int .i64 (f : Int)) rfl (fun w1 hw1 => ?_) ?_;focus (go_simp;omega))) | ((with_reducible show gx0);refine x_ldF rfl rfl (fun _ => rfl) rfl (fun _ => rfl) rfl rfl k1 hf Y.out (by omega) (by omega) ?_;intro r1 g1;have G1 := hid g1;clear g1) | ((with_reducible show gx1);refine x_fop rfl rfl rfl rfl rfl ?_;intro r3 g3;have G3 := hid g3;clear g3));simp only [Act.put,jab,pu1,pu2,pu3,pu4,pu5])
  | (refine jbw rfl fun K hK w1 hw1 => ?_;have k0 := hw1.cell (y0);go_simp;refine hK _ ?_;clear hK K k0 hw1 w1))
 refine jbu ?_;go_wp2;go_ret;have q1 := G1.out;simp only [Int.toNat_natCast] at q1;exact ⟨r3,rfl,by rw [G3.out,Hb.out,q1],(Ext.drew w).trans hwf⟩
theorem addRow_any (r c : Int) (p p2 : Option Addr) (n m cp cp2 : Nat) (us vs : List Value) (xs ys : List Nat) (w : World) (hx : xs.length = n) (hn : n ≤ 1048576) (hp : Cs w p us) (hf : F32s us xs) (hy : ys.length = m) (hm : m ≤ 1048576) (hm1 : 1 ≤ m) (hp2 : Cs w p2 vs) (hf2 : F32s vs ys) :
 Calls Try.prog 137 #[.agg #[.int .i64 r,.int .i64 c,.slice p n cp],.slice p2 m cp2] w (jao w r c (addRX n m xs ys)) := by
 obtain ⟨W0,hW0⟩ : ∃ W0,W0 = ((w.alloc (.cells #[.int .i64 r,.int .i64 c,.slice p n cp] 27)).alloc (.cells #[.slice p2 m cp2] 25)).alloc (.cells #[.int .i64 0,.int .i64 0,.slice none 0 0] 27) := ⟨_,rfl⟩;obtain ⟨E0,s0,b0,b1,b2⟩ := box3 hW0;have b0 : HB W0 w.heap.size #[.int .i64 r,.int .i64 c,.slice p n cp] 27 := b0;have b1 : HB W0 (w.heap.size + 1) #[.slice p2 m cp2] 25 := b1;have b2 : HB W0 (w.heap.size + 1 + 1) #[.int .i64 0,.int .i64 0,.slice none 0 0] 27 := b2
 have M : Hid (MapOk 159 #[.pointer (some ⟨w.heap.size + 1,0,none⟩)] xs (fun i => fop .add .f32 (xs.getD i 0) (ys.getD (i % m) 0)) W0) := fun i b W hi hb hW => by
  have h := addRow1_any i b (w.heap.size + 1) p2 m cp2 vs ys _ W (b1.ext hW) hy hm hm1 (hp2.ext (E0.trans hW)) hf2 (by omega) hb
  simpa using h
 have K := hid (mapped_any 159 #[.pointer (some ⟨w.heap.size + 1,0,none⟩)] (jcn Try.func159 rfl (by kernel_rfl)) r c p n cp us xs _ W0 hx hn (hp.ext E0) hf M.out);have k0 := b0.cell 0 rfl;have k1 := b0.cell 1 rfl;have k2 := b0.cell 2 rfl;have HX := hid hx;clear hx b1;go_enter Try.func137,Try.ntmps137;go_wp2_with fail;rw [← hW0];clear hW0;refine K.out.mono ?_;rintro e w1 ⟨q,k,ws,rfl,own,hf3,e1⟩
 rw [jaf] at own ⊢;have d2 := b2.ext e1;have n0 := d2.cell 0 rfl;have n1 := d2.cell 1 rfl;have n2 := d2.cell 2 rfl;have m0 := d2.froz 0;have m1 := d2.froz 1;have m2 := d2.froz 2;clear k0 k1 k2;go_wp2;refine bodyPost_ret (v := .agg #[.int .i64 r,.int .i64 c,.slice q n k]) (by simp [results,Try.results137,go_sem,n0,n1,n2,m0,m1,m2]) rfl ?_;exact jao.of (jaf _ _) (jak (jag (S := fun k => k = w.heap.size + 1 + 1) own (by (repeat (first | (with_reducible first | exact Chg.refl _ _ | exact Chg.of_ext (by assumption) | assumption) | ((with_reducible refine Chg.setCell ?_ ?_ _);rotate_left;focus (first | (simp;done) | (simp;omega))) | (with_reducible first | refine Chg.alloc ?_ _ | refine Chg.drew ?_ | refine px3 ?_ (by assumption))))) (fun k hk => by omega)) (by omega)) hf3 rfl (Ext.chg (S := fun k => k = w.heap.size + 1 + 1) (E0.trans e1) (by (repeat (first | (with_reducible first | exact Chg.refl _ _ | exact Chg.of_ext (by assumption) | assumption) | ((with_reducible refine Chg.setCell ?_ ?_ _);rotate_left;focus (first | (simp;done) | (simp;omega))) | (with_reducible first | refine Chg.alloc ?_ _ | refine Chg.drew ?_ | refine px3 ?_ (by assumption))))) (fun k hk => by omega))
theorem mulRow1_any (i b : Nat) (q : Nat) (p : Option Addr) (m cp : Nat) (us : List Value) (ys : List Nat) (x : Nat) (w : World) (hq : HB w q #[.slice p m cp] 25) (hy : ys.length = m) (hm : m ≤ 1048576) (hm1 : 1 ≤ m) (hp : Cs w p us) (hf : F32s us ys) (hi : i ≤ 1048576) (hb : cn .f32 b = x) :
 Calls Try.prog 161 #[.int .i64 i,.float .f32 b,.pointer (some ⟨q,0,none⟩)] w (RF .f32 w (fop .mul .f32 x (ys.getD (i % m) 0))) := by
 have y0 := (hq.ext (Ext.drew w)).cell 0 rfl;have Y := hid hy;have Hb := hid hb;obtain ⟨f,hfe⟩ : ∃ f,f = i % m := ⟨_,rfl⟩;have hfm : f < m := by rw [hfe];exact Nat.mod_lt _ (by omega)
 have hmod : Int.tmod (i : Int) (m : Int) = (f : Int) := by rw [hfe];rfl
 have hz : ¬ ((m : Int) = 0) := by omega
 rw [← hfe];have k1 := hp.ext (Ext.drew w);clear hy hb hq hfe;go_enter Try.func161,Try.ntmps161;go_wp2_with fail;refine jae (F := fun _ _ _ => False) (by kernel_rfl) (by kernel_rfl) (by kernel_rfl) ?_;intro wf hwf
 repeat (first
  | ((first | (refine ja8 rfl ?_) | (refine x_mv rfl rfl rfl ?_) | (refine x_as rfl rfl rfl ?_) | (((with_reducible show wpX _ _ _ _ _ _ (Oper.mk _ (Op.binOp BinOp.rem _ _ _ _) _ _ _ _ :: _) _);refine x_pure (v := .int .i64 (f : Int)) rfl (fun w1 hw1 => ?_) ?_;focus (go_simp;omega))) | ((with_reducible show gx0);refine x_ldF rfl rfl (fun _ => rfl) rfl (fun _ => rfl) rfl rfl k1 hf Y.out (by omega) (by omega) ?_;intro r1 g1;have G1 := hid g1;clear g1) | ((with_reducible show gx1);refine x_fop rfl rfl rfl rfl rfl ?_;intro r3 g3;have G3 := hid g3;clear g3));simp only [Act.put,jab,pu1,pu2,pu3,pu4,pu5])
  | (refine jbw rfl fun K hK w1 hw1 => ?_;have k0 := hw1.cell (y0);go_simp;refine hK _ ?_;clear hK K k0 hw1 w1))
 refine jbu ?_;go_wp2;go_ret;have q1 := G1.out;simp only [Int.toNat_natCast] at q1;exact ⟨r3,rfl,by rw [G3.out,Hb.out,q1],(Ext.drew w).trans hwf⟩
theorem mulRow_any (r c : Int) (p p2 : Option Addr) (n m cp cp2 : Nat) (us vs : List Value) (xs ys : List Nat) (w : World) (hx : xs.length = n) (hn : n ≤ 1048576) (hp : Cs w p us) (hf : F32s us xs) (hy : ys.length = m) (hm : m ≤ 1048576) (hm1 : 1 ≤ m) (hp2 : Cs w p2 vs) (hf2 : F32s vs ys) :
 Calls Try.prog 139 #[.agg #[.int .i64 r,.int .i64 c,.slice p n cp],.slice p2 m cp2] w (jao w r c (mulRX n m xs ys)) := by
 obtain ⟨W0,hW0⟩ : ∃ W0,W0 = ((w.alloc (.cells #[.int .i64 r,.int .i64 c,.slice p n cp] 27)).alloc (.cells #[.slice p2 m cp2] 25)).alloc (.cells #[.int .i64 0,.int .i64 0,.slice none 0 0] 27) := ⟨_,rfl⟩;obtain ⟨E0,s0,b0,b1,b2⟩ := box3 hW0;have b0 : HB W0 w.heap.size #[.int .i64 r,.int .i64 c,.slice p n cp] 27 := b0;have b1 : HB W0 (w.heap.size + 1) #[.slice p2 m cp2] 25 := b1;have b2 : HB W0 (w.heap.size + 1 + 1) #[.int .i64 0,.int .i64 0,.slice none 0 0] 27 := b2
 have M : Hid (MapOk 161 #[.pointer (some ⟨w.heap.size + 1,0,none⟩)] xs (fun i => fop .mul .f32 (xs.getD i 0) (ys.getD (i % m) 0)) W0) := fun i b W hi hb hW => by
  have h := mulRow1_any i b (w.heap.size + 1) p2 m cp2 vs ys _ W (b1.ext hW) hy hm hm1 (hp2.ext (E0.trans hW)) hf2 (by omega) hb
  simpa using h
 have K := hid (mapped_any 161 #[.pointer (some ⟨w.heap.size + 1,0,none⟩)] (jcn Try.func161 rfl (by kernel_rfl)) r c p n cp us xs _ W0 hx hn (hp.ext E0) hf M.out);have k0 := b0.cell 0 rfl;have k1 := b0.cell 1 rfl;have k2 := b0.cell 2 rfl;have HX := hid hx;clear hx b1;go_enter Try.func139,Try.ntmps139;go_wp2_with fail;rw [← hW0];clear hW0;refine K.out.mono ?_;rintro e w1 ⟨q,k,ws,rfl,own,hf3,e1⟩
 rw [jaf] at own ⊢;have d2 := b2.ext e1;have n0 := d2.cell 0 rfl;have n1 := d2.cell 1 rfl;have n2 := d2.cell 2 rfl;have m0 := d2.froz 0;have m1 := d2.froz 1;have m2 := d2.froz 2;clear k0 k1 k2;go_wp2;refine bodyPost_ret (v := .agg #[.int .i64 r,.int .i64 c,.slice q n k]) (by simp [results,Try.results139,go_sem,n0,n1,n2,m0,m1,m2]) rfl ?_;exact jao.of (jaf _ _) (jak (jag (S := fun k => k = w.heap.size + 1 + 1) own (by (repeat (first | (with_reducible first | exact Chg.refl _ _ | exact Chg.of_ext (by assumption) | assumption) | ((with_reducible refine Chg.setCell ?_ ?_ _);rotate_left;focus (first | (simp;done) | (simp;omega))) | (with_reducible first | refine Chg.alloc ?_ _ | refine Chg.drew ?_ | refine px3 ?_ (by assumption))))) (fun k hk => by omega)) (by omega)) hf3 rfl (Ext.chg (S := fun k => k = w.heap.size + 1 + 1) (E0.trans e1) (by (repeat (first | (with_reducible first | exact Chg.refl _ _ | exact Chg.of_ext (by assumption) | assumption) | ((with_reducible refine Chg.setCell ?_ ?_ _);rotate_left;focus (first | (simp;done) | (simp;omega))) | (with_reducible first | refine Chg.alloc ?_ _ | refine Chg.drew ?_ | refine px3 ?_ (by assumption))))) (fun k hk => by omega))
theorem scaleTensor1_any (i b : Nat) (q z : Nat) (x : Nat) (w : World) (hq : HB w q #[.float .f32 z] 33) (hb : cn .f32 b = x) :
 Calls Try.prog 162 #[.int .i64 i,.float .f32 b,.pointer (some ⟨q,0,none⟩)] w (RF .f32 w (fop .mul .f32 x (cn .f32 z))) := by
 have y0 := hq.cell 0 rfl;have Hb := hid hb;clear hb hq;go_enter Try.func162,Try.ntmps162;go_wp2_with ((with_reducible show gx3);refine jcm rfl rfl rfl rfl rfl ?_;intro r3 w3 e3 g3;have G3 := hid g3;clear g3);go_ret;exact ⟨r3,rfl,by rw [G3.out,Hb.out],e3⟩
theorem scaleTensor_any (r c : Int) (p : Option Addr) (n cp z : Nat) (us : List Value) (xs : List Nat) (w : World) (hx : xs.length = n) (hn : n ≤ 1048576) (hp : Cs w p us) (hf : F32s us xs) :
 Calls Try.prog 140 #[.agg #[.int .i64 r,.int .i64 c,.slice p n cp],.float .f32 z] w (jao w r c (sclX n xs (cn .f32 z))) := by
 obtain ⟨W0,hW0⟩ : ∃ W0,W0 = ((w.alloc (.cells #[.int .i64 r,.int .i64 c,.slice p n cp] 27)).alloc (.cells #[.float .f32 z] 33)).alloc (.cells #[.int .i64 0,.int .i64 0,.slice none 0 0] 27) := ⟨_,rfl⟩;obtain ⟨E0,s0,b0,b1,b2⟩ := box3 hW0;have b0 : HB W0 w.heap.size #[.int .i64 r,.int .i64 c,.slice p n cp] 27 := b0;have b1 : HB W0 (w.heap.size + 1) #[.float .f32 z] 33 := b1;have b2 : HB W0 (w.heap.size + 1 + 1) #[.int .i64 0,.int .i64 0,.slice none 0 0] 27 := b2
 have M : Hid (MapOk 162 #[.pointer (some ⟨w.heap.size + 1,0,none⟩)] xs (fun i => fop .mul .f32 (xs.getD i 0) (cn .f32 z)) W0) := fun i b W hi hb hW => by
  have h := scaleTensor1_any i b (w.heap.size + 1) z _ W (b1.ext hW) hb
  simpa using h
 have K := hid (mapped_any 162 #[.pointer (some ⟨w.heap.size + 1,0,none⟩)] (jcn Try.func162 rfl (by kernel_rfl)) r c p n cp us xs _ W0 hx hn (hp.ext E0) hf M.out);have k0 := b0.cell 0 rfl;have k1 := b0.cell 1 rfl;have k2 := b0.cell 2 rfl;have HX := hid hx;clear hx b1;go_enter Try.func140,Try.ntmps140;go_wp2_with fail;rw [← hW0];clear hW0;refine K.out.mono ?_;rintro e w1 ⟨q,k,ws,rfl,own,hf3,e1⟩
 rw [jaf] at own ⊢;have d2 := b2.ext e1;have n0 := d2.cell 0 rfl;have n1 := d2.cell 1 rfl;have n2 := d2.cell 2 rfl;have m0 := d2.froz 0;have m1 := d2.froz 1;have m2 := d2.froz 2;clear k0 k1 k2;go_wp2;refine bodyPost_ret (v := .agg #[.int .i64 r,.int .i64 c,.slice q n k]) (by simp [results,Try.results140,go_sem,n0,n1,n2,m0,m1,m2]) rfl ?_;exact jao.of (jaf _ _) (jak (jag (S := fun k => k = w.heap.size + 1 + 1) own (by (repeat (first | (with_reducible first | exact Chg.refl _ _ | exact Chg.of_ext (by assumption) | assumption) | ((with_reducible refine Chg.setCell ?_ ?_ _);rotate_left;focus (first | (simp;done) | (simp;omega))) | (with_reducible first | refine Chg.alloc ?_ _ | refine Chg.drew ?_ | refine px3 ?_ (by assumption))))) (fun k hk => by omega)) (by omega)) hf3 rfl (Ext.chg (S := fun k => k = w.heap.size + 1 + 1) (E0.trans e1) (by (repeat (first | (with_reducible first | exact Chg.refl _ _ | exact Chg.of_ext (by assumption) | assumption) | ((with_reducible refine Chg.setCell ?_ ?_ _);rotate_left;focus (first | (simp;done) | (simp;omega))) | (with_reducible first | refine Chg.alloc ?_ _ | refine Chg.drew ?_ | refine px3 ?_ (by assumption))))) (fun k hk => by omega))
theorem reluTensor1_any (i b : Nat) (x : Nat) (w : World) (hb : cn .f32 b = x) :
 Calls Try.prog 164 #[.int .i64 i,.float .f32 b] w (RF .f32 w (reluF x)) := by
 subst hb;go_enter Try.func164,Try.ntmps164;go_wp2_with fail;refine (relu_any b w).mono ?_;rintro e w1 ⟨r,rfl,hr,e1⟩
 have Hr := hid hr;clear hr;go_wp2;go_ret;exact ⟨r,rfl,Hr.out,e1⟩
theorem reluTensor_any (r c : Int) (p : Option Addr) (n cp : Nat) (us : List Value) (xs : List Nat) (w : World) (hx : xs.length = n) (hn : n ≤ 1048576) (hp : Cs w p us) (hf : F32s us xs) :
 Calls Try.prog 143 #[.agg #[.int .i64 r,.int .i64 c,.slice p n cp]] w (jao w r c (rluX n xs)) := by
 obtain ⟨W0,hW0⟩ : ∃ W0,W0 = (w.alloc (.cells #[.int .i64 r,.int .i64 c,.slice p n cp] 27)).alloc (.cells #[.int .i64 0,.int .i64 0,.slice none 0 0] 27) := ⟨_,rfl⟩;obtain ⟨E0,s0,b0,b2⟩ := box2 hW0;have b0 : HB W0 w.heap.size #[.int .i64 r,.int .i64 c,.slice p n cp] 27 := b0;have b2 : HB W0 (w.heap.size + 1) #[.int .i64 0,.int .i64 0,.slice none 0 0] 27 := b2
 have M : Hid (MapOk 164 #[] xs (fun i => reluF (xs.getD i 0)) W0) := fun i b W hi hb hW => by
  have h := reluTensor1_any i b _ W hb
  simpa using h
 have K := hid (mapped_any 164 #[] (jcn Try.func164 rfl (by kernel_rfl)) r c p n cp us xs _ W0 hx hn (hp.ext E0) hf M.out);have k0 := b0.cell 0 rfl;have k1 := b0.cell 1 rfl;have k2 := b0.cell 2 rfl;have HX := hid hx;clear hx;go_enter Try.func143,Try.ntmps143;go_wp2_with fail;rw [← hW0];clear hW0;refine K.out.mono ?_;rintro e w1 ⟨q,k,ws,rfl,own,hf3,e1⟩
 rw [jaf] at own ⊢;have d2 := b2.ext e1;have n0 := d2.cell 0 rfl;have n1 := d2.cell 1 rfl;have n2 := d2.cell 2 rfl;have m0 := d2.froz 0;have m1 := d2.froz 1;have m2 := d2.froz 2;clear k0 k1 k2;go_wp2;refine bodyPost_ret (v := .agg #[.int .i64 r,.int .i64 c,.slice q n k]) (by simp [results,Try.results143,go_sem,n0,n1,n2,m0,m1,m2]) rfl ?_;exact jao.of (jaf _ _) (jak (jag (S := fun k => k = w.heap.size + 1) own (by (repeat (first | (with_reducible first | exact Chg.refl _ _ | exact Chg.of_ext (by assumption) | assumption) | ((with_reducible refine Chg.setCell ?_ ?_ _);rotate_left;focus (first | (simp;done) | (simp;omega))) | (with_reducible first | refine Chg.alloc ?_ _ | refine Chg.drew ?_ | refine px3 ?_ (by assumption))))) (fun k hk => by omega)) (by omega)) hf3 rfl (Ext.chg (S := fun k => k = w.heap.size + 1) (E0.trans e1) (by (repeat (first | (with_reducible first | exact Chg.refl _ _ | exact Chg.of_ext (by assumption) | assumption) | ((with_reducible refine Chg.setCell ?_ ?_ _);rotate_left;focus (first | (simp;done) | (simp;omega))) | (with_reducible first | refine Chg.alloc ?_ _ | refine Chg.drew ?_ | refine px3 ?_ (by assumption))))) (fun k hk => by omega))
end Go.Proofs.Ytmbckkcgiafagaa
