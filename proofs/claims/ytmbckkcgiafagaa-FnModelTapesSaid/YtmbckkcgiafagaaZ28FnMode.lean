/- A part of the proofs: TnV, TnW. -/
import Derived.Test.YtmbckkcgiafagaaTnUFnMo
import Derived.Test.YtmbckkcgiafagaaZ25FnMode
set_option linter.unusedSimpArgs false
set_option linter.unusedVariables false
set_option maxRecDepth 100000
set_option maxHeartbeats 16000000
namespace Go.Proofs.Ytmbckkcgiafagaa
open Go.RowKit
structure MtOk (R I O c : Nat) (sh : Nat → Nat × Nat) (s : Mt) : Prop where
 tape : jbz sh s.1
 x0 : sh 0 = (R,I)
 x1 : sh 1 = (R,O)
 cur : sh s.2.2 = (R,c)
 lt : s.2.2 < s.1.length
 two : 2 ≤ s.1.length
 wts : ∀ z ∈ s.2.1,0 ≤ z ∧ z < (s.1.length : Int)
theorem MtOk.start {R I O : Nat} {xs ys : List Nat} (hx : xs.length = R * I) (hy : ys.length = R * O) (hI : jam (R,I)) (hO : jam (R,O)) : ∃ sh,MtOk R I O I sh ([mkOp 0 0 0 0 (tn R I xs),mkOp 0 0 0 0 (tn R O ys)],[],0) := by
 refine ⟨fun j => if j = 0 then (R,I) else (R,O),⟨fun i hi => ?_,fun i hi => ?_,by simp⟩,rfl,rfl,rfl,by simp,by simp,by simp⟩
 · rcases (show i = 0 ∨ i = 1 by simp at hi;omega) with rfl | rfl
   · exact .inp R I xs hx rfl
   · exact .inp R O ys hy rfl
 · show 1 ≤ (if i = 0 then (R,I) else (R,O)).1 ∧ _
   split
   · exact hI
   · exact hO
theorem jbx {sh : Nat → Nat × Nat} {ops : List shOp.T} {n : Nat} {o : shOp.T} {s : Nat × Nat} (h : jbz sh ops) (hn : ops.length = n) (hl : n + 1 ≤ 48) (hs : jam s) (ho : ∀ sh',(∀ j,j < n → sh' j = sh j) → sh' n = s → OpOk sh' n o) :
 ∃ sh',jbz sh' (ops ++ [o]) ∧ (∀ j,j < n → sh' j = sh j) ∧ sh' n = s ∧ (ops ++ [o]).length = n + 1 :=
 ⟨shUp sh n s,h.snoc hn (ho _ (fun _ hj => shUp_lt _ _ hj) (shUp_at _ _ _)) hs hl,fun _ hj => shUp_lt _ _ hj,shUp_at _ _ _,by simp [hn]⟩
theorem MtOk.dense {R I O c o : Nat} {sh : Nat → Nat × Nat} {s : Mt} (h : MtOk R I O c sh s) (hl : s.1.length + 5 ≤ 48) {W Bs : List Nat} (hW : W.length = o * c) (hB : Bs.length = o) (hR : 1 ≤ R ∧ R ≤ 16) (hc : 1 ≤ c ∧ c ≤ 16) (ho : 1 ≤ o ∧ o ≤ 16) :
 ∃ sh',MtOk R I O o sh' (ja6 (0,(c : Int),(o : Int),W,Bs,()) s) := by
 obtain ⟨ops,ws,j⟩ := s;obtain ⟨t,x0,x1,cur,lt,two,wts⟩ := h;dsimp only at t x0 x1 cur lt two wts hl;obtain ⟨n,hn⟩ : ∃ n,ops.length = n := ⟨_,rfl⟩;rw [hn] at lt two wts hl;obtain ⟨s1,t1,k1,a1,l1⟩ := jbx (o := mkOp 0 0 0 0 (tn o c W)) t hn (by omega) (show jam (o,c) from ⟨ho.1,ho.2,hc.1,hc.2⟩) (fun _ _ h2 => .inp o c W hW h2);obtain ⟨s2,t2,k2,a2,l2⟩ := jbx (o := mkOp 0 0 0 0 (tn 1 o Bs)) t1 l1 (by omega) (show jam (1,o) from ⟨Nat.le_refl 1,(by omega : (1:Nat) ≤ 16),ho.1,ho.2⟩) (fun _ _ h2 => .inp 1 o Bs (by rw [hB,Nat.one_mul]) h2);obtain ⟨s3,t3,k3,a3,l3⟩ := jbx (o := mkOp 7 n 0 0 t0) t2 l2 (by omega) (show jam (c,o) from ⟨hc.1,hc.2,ho.1,ho.2⟩) (fun s' h1 h2 => .turn n (by omega) (by rw [h2,h1 n (by omega),k2 n (by omega),a1]));obtain ⟨s4,t4,k4,a4,l4⟩ := jbx (o := mkOp 6 j (n + 2) 0 t0) t3 l3 (by omega) (show jam (R,o) from ⟨hR.1,hR.2,ho.1,ho.2⟩) (fun s' h1 h2 => .mm j (n + 2) (by omega) (by omega) (by rw [h1 (n + 2) (by omega),a3,h1 j (by omega),k3 j (by omega),k2 j (by omega),k1 j (by omega),cur]) (by rw [h2,h1 (n + 2) (by omega),a3,h1 j (by omega),k3 j (by omega),k2 j (by omega),k1 j (by omega),cur]));obtain ⟨s5,t5,k5,a5,l5⟩ := jbx (o := mkOp 2 (n + 3) (n + 1) 0 t0) t4 l4 (by omega) (show jam (R,o) from ⟨hR.1,hR.2,ho.1,ho.2⟩) (fun s' h1 h2 => .addR (n + 3) (n + 1) (by omega) (by omega) (by rw [h1 (n + 1) (by omega),k4 (n + 1) (by omega),k3 (n + 1) (by omega),a2,h1 (n + 3) (by omega),a4]) (by rw [h2,h1 (n + 3) (by omega),a4]));have hall : ∀ j,j < n → s5 j = sh j := fun j hj => by rw [k5 j (by omega),k4 j (by omega),k3 j (by omega),k2 j (by omega),k1 j (by omega)]
 have hst : ja6 (0,(c : Int),(o : Int),W,Bs,()) (ops,ws,j) = (ops ++ [mkOp 0 0 0 0 (tn o c W)] ++ [mkOp 0 0 0 0 (tn 1 o Bs)] ++ [mkOp 7 n 0 0 t0] ++ [mkOp 6 j (n + 2) 0 t0] ++ [mkOp 2 (n + 3) (n + 1) 0 t0],ws ++ [(n : Int),((n + 1 : Nat) : Int)],n + 4) := by
  subst hn;simp [ja6,tn]
 rw [hst];refine ⟨s5,t5,by rw [hall 0 (by omega)];exact x0,by rw [hall 1 (by omega)];exact x1,a5,by show n + 4 < _;rw [l5];omega,by rw [l5];omega,fun z hz => ?_⟩;dsimp only;rw [l5];dsimp only at hz;rw [List.mem_append] at hz;rcases hz with hz | hz
 · have := wts z hz;omega
 · simp at hz;omega
theorem MtOk.relu {R I O c : Nat} {sh : Nat → Nat × Nat} {s : Mt} (h : MtOk R I O c sh s) (hl : s.1.length + 5 ≤ 48) {W Bs : List Nat} (hR : 1 ≤ R ∧ R ≤ 16) (hc : 1 ≤ c ∧ c ≤ 16) (i o : Int) :
 ∃ sh',MtOk R I O c sh' (ja6 (1,i,o,W,Bs,()) s) := by
 obtain ⟨ops,ws,j⟩ := s;obtain ⟨t,x0,x1,cur,lt,two,wts⟩ := h;dsimp only at t x0 x1 cur lt two wts hl;obtain ⟨n,hn⟩ : ∃ n,ops.length = n := ⟨_,rfl⟩;rw [hn] at lt two wts hl;obtain ⟨s1,t1,k1,a1,l1⟩ := jbx (o := mkOp 8 j 0 0 t0) t hn (by omega) (show jam (R,c) from ⟨hR.1,hR.2,hc.1,hc.2⟩) (fun s' h1 h2 => .relu j lt (by rw [h2,h1 j lt,cur]))
 have hst : ja6 (1,i,o,W,Bs,()) (ops,ws,j) = (ops ++ [mkOp 8 j 0 0 t0],ws,n) := by
  subst hn;simp [ja6]
 rw [hst];refine ⟨s1,t1,by rw [k1 0 (by omega)];exact x0,by rw [k1 1 (by omega)];exact x1,a1,by show n < _;rw [l1];omega,by rw [l1];omega,fun z hz => ?_⟩;dsimp only;rw [l1];have := wts z hz;omega
theorem MtOk.scale {R I O c : Nat} {sh : Nat → Nat × Nat} {s : Mt} (h : MtOk R I O c sh s) (hl : s.1.length + 5 ≤ 48) {W Bs : List Nat} (hW : W.length = c) (hR : 1 ≤ R ∧ R ≤ 16) (hc : 1 ≤ c ∧ c ≤ 16) (o : Int) :
 ∃ sh',MtOk R I O c sh' (ja6 (2,(c : Int),o,W,Bs,()) s) := by
 obtain ⟨ops,ws,j⟩ := s;obtain ⟨t,x0,x1,cur,lt,two,wts⟩ := h;dsimp only at t x0 x1 cur lt two wts hl;obtain ⟨n,hn⟩ : ∃ n,ops.length = n := ⟨_,rfl⟩;rw [hn] at lt two wts hl;obtain ⟨s1,t1,k1,a1,l1⟩ := jbx (o := mkOp 0 0 0 0 (tn 1 c W)) t hn (by omega) (show jam (1,c) from ⟨Nat.le_refl 1,(by omega : (1:Nat) ≤ 16),hc.1,hc.2⟩) (fun _ _ h2 => .inp 1 c W (by rw [hW,Nat.one_mul]) h2);obtain ⟨s2,t2,k2,a2,l2⟩ := jbx (o := mkOp 4 j n 0 t0) t1 l1 (by omega) (show jam (R,c) from ⟨hR.1,hR.2,hc.1,hc.2⟩) (fun s' h1 h2 => .mulR j n (by omega) (by omega) (by rw [h1 n (by omega),a1,h1 j (by omega),k1 j lt,cur]) (by rw [h2,h1 j (by omega),k1 j lt,cur]))
 have hst : ja6 (2,(c : Int),o,W,Bs,()) (ops,ws,j) = (ops ++ [mkOp 0 0 0 0 (tn 1 c W)] ++ [mkOp 4 j n 0 t0],ws ++ [(n : Int)],n + 1) := by
  subst hn;simp [ja6,tn]
 rw [hst];refine ⟨s2,t2,by rw [k2 0 (by omega),k1 0 (by omega)];exact x0,by rw [k2 1 (by omega),k1 1 (by omega)];exact x1,a2,by show n + 1 < _;rw [l2];omega,by rw [l2];omega,fun z hz => ?_⟩;dsimp only;rw [l2];dsimp only at hz;rw [List.mem_append] at hz;rcases hz with hz | hz
 · have := wts z hz;omega
 · simp at hz;omega
theorem MtOk.fin {R I O : Nat} {sh : Nat → Nat × Nat} {s : Mt} (h : MtOk R I O O sh s) (hl : s.1.length + 5 ≤ 48) (hR : 1 ≤ R ∧ R ≤ 16) (hO : 1 ≤ O ∧ O ≤ 16) (z : Nat) : ∃ sh',jbz sh' (mtEnd s z) ∧ (mtEnd s z).length = s.1.length + 5 := by
 obtain ⟨ops,ws,j⟩ := s;obtain ⟨t,x0,x1,cur,lt,two,wts⟩ := h;dsimp only at t x0 x1 cur lt two wts hl;obtain ⟨n,hn⟩ : ∃ n,ops.length = n := ⟨_,rfl⟩;rw [hn] at lt two wts hl;have sO : jam (R,O) := ⟨hR.1,hR.2,hO.1,hO.2⟩;have s11 : jam (1,1) := by unfold jam;decide
 obtain ⟨s1,t1,k1,a1,l1⟩ := jbx (o := mkOp 5 1 0 negOne t0) t hn (by omega) sO (fun s' h1 h2 => .scl 1 negOne (by omega) (by rw [h2,h1 1 (by omega),x1]));obtain ⟨s2,t2,k2,a2,l2⟩ := jbx (o := mkOp 1 j n 0 t0) t1 l1 (by omega) sO (fun s' h1 h2 => .add j n (by omega) (by omega) (by rw [h1 n (by omega),a1,h1 j (by omega),k1 j lt,cur]) (by rw [h2,h1 j (by omega),k1 j lt,cur]));obtain ⟨s3,t3,k3,a3,l3⟩ := jbx (o := mkOp 9 (n + 1) 0 0 t0) t2 l2 (by omega) sO (fun s' h1 h2 => .sqr (n + 1) (by omega) (by rw [h2,h1 (n + 1) (by omega),a2]));obtain ⟨s4,t4,k4,a4,l4⟩ := jbx (o := mkOp 10 (n + 2) 0 0 t0) t3 l3 (by omega) s11 (fun s' h1 h2 => .sum (n + 2) (by omega) h2);obtain ⟨s5,t5,k5,a5,l5⟩ := jbx (o := mkOp 5 (n + 3) 0 z t0) t4 l4 (by omega) s11 (fun s' h1 h2 => .scl (n + 3) z (by omega) (by rw [h2,h1 (n + 3) (by omega),a4]))
 have hst : mtEnd (ops,ws,j) z = ops ++ [mkOp 5 1 0 negOne t0] ++ [mkOp 1 j n 0 t0] ++ [mkOp 9 (n + 1) 0 0 t0] ++ [mkOp 10 (n + 2) 0 0 t0] ++ [mkOp 5 (n + 3) 0 z t0] := by
  subst hn;simp [mtEnd]
 rw [hst];exact ⟨s5,t5,by rw [l5,hn]⟩
def colL (L : List jac.T) (i : Nat) : Nat := if i < L.length then (inL L i).toNat else (outL L).toNat
theorem colL_succ {L : List jac.T} (h : ModOk L) {i : Nat} (hi : i < L.length) : colL L (i + 1) = (L[i].2.2.1 : Int).toNat := by
 unfold colL
 by_cases h1 : i + 1 < L.length
 · rw [if_pos h1]
   unfold inL;rw [List.getElem?_eq_getElem h1];simp only [Option.map_some,Option.getD_some];rw [h.link i h1]
 · rw [if_neg h1]
   unfold outL;rw [show L.length - 1 = i by omega,List.getElem?_eq_getElem hi];rfl
theorem colL_at {L : List jac.T} {i : Nat} (hi : i < L.length) : colL L i = (L[i].2.1 : Int).toNat := by
 unfold colL;rw [if_pos hi];unfold inL;rw [List.getElem?_eq_getElem hi];rfl
theorem mtTo_ok {L : List jac.T} (h : ModOk L) (ht : tapeB L = true) {R : Nat} {xs ys : List Nat} (hR : 1 ≤ R ∧ R ≤ 16) (hx : xs.length = R * colL L 0) (hy : ys.length = R * colL L L.length) :
 ∀ i,i ≤ L.length → ∃ sh,MtOk R (colL L 0) (colL L L.length) (colL L i) sh (mtTo L (tn R (colL L 0) xs) (tn R (colL L L.length) ys) i)
 | 0,_ => by
   have hp := h.pos;have h0 := layD_int (h.lay 0 (by omega));have hl := layD_int (h.lay (L.length - 1) (by omega));have e1 := colL_at (L := L) (i := 0) (by omega);have e2 := colL_succ h (i := L.length - 1) (by omega);rw [show L.length - 1 + 1 = L.length by omega] at e2;exact MtOk.start hx hy (by unfold jam;dsimp only;omega) (by unfold jam;dsimp only;omega)
 | i + 1,hi => by
   obtain ⟨sh,ih⟩ := mtTo_ok h ht hR hx hy i (by omega);have hil : i < L.length := by omega
   have hf := h.few;have hlen := (mtTo_len L (tn R (colL L 0) xs) (tn R (colL L L.length) ys) i).2.1;have hlay := h.lay i hil;have hd := layD_int hlay;have e1 := colL_at hil;have e2 := colL_succ h hil;have hk : (L[i].1 : Int) = 0 ∨ (L[i].1 : Int) = 1 ∨ (L[i].1 : Int) = 2 := by simpa using List.all_eq_true.1 ht L[i] (List.getElem_mem _)
   have hm : mtTo L (tn R (colL L 0) xs) (tn R (colL L L.length) ys) (i + 1) = ja6 L[i] (mtTo L (tn R (colL L 0) xs) (tn R (colL L L.length) ys) i) := by simp [mtTo,List.getD_eq_getElem?_getD,hil]
   rw [hm];generalize mtTo L (tn R (colL L 0) xs) (tn R (colL L L.length) ys) i = s at *;generalize L[i] = d at *;obtain ⟨k,a,b,W,Bs,u⟩ := d;dsimp only at hd e1 e2 hk;obtain ⟨g1,g2,g3,g4,g5,g6⟩ := hd;rw [← e1] at g1 g3 g4;rw [← e2] at g2 g5 g6;have hc : 1 ≤ colL L i ∧ colL L i ≤ 16 := by omega
   have ho : 1 ≤ colL L (i + 1) ∧ colL L (i + 1) ≤ 16 := by omega
   generalize colL L i = c at *;generalize colL L (i + 1) = o at *;clear e1 e2;unfold layD layB at hlay;simp only [Bool.and_eq_true,Bool.or_eq_true,decide_eq_true_eq] at hlay;obtain ⟨_,_,_,l4,l5,l6⟩ := hlay;subst g1;subst g2;rcases hk with hk | hk | hk
   · subst hk
     simp only [wCnt,bCnt,if_pos] at l5 l6
     exact ih.dense (by omega) (by have : ((W.length : Nat) : Int) = ((o * c : Nat) : Int) := by rw [l5];push_cast;exact Int.mul_comm _ _
                                   exact Int.ofNat.inj this) (by exact Int.ofNat.inj l6) hR hc ho
   · subst hk
     obtain l4 : (c : Int) = o := by rcases l4 with h | h;exact absurd h (by decide);exact h
     obtain rfl : c = o := Int.ofNat.inj l4;exact ih.relu (by omega) hR hc _ _
   · subst hk
     obtain l4 : (c : Int) = o := by rcases l4 with h | h;exact absurd h (by decide);exact h
     obtain rfl : c = o := Int.ofNat.inj l4
     exact ih.scale (by omega) (by have : ((W.length : Nat) : Int) = c := by rw [l5];rfl
                                   exact Int.ofNat.inj this) hR hc _
theorem mtape_ok {L : List jac.T} (h : ModOk L) (ht : tapeB L = true) {R : Nat} {xs ys : List Nat} (hR : 1 ≤ R ∧ R ≤ 16) (hx : xs.length = R * colL L 0) (hy : ys.length = R * colL L L.length) (z : Nat) :
 ∃ sh,jbz sh (mtape L (tn R (colL L 0) xs) (tn R (colL L L.length) ys) z) ∧ 1 ≤ (mtape L (tn R (colL L 0) xs) (tn R (colL L L.length) ys) z).length ∧ (jcf L (tn R (colL L 0) xs) (tn R (colL L L.length) ys)).length ≤ 48 ∧ ∀ y ∈ jcf L (tn R (colL L 0) xs) (tn R (colL L L.length) ys),0 ≤ y ∧ y < ((mtape L (tn R (colL L 0) xs) (tn R (colL L L.length) ys) z).length : Int) := by
 obtain ⟨sh,hm⟩ := mtTo_ok h ht hR hx hy L.length (Nat.le_refl _);have hf := h.few;have hlen := (mtTo_len L (tn R (colL L 0) xs) (tn R (colL L L.length) ys) L.length).2.1;have hwl := mtTo_wlen L (tn R (colL L 0) xs) (tn R (colL L L.length) ys) L.length;have hp := h.pos;have hl := layD_int (h.lay (L.length - 1) (by omega));have e2 := colL_succ h (i := L.length - 1) (by omega);rw [show L.length - 1 + 1 = L.length by omega] at e2;obtain ⟨sh',h1,h2⟩ := hm.fin (by omega) hR (by omega) z;refine ⟨sh',h1,?_,?_,fun y hy => ?_⟩
 · unfold mtape;omega
 · unfold jcf;omega
 · have := hm.wts y hy
   unfold mtape;omega
def jb6 (L : List jac.T) (r k : Int) (xs : List Nat) (r2 k2 : Int) (ys : List Nat) : List shOp.T := mtape L (r,k,xs,()) (r2,k2,ys,()) (fop .quo .f32 jcl (cn .f32 (floatOfInt .f32 ((ys.length : Nat) : Int))))
def wtsOf (L : List jac.T) (r k : Int) (xs : List Nat) (r2 k2 : Int) (ys : List Nat) : List Int := jcf L (r,k,xs,()) (r2,k2,ys,())
def gradB (L : List jac.T) (r k : Int) (nx : Nat) (r2 k2 : Int) (ny : Nat) : Bool := headB L r k nx r2 k2 ny && tapeB L
theorem tapeOf_ok {L : List jac.T} {r k r2 k2 : Int} {xs ys : List Nat} (h : gradB L r k xs.length r2 k2 ys.length = true) : ∃ sh,jbz sh (jb6 L r k xs r2 k2 ys) ∧ 1 ≤ (jb6 L r k xs r2 k2 ys).length ∧ (wtsOf L r k xs r2 k2 ys).length ≤ 48 ∧ ∀ y ∈ wtsOf L r k xs r2 k2 ys,0 ≤ y ∧ y < ((jb6 L r k xs r2 k2 ys).length : Int) := by
 unfold gradB headB tenB at h;simp only [Bool.and_eq_true,decide_eq_true_eq,jar] at h;obtain ⟨⟨h1,⟨⟨h2,h3⟩,h4⟩,⟨⟨h5,h6⟩,h7⟩,h8,h9,h10⟩,h11⟩ := h;have hm := modOk h1;have hp := hm.pos
 have c0 : ((colL L 0 : Nat) : Int) = k := by
  unfold colL;rw [if_pos (by omega),← h9];omega
 have c1 : ((colL L L.length : Nat) : Int) = k2 := by
  unfold colL;rw [if_neg (by omega),← h10];omega
 obtain ⟨R,rfl⟩ : ∃ R : Nat,r = (R : Int) := ⟨r.toNat,by omega⟩;subst h8
 have hx : xs.length = R * colL L 0 := by
  rw [← c0] at h4;exact_mod_cast h4
 have hy : ys.length = R * colL L L.length := by
  rw [← c1] at h7;exact_mod_cast h7
 have := mtape_ok hm h11 (R := R) (xs := xs) (ys := ys) (by omega) hx hy (fop .quo .f32 jcl (cn .f32 (floatOfInt .f32 ((ys.length : Nat) : Int))));unfold tn at this;rw [c0,c1] at this;exact this
theorem GrowOwn.ops {w : World} {B n c : Nat} {q : Option Addr} {ops : List shOp.T} {css : List (List Value)} {bss : List (List Nat)} (h : GrowOwn w B 98 shOp (.slice q n c) ops css bss) (hn : ops.length = n) : Ops w q n css ops := by
 subst hn;refine ⟨jbt h.row,?_,h.els.1⟩;have k1 := h.els.1;have k2 := h.els.2.1;refine All2.of_get k1 fun i cs d hc hd => ?_
 have hi : i < css.length := (List.getElem?_eq_some_iff.1 hc).1;exact (h.els.2.2 i cs (bss[i]'(by omega)) d hc (by simp) hd).rep
def TapeRet (L : List jac.T) (r k : Int) (xs : List Nat) (r2 k2 : Int) (ys : List Nat) (e : Ending) (w' : World) : Prop :=
 (gradB L r k xs.length r2 k2 ys.length = false ∧ e = .returned (.tuple #[.slice none 0 0,.slice none 0 0,.bool false])) ∨
 (gradB L r k xs.length r2 k2 ys.length = true ∧ ∃ (q qw : Option Addr) (c cw : Nat) (css : List (List Value)),e = .returned (.tuple #[.slice q (jb6 L r k xs r2 k2 ys).length c,.slice qw (wtsOf L r k xs r2 k2 ys).length cw,.bool true]) ∧ Ops w' q (jb6 L r k xs r2 k2 ys).length css (jb6 L r k xs r2 k2 ys) ∧ Cs w' qw ((wtsOf L r k xs r2 k2 ys).map (Value.int .i64)))
theorem modelTape_any (p q q2 : Option Addr) (n c nx cx ny cy : Nat) (r k r2 k2 : Int) (css : List (List Value)) (L : List jac.T) (xs ys : List Nat) (us vs : List Value) (w : World) (hL : Lays w p n css L) (hxl : xs.length = nx) (hyl : ys.length = ny) (hnx : nx ≤ maxLen) (hny : ny ≤ maxLen) (hcx : nx ≤ cx) (hcy : ny ≤ cy) (hqx : Cs w q us) (hfx : F32s us xs) (hqy : Cs w q2 vs) (hfy : F32s vs ys) :
 Calls Try.prog 58 #[.agg #[.slice p n c],.agg #[.int .i64 r,.int .i64 k,.slice q nx cx],.agg #[.int .i64 r2,.int .i64 k2,.slice q2 ny cy]] w fun e w' => TapeRet L r k xs r2 k2 ys e w' ∧ Ext w w' := by
 cases hh : headB L r k nx r2 k2 ny with
 | false =>
   refine (modelTape_no p q q2 n c nx cx ny cy r k r2 k2 css L w hL hnx hny hh).mono ?_;rintro e w' ⟨rfl,h2⟩
   exact ⟨Or.inl ⟨by unfold gradB;rw [hxl,hyl,hh];rfl,rfl⟩,h2⟩
 | true =>
   have hb := hh;unfold headB tenB at hb;simp only [Bool.and_eq_true,decide_eq_true_eq,jar] at hb;obtain ⟨_,⟨⟨a1,a2⟩,a3⟩,⟨⟨a4,a5⟩,a6⟩,_⟩ := hb
   have key : ∀ (x y : Int) (m : Nat),1 ≤ x ∧ x ≤ 16 → 1 ≤ y ∧ y ≤ 16 → (m : Int) = x * y → m ≤ 1048576 := by
    intro x y m hx hy hm;have := Int.mul_le_mul hx.2 hy.2 (by omega) (by decide : (0 : Int) ≤ 16);omega
   refine (modelTape_yes p q q2 n c nx cx ny cy r k r2 k2 css L xs ys us vs w hL hnx hny hh hxl hyl (key _ _ _ a1 a2 a3) (key _ _ _ a4 a5 a6) hcx hcy hqx hfx hqy hfy).mono ?_;rintro e w' ⟨h1,h2⟩
   refine ⟨?_,h2⟩;subst hxl;subst hyl;rcases h1 with ⟨h3,rfl⟩ | ⟨h3,v,wv,cs',bs',rfl,hg,hw⟩
   · exact Or.inl ⟨by unfold gradB;rw [hh,h3];rfl,rfl⟩
   · obtain ⟨qv,cv,rfl⟩ := own_slice hg.row
     obtain ⟨qw,cw,rfl⟩ := own_slice hw;exact Or.inr ⟨by unfold gradB;rw [hh,h3];rfl,qv,qw,cv,cw,cs',rfl,hg.ops rfl,jbt hw⟩
def GradRet (w : World) (L : List jac.T) (r k : Int) (xs : List Nat) (r2 k2 : Int) (ys : List Nat) (e : Ending) (w' : World) : Prop :=
 (gradB L r k xs.length r2 k2 ys.length = false ∧ e = .returned (.tuple #[.slice none 0 0,.float .f32 0,.bool false])) ∨
 (gradB L r k xs.length r2 k2 ys.length = true ∧ ∃ (q : Option Addr) (c b : Nat) (us : List Value),e = .returned (.tuple #[.slice q (jbq (jb6 L r k xs r2 k2 ys) (wtsOf L r k xs r2 k2 ys)).length c,.float .f32 b,.bool true]) ∧ w'.ownsRow w.heap.size 33 1 (.slice q (jbq (jb6 L r k xs r2 k2 ys) (wtsOf L r k xs r2 k2 ys)).length c) (jbq (jb6 L r k xs r2 k2 ys) (wtsOf L r k xs r2 k2 ys)).length us ∧ F32s us (jbq (jb6 L r k xs r2 k2 ys) (wtsOf L r k xs r2 k2 ys)) ∧ cn .f32 b = lossT (jb6 L r k xs r2 k2 ys))
theorem ModelGradients_any (p q q2 : Option Addr) (n c nx cx ny cy : Nat) (r k r2 k2 : Int) (css : List (List Value)) (L : List jac.T) (xs ys : List Nat) (us vs : List Value) (w : World) (hL : Lays w p n css L) (hxl : xs.length = nx) (hyl : ys.length = ny) (hnx : nx ≤ maxLen) (hny : ny ≤ maxLen) (hcx : nx ≤ cx) (hcy : ny ≤ cy) (hqx : Cs w q us) (hfx : F32s us xs) (hqy : Cs w q2 vs) (hfy : F32s vs ys) :
 Calls Try.prog 19 #[.agg #[.slice p n c],.agg #[.int .i64 r,.int .i64 k,.slice q nx cx],.agg #[.int .i64 r2,.int .i64 k2,.slice q2 ny cy]] w fun e w' => GradRet w L r k xs r2 k2 ys e w' ∧ Ext w w' := by
 obtain ⟨W0,hW0⟩ : ∃ W0,W0 = ((w.alloc (.cells #[.slice p n c] 38)).alloc (.cells #[.int .i64 r,.int .i64 k,.slice q nx cx] 27)).alloc (.cells #[.int .i64 r2,.int .i64 k2,.slice q2 ny cy] 27) := ⟨_,rfl⟩;obtain ⟨E0,s0,b0,b1,b2⟩ := box3 hW0;have K := hid (modelTape_any p q q2 n c nx cx ny cy r k r2 k2 css L xs ys us vs W0 (hL.ext E0) hxl hyl hnx hny hcx hcy (hqx.ext E0) hfx (hqy.ext E0) hfy);clear b0 b1 b2 hL hxl hyl;go_enter Try.func19,Try.ntmps19;go_wp2_with fail;rw [← hW0];clear hW0;refine K.out.mono ?_;rintro e w1 ⟨⟨hg,rfl⟩ | ⟨hg,q5,q6,c5,c6,cs5,rfl,hO,hW⟩,e1⟩
 · have HG := hid hg
   clear hg;go_wp2;refine bodyPost_ret (results_tmp3 (t := 6) (u := 7) (v := 8) (by kernel_rfl) _ _ _) rfl ?_;exact ⟨Or.inl ⟨HG.out,rfl⟩,E0.trans e1⟩
 · obtain ⟨sh,t1,t2,t3,t4⟩ := tapeOf_ok hg
   have HG := hid hg;obtain ⟨ops,hops⟩ : ∃ x,jb6 L r k xs r2 k2 ys = x := ⟨_,rfl⟩;obtain ⟨ws,hws⟩ : ∃ x,wtsOf L r k xs r2 k2 ys = x := ⟨_,rfl⟩;rw [hops] at t1 t2 hO;rw [hws] at t3 hW;rw [hops,hws] at t4;rw [hops,hws];have Hops := hid hops;have Hws := hid hws;clear hops hws;have C := hid (learned_any q5 q6 ops.length c5 ws.length c6 cs5 ops ws w1 hO t1 t2 hW rfl t3 t4);have hs1 := (E0.trans e1).size;clear hg t1 t2 t3 t4 hO hW;generalize ops.length = no at *;generalize ws.length = nw at *;go_wp2_with fail;refine C.out.mono ?_;rintro e w2 ⟨q7,k7,b7,us7,rfl,own7,f7,g7,e2⟩
   have G7 := hid g7;have F7 := hid f7;clear g7 f7;go_wp2;refine bodyPost_ret (results_tmp3 (t := 6) (u := 7) (v := 8) (by kernel_rfl) _ _ _) rfl ?_;refine ⟨Or.inr ⟨HG.out,?_⟩,(E0.trans e1).trans e2⟩;rw [Hops.out,Hws.out];exact ⟨q7,k7,b7,us7,rfl,jak own7 hs1,F7.out,G7.out⟩
def LossRet (L : List jac.T) (r k : Int) (xs : List Nat) (r2 k2 : Int) (ys : List Nat) (e : Ending) : Prop := ∃ b : Nat,e = .returned (.tuple #[.float .f32 b,.bool (gradB L r k xs.length r2 k2 ys.length)]) ∧ cn .f32 b = if gradB L r k xs.length r2 k2 ys.length then lossT (jb6 L r k xs r2 k2 ys) else 0
theorem ModelLoss_any (p q q2 : Option Addr) (n c nx cx ny cy : Nat) (r k r2 k2 : Int) (css : List (List Value)) (L : List jac.T) (xs ys : List Nat) (us vs : List Value) (w : World) (hL : Lays w p n css L) (hxl : xs.length = nx) (hyl : ys.length = ny) (hnx : nx ≤ maxLen) (hny : ny ≤ maxLen) (hcx : nx ≤ cx) (hcy : ny ≤ cy) (hqx : Cs w q us) (hfx : F32s us xs) (hqy : Cs w q2 vs) (hfy : F32s vs ys) :
 Calls Try.prog 27 #[.agg #[.slice p n c],.agg #[.int .i64 r,.int .i64 k,.slice q nx cx],.agg #[.int .i64 r2,.int .i64 k2,.slice q2 ny cy]] w fun e w' => LossRet L r k xs r2 k2 ys e ∧ Ext w w' := by
 obtain ⟨W0,hW0⟩ : ∃ W0,W0 = ((w.alloc (.cells #[.slice p n c] 38)).alloc (.cells #[.int .i64 r,.int .i64 k,.slice q nx cx] 27)).alloc (.cells #[.int .i64 r2,.int .i64 k2,.slice q2 ny cy] 27) := ⟨_,rfl⟩;obtain ⟨E0,s0,b0,b1,b2⟩ := box3 hW0;have K := hid (ModelGradients_any p q q2 n c nx cx ny cy r k r2 k2 css L xs ys us vs W0 (hL.ext E0) hxl hyl hnx hny hcx hcy (hqx.ext E0) hfx (hqy.ext E0) hfy);clear b0 b1 b2 hL hxl hyl;go_enter Try.func27,Try.ntmps27;go_wp2_with fail;rw [← hW0];clear hW0;refine K.out.mono ?_;rintro e w1 ⟨⟨hg,rfl⟩ | ⟨hg,q5,c5,b5,us5,rfl,_,_,h5⟩,e1⟩
 · have HG := hid hg
   clear hg;go_wp2;go_ret2;exact ⟨⟨0,by rw [HG.out];rfl,by rw [HG.out];exact cn0⟩,E0.trans e1⟩
 · have HG := hid hg;have H5 := hid h5
   clear hg h5;go_wp2;go_ret2;exact ⟨⟨b5,by rw [HG.out];rfl,by rw [HG.out];exact H5.out⟩,E0.trans e1⟩
end Go.Proofs.Ytmbckkcgiafagaa
