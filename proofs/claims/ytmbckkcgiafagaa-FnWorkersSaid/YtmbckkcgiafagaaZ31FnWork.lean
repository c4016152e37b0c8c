/- A part of the proofs: TnMf, WRows, WRows2, TnWt, TnWg. -/
import Derived.Test.YtmbckkcgiafagaaTnMeFnWo
import Derived.Test.YtmbckkcgiafagaaZ07FnWork
import Derived.Test.YtmbckkcgiafagaaZ11FnWork
import Derived.Test.YtmbckkcgiafagaaZ02FnWork
import Derived.Test.YtmbckkcgiafagaaZ06FnWork
set_option linter.unusedSimpArgs false
set_option linter.unusedVariables false
set_option maxRecDepth 100000
set_option maxHeartbeats 16000000
namespace Go.Proofs.Ytmbckkcgiafagaa
open Go.RowKit
theorem mtapeZ_ok {L : List jab.T} {r k r2 k2 : Int} {xs ys : List Nat} (h : jcr L r k xs.length r2 k2 ys.length = true) (z : Nat) : ∃ sh,jcd sh (mtape L (r,k,xs,()) (r2,k2,ys,()) z) ∧ 1 ≤ (mtape L (r,k,xs,()) (r2,k2,ys,()) z).length ∧ (wtsOf L r k xs r2 k2 ys).length ≤ 48 ∧ ∀ y ∈ wtsOf L r k xs r2 k2 ys,0 ≤ y ∧ y < ((mtape L (r,k,xs,()) (r2,k2,ys,()) z).length : Int) := by
 unfold jcr headB tenB at h;simp only [Bool.and_eq_true,decide_eq_true_eq,jaz] at h;obtain ⟨⟨h1,⟨⟨h2,h3⟩,h4⟩,⟨⟨h5,h6⟩,h7⟩,h8,h9,h10⟩,h11⟩ := h;have hm := modOk h1;have hp := hm.pos
 have c0 : ((colL L 0 : Nat) : Int) = k := by
  unfold colL;rw [if_pos (by omega),← h9];omega
 have c1 : ((colL L L.length : Nat) : Int) = k2 := by
  unfold colL;rw [if_neg (by omega),← h10];omega
 obtain ⟨R,rfl⟩ : ∃ R : Nat,r = (R : Int) := ⟨r.toNat,by omega⟩;subst h8
 have hx : xs.length = R * colL L 0 := by
  rw [← c0] at h4;exact_mod_cast h4
 have hy : ys.length = R * colL L L.length := by
  rw [← c1] at h7;exact_mod_cast h7
 have := mtape_ok hm h11 (R := R) (xs := xs) (ys := ys) (by omega) hx hy z;unfold tn at this;rw [c0,c1] at this;exact this
def wrN (r k i : Nat) : Nat := r / k + if i < r % k then 1 else 0
def wrF (r k : Nat) : Nat → Nat
 | 0 => 0
 | i + 1 => wrF r k i + wrN r k i
def wrRows (r k n : Nat) : List (List Int) := (List.range n).map fun i => [(wrF r k i : Int),(wrN r k i : Int)]
theorem wrRows_len (r k n : Nat) : (wrRows r k n).length = n := by simp [wrRows]
theorem wrRows_succ (r k n : Nat) : wrRows r k (n + 1) = wrRows r k n ++ [[(wrF r k n : Int),(wrN r k n : Int)]] := by simp [wrRows,List.range_succ]
theorem wrN_le {r k : Nat} (hr : r ≤ 16) (i : Nat) : wrN r k i ≤ 17 := by
 unfold wrN;have := Nat.div_le_self r k
 split <;> omega
theorem wrF_le {r k : Nat} (hr : r ≤ 16) : ∀ i,wrF r k i ≤ 17 * i
 | 0 => by simp [wrF]
 | i + 1 => by have := wrF_le (k := k) hr i;have := wrN_le (k := k) hr i;simp only [wrF];omega
theorem own_ints2 {w : World} (a b : Int) : Own (w.alloc (.cells #[.int .i64 a,.int .i64 b] 2)) (.sl .int) [.slice (some ⟨w.heap.size,0,none⟩) 2 2] [a,b] [w.heap.size] :=
 own_ints.2 ⟨some ⟨w.heap.size,0,none⟩,2,rfl,.inr ⟨w.heap.size,_,_,rfl,heap_alloc_new w _,rfl⟩,Nat.le_refl 2,by unfold maxLen;decide,rfl⟩
def wrR (r k : Int) : List (List Int) × Bool := if inB r 1 16 = true ∧ inB k 1 (min r 8) = true then (wrRows r.toNat k.toNat k.toNat,true) else ([],false)
theorem wrR_no {r k : Int} (h : ¬ (inB r 1 16 = true ∧ inB k 1 (min r 8) = true)) : wrR r k = ([],false) := by unfold wrR;rw [if_neg h]
theorem WorkerRows_yes (r k : Nat) (w : World) (hr1 : 1 ≤ r) (hr : r ≤ 16) (hk1 : 1 ≤ k) (hk : k ≤ 8) (hkr : k ≤ r) :
 Calls Try.prog 17 #[.int .i64 r,.int .i64 k] w (OutOk w (.sl (.sl .int)) (wrRows r k k,true)) := by
 have c1 : inB (r : Int) 1 16 = true := jaz.2 (by omega);have c2 : inB (k : Int) 1 8 = true := jaz.2 (by omega);have c3 : inB (k : Int) 1 (r : Int) = true := jaz.2 (by omega);have hq : (r : Int) / (k : Int) = ((r / k : Nat) : Int) := by simp
 have hm : (r : Int) % (k : Int) = ((r % k : Nat) : Int) := by simp
 have hq' : r / k ≤ 16 := Nat.le_trans (Nat.div_le_self r k) hr;have hF := fun i => wrF_le (k := k) hr i
 have HN : ∀ i,Hid (wrN r k i = r / k + if i < r % k then 1 else 0) := fun i => rfl
 have HFs : ∀ i,Hid (wrF r k (i + 1) = wrF r k i + wrN r k i) := fun i => rfl
 have hn17 := fun i => wrN_le (k := k) hr i
 generalize r / k = q at *;generalize r % k = m at *;go_enter Try.func17,Try.ntmps17;go_wp2_with fail;refine (jck _ _).mono ?_;rintro e w1 ⟨rfl,rfl⟩
 go_wp2_with fail
 all_goals
  refine (ja4 _ _ _ _).mono ?_;rintro e w1 ⟨rfl,rfl⟩
  go_wp2
 all_goals
  have hstart : (w.alloc (.cells #[] 45)).ownsRow w.heap.size 45 (Sh.sz (.sl .int)) (.slice (some ⟨w.heap.size,0,none⟩) 0 0) 0 [] := World.ownsRow_made w #[] 0 (Nat.le_refl _) (by decide) rfl;go_loopw [6,7,22] (fun v fv iv wr => ∃ (i : Nat) (css : List (List Value)) (bss : List (List Nat)),i ≤ k ∧ iv = .int .i64 i ∧ fv = .int .i64 (wrF r k i) ∧ jaj wr w.heap.size 45 (.sl .int) v (wrRows r k i) css bss ∧ Ext w wr) (fun _ _ iv _ => k - (intOf iv).toNat)
  case atStart => exact ⟨0,[],[],by omega,rfl,rfl,jaj.empty hstart,Ext.alloc w _⟩
  case round =>
   clear hstart;obtain ⟨i,css,bss,hi,rfl,rfl,hown,he⟩ := hrel
   by_cases hlt : i < k
   · have hfi := hF i
     have hni := hn17 i
     by_cases him : i < m
     all_goals
      have hN := (HN i).out
      first | rw [if_pos him] at hN | (rw [if_neg him,Nat.add_zero] at hN)
      generalize hNe : wrN r k i = N at *;have HNe := hid hNe;clear hNe;generalize hFe : wrF r k i = F at *;have HFe := hid hFe;clear hFe;subst hN;have hl := hid (wrRows_len r k i);have hrow := hown.row;rw [hl.out] at hrow;go_wp2_with (refine jbj (u := .slice (some ⟨wr.heap.size,0,none⟩) 2 2) rfl rfl rfl rfl rfl (by rfl) (by rfl) (fun _ => rfl) (fun _ => rfl) (jai hrow (Ext.alloc _ _)) (by unfold maxLen;omega) (by omega) (by have := he.size;simp;omega) ?_;intro g c w1 h1 g1 hw1);go_roundw
      case rel =>
       refine ⟨i + 1,css ++ [[.slice (some ⟨wr.heap.size,0,none⟩) 2 2]],bss ++ [[wr.heap.size]],by omega,by go_num,?_,?_,(he.trans (Ext.alloc wr _)).grown g1 (jap hrow)⟩
       · rw [(HFs i).out,HFe.out,HNe.out];rfl
       · rw [wrRows_succ,HFe.out,HNe.out]
         exact hown.snoc (Ext.alloc wr _) (own_ints2 _ _) (by simp) (by simp) he.size hl.out h1 g1 hw1
      case measure => simp [intOf];omega
   · obtain rfl : i = k := by omega
     go_wp2;go_ret2;obtain ⟨bs,h1,h2,h3⟩ := hown.own;exact ⟨_,bs,rfl,h1,h2,h3,he⟩
theorem WorkerRows_any (r k : Int) (w : World) : Calls Try.prog 17 #[.int .i64 r,.int .i64 k] w (OutOk w (.sl (.sl .int)) (wrR r k)) := by
 by_cases h : inB r 1 16 = true ∧ inB k 1 (min r 8) = true
 · obtain ⟨h1,h2⟩ := h
   obtain ⟨a1,a2⟩ := jaz.1 h1;obtain ⟨b1,b2⟩ := jaz.1 h2;have hr : wrR r k = (wrRows r.toNat k.toNat k.toNat,true) := by unfold wrR;rw [if_pos ⟨h1,h2⟩]
   rw [hr];obtain ⟨r,rfl⟩ : ∃ m : Nat,r = m := ⟨r.toNat,by omega⟩;obtain ⟨k,rfl⟩ : ∃ m : Nat,k = m := ⟨k.toNat,by omega⟩;exact WorkerRows_yes r k w (by omega) (by omega) (by omega) (by omega) (by omega)
 · rw [wrR_no h]
   by_cases h1 : inB r 1 16 = true
   · have h2 : inB k 1 (min r 8) = false := by simpa [h1] using h
     have h3 : inB k 1 (min 8 r) = false := by rw [← h2];congr 1;omega
     by_cases h8 : 8 ≤ r
     · have h4 : inB k 1 8 = false := by rw [← h3];congr 1;omega
       have h5 : r = 8 → inB k 1 r = false := fun h => by rw [h];exact h4
       go_enter Try.func17,Try.ntmps17;go_wp2_with fail;refine (jck _ _).mono ?_;rintro e w1 ⟨rfl,rfl⟩
       go_wp2_with fail
       all_goals
        refine (ja4 _ _ _ _).mono ?_;rintro e w1 ⟨rfl,rfl⟩
        go_wp2;go_ret2;exact outOk_no rfl (Ext.refl _)
     · have h4 : inB k 1 r = false := by rw [← h3];congr 1;omega
       go_enter Try.func17,Try.ntmps17;go_wp2_with fail;refine (jck _ _).mono ?_;rintro e w1 ⟨rfl,rfl⟩
       go_wp2_with fail
       all_goals
        refine (ja4 _ _ _ _).mono ?_;rintro e w1 ⟨rfl,rfl⟩
        go_wp2;go_ret2;exact outOk_no rfl (Ext.refl _)
   · have h1 : inB r 1 16 = false := by simpa using h1
     go_enter Try.func17,Try.ntmps17;go_wp2_with fail;refine (jck _ _).mono ?_;rintro e w1 ⟨rfl,rfl⟩
     go_wp2;go_ret2;exact outOk_no rfl (Ext.refl _)
def opD (o : shOp.T) : List Nat := o.2.2.2.2.1.2.2.1
def wData (ops : List shOp.T) (ws : List Int) : List Nat := (ws.map fun z => opD (ops.getD z.toNat o0)).flatten
theorem wData_app {ops more : List shOp.T} {ws : List Int} (h : ∀ z ∈ ws,0 ≤ z ∧ z < (ops.length : Int)) : wData (ops ++ more) ws = wData ops ws := by
 unfold wData
 congr 1
 refine List.map_congr_left fun z hz => ?_
 have := h z hz;rw [getD_appl _ _ _ _ (by omega)]
theorem wData_more (ops : List shOp.T) (ws vs : List Int) : wData ops (ws ++ vs) = wData ops ws ++ wData ops vs := by simp [wData]
theorem mtStep_data {l : jab.T} {s : Mt} (h : ∀ z ∈ s.2.1,0 ≤ z ∧ z < (s.1.length : Int)) (hk : l.1 = 0 ∨ l.1 = 1 ∨ l.1 = 2) (hl : layD l = true) :
 wData (jbl l s).1 (jbl l s).2.1 = wData s.1 s.2.1 ++ ((l.2.2.2.1 : List Nat) ++ l.2.2.2.2.1) ∧ ∀ z ∈ (jbl l s).2.1,0 ≤ z ∧ z < ((jbl l s).1.length : Int) := by
 obtain ⟨ops,ws,j⟩ := s;obtain ⟨k,i,o,W,Bs,u⟩ := l;dsimp only at h hk ⊢;unfold layD layB at hl;dsimp only at hl;simp only [Bool.and_eq_true,jaz,decide_eq_true_eq] at hl;obtain ⟨_,_,_,_,h5,h6⟩ := hl;unfold jbl;dsimp only;rcases hk with rfl | rfl | rfl
 · rw [if_pos rfl]
   refine ⟨?_,fun z hz => ?_⟩
   · dsimp only
     rw [wData_more,wData_app h]
     congr 1
     simp only [wData,List.map_cons,List.map_nil,List.flatten_cons,List.flatten_nil,Int.toNat_natCast,List.append_nil];rw [jcy _ _ _ _ (Nat.le_refl _),jcy _ _ _ _ (Nat.le_succ _),Nat.sub_self,show ops.length + 1 - ops.length = 1 by omega];rfl
   · dsimp only at hz ⊢
     rw [List.mem_append] at hz;rw [List.length_append];rcases hz with hz | hz
     · have := h z hz;simp only [List.length_cons,List.length_nil];omega
     · simp only [List.mem_cons,List.not_mem_nil,or_false] at hz;simp only [List.length_cons,List.length_nil];omega
 · rw [if_neg (by decide),if_pos rfl]
   have hW : W = [] := by
    unfold wCnt at h5;rw [if_neg (by decide)] at h5
    simpa using h5
   have hB : Bs = [] := by
    unfold bCnt at h6
    simpa using h6
   subst hW;subst hB;refine ⟨?_,fun z hz => ?_⟩
   · dsimp only
     rw [wData_app h];simp
   · dsimp only at hz ⊢
     have := h z hz;rw [List.length_append];simp only [List.length_cons,List.length_nil];omega
 · rw [if_neg (by decide),if_neg (by decide)]
   have hB : Bs = [] := by
    unfold bCnt at h6
    simpa using h6
   subst hB;refine ⟨?_,fun z hz => ?_⟩
   · dsimp only
     rw [wData_more,wData_app h]
     congr 1
     simp only [wData,List.map_cons,List.map_nil,List.flatten_cons,List.flatten_nil,Int.toNat_natCast,List.append_nil];rw [jcy _ _ _ _ (Nat.le_refl _),Nat.sub_self];rfl
   · dsimp only at hz ⊢
     rw [List.mem_append] at hz;rw [List.length_append];rcases hz with hz | hz
     · have := h z hz;simp only [List.length_cons,List.length_nil];omega
     · simp only [List.mem_cons,List.not_mem_nil,or_false] at hz;simp only [List.length_cons,List.length_nil];omega
theorem mtTo_data {L : List jab.T} (hm : ModOk L) (ht : tapeB L = true) (x y : jaa.T) : ∀ i,i ≤ L.length → wData (mtTo L x y i).1 (mtTo L x y i).2.1 = parF (L.take i) ∧ ∀ z ∈ (mtTo L x y i).2.1,0 ≤ z ∧ z < ((mtTo L x y i).1.length : Int)
 | 0,_ => by simp [mtTo,wData,parF]
 | i + 1,hi => by
   have hil : i < L.length := by omega
   obtain ⟨h1,h2⟩ := mtTo_data hm ht x y i (by omega);have hk : (L[i].1 : Int) = 0 ∨ (L[i].1 : Int) = 1 ∨ (L[i].1 : Int) = 2 := by simpa using List.all_eq_true.1 ht L[i] (List.getElem_mem _)
   have hs : mtTo L x y (i + 1) = jbl L[i] (mtTo L x y i) := by simp [mtTo,List.getD_eq_getElem?_getD,hil]
   obtain ⟨k1,k2⟩ := mtStep_data h2 hk (hm.lay i hil);rw [hs];exact ⟨by rw [k1,h1,parF_take hil],k2⟩
theorem mtape_data {L : List jab.T} (hm : ModOk L) (ht : tapeB L = true) (x y : jaa.T) (z : Nat) : wData (mtape L x y z) (jco L x y) = parF L := by
 obtain ⟨h1,h2⟩ := mtTo_data hm ht x y L.length (Nat.le_refl _);rw [List.take_length] at h1;unfold mtape jco mtEnd;rw [wData_app h2,h1]
def InpW (ops : List shOp.T) (ws : List Int) : Prop := ∀ z ∈ ws,0 ≤ z ∧ z < (ops.length : Int) ∧ (ops.getD z.toNat o0).1 = 0
theorem InpW.app {ops : List shOp.T} {ws : List Int} (h : InpW ops ws) (more : List shOp.T) : InpW (ops ++ more) ws := by
 intro z hz;obtain ⟨a,b,c⟩ := h z hz;refine ⟨a,by rw [List.length_append];omega,?_⟩;rw [getD_appl _ _ _ _ (by omega)];exact c
theorem mtStep_inp {l : jab.T} {s : Mt} (h : InpW s.1 s.2.1) : InpW (jbl l s).1 (jbl l s).2.1 := by
 obtain ⟨ops,ws,j⟩ := s;unfold jbl;dsimp only at h ⊢
 split
 · intro z hz
   dsimp only at hz ⊢;rw [List.mem_append] at hz;rcases hz with hz | hz
   · exact h.app _ z hz
   · simp only [List.mem_cons,List.not_mem_nil,or_false] at hz
     rw [List.length_append];rcases hz with rfl | rfl
     · refine ⟨by omega,by simp only [List.length_cons];omega,?_⟩
       rw [jcy _ _ _ _ (by omega),Int.toNat_natCast,Nat.sub_self];rfl
     · refine ⟨by omega,by simp only [List.length_cons];omega,?_⟩
       rw [jcy _ _ _ _ (by omega),Int.toNat_natCast,show ops.length + 1 - ops.length = 1 by omega];rfl
 · split
   · exact h.app _
   · intro z hz
     dsimp only at hz ⊢;rw [List.mem_append] at hz;rcases hz with hz | hz
     · exact h.app _ z hz
     · simp only [List.mem_cons,List.not_mem_nil,or_false] at hz
       rw [List.length_append];subst hz;refine ⟨by omega,by simp only [List.length_cons];omega,?_⟩;rw [jcy _ _ _ _ (by omega),Int.toNat_natCast,Nat.sub_self];rfl
theorem mtTo_inp (L : List jab.T) (x y : jaa.T) : ∀ i,InpW (mtTo L x y i).1 (mtTo L x y i).2.1
 | 0 => by intro z hz;simp [mtTo] at hz
 | i + 1 => by simp only [mtTo];exact mtStep_inp (mtTo_inp L x y i)
theorem mtape_inp (L : List jab.T) (x y : jaa.T) (z : Nat) : InpW (mtape L x y z) (jco L x y) := by
 unfold mtape jco mtEnd;exact (mtTo_inp L x y L.length).app _
theorem flatW_data {sh : Nat → Nat × Nat} {ops : List shOp.T} (hT : jcd sh ops) (h1 : 1 ≤ ops.length) : ∀ ws : List Int,InpW ops ws → (jb2 ops ws).length = (wData ops ws).length
 | [],_ => by simp [jb2,wData]
 | z :: ws,h => by
   have ih := flatW_data hT h1 ws (fun x hx => h x (by simp [hx]));obtain ⟨z0,z1,z2⟩ := h z (by simp);have hzl : z.toNat < ops.length := by omega
   obtain ⟨xs,e,l⟩ := grads_shaped hT h1 hzl;have hok := hT.ok z.toNat hzl
   have hd : (opD (ops.getD z.toNat o0)).length = (sh z.toNat).1 * (sh z.toNat).2 := by
    generalize ops.getD z.toNat o0 = o at *
    cases hok with
    | inp r c xs hl hs => rw [hs];exact hl
    | _ => exact absurd z2 (by simp [mkOp])
   simp only [jb2,wData,List.map_cons,List.flatten_cons,List.length_append] at ih ⊢;rw [ih,hd,e];simp only [tn];rw [l]
theorem flatW_par {L : List jab.T} {r k r2 k2 : Int} {xs ys : List Nat} (h : jcr L r k xs.length r2 k2 ys.length = true) (z : Nat) : (jb2 (mtape L (r,k,xs,()) (r2,k2,ys,()) z) (wtsOf L r k xs r2 k2 ys)).length = (parF L).length := by
 obtain ⟨sh,t1,t2,_,_⟩ := mtapeZ_ok h z;have hi := mtape_inp L (r,k,xs,()) (r2,k2,ys,()) z;unfold jcr headB at h;simp only [Bool.and_eq_true] at h;unfold wtsOf;rw [flatW_data t1 t2 _ hi,mtape_data (modOk h.1.1) h.2]
def partL (xs : List Nat) (a n C : Nat) : List Nat := (xs.take ((a + n) * C)).drop (a * C)
theorem partL_len {xs : List Nat} {a n C R : Nat} (hx : xs.length = R * C) (h : a + n ≤ R) : (partL xs a n C).length = n * C := by
 have h1 : (a + n) * C ≤ R * C := Nat.mul_le_mul_right C h;have h2 : (a + n) * C = a * C + n * C := Nat.add_mul a n C;unfold partL;rw [List.length_drop,List.length_take,hx];omega
theorem wrF_eq (r k : Nat) : ∀ i,wrF r k i = i * (r / k) + min i (r % k)
 | 0 => by simp [wrF]
 | i + 1 => by
   have h := wrF_eq r k i;have e : (i + 1) * (r / k) = i * (r / k) + r / k := Nat.succ_mul i (r / k);simp only [wrF,wrN];rw [h,e]
   split <;> omega
theorem wrF_part {r k i : Nat} (hi : i < k) : wrF r k i + wrN r k i ≤ r := by
 have h := wrF_eq r k (i + 1);simp only [wrF] at h;rw [h];have h1 : (i + 1) * (r / k) ≤ k * (r / k) := Nat.mul_le_mul_right _ (by omega);have h2 := Nat.div_add_mod r k;omega
theorem wrN_pos {r k i : Nat} (hk : 1 ≤ k) (h : k ≤ r) : 1 ≤ wrN r k i := by
 have := Nat.div_pos h (by omega : 0 < k);unfold wrN;omega
theorem gradB_part {L : List jab.T} {R K K2 c nx ny nx' ny' : Nat} (h1 : tenB (R : Int) K nx = true) (h2 : tenB (R : Int) K2 ny = true) (hc : 1 ≤ c ∧ c ≤ R) (hx : nx' = c * K) (hy : ny' = c * K2) :
 jcr L c K nx' c K2 ny' = jcr L R K nx R K2 ny := by
 have h3 : tenB (c : Int) K nx' = true := by
  unfold tenB at h1 ⊢;simp only [Bool.and_eq_true,decide_eq_true_eq,jaz] at h1 ⊢;refine ⟨⟨by omega,h1.1.2⟩,by rw [hx];exact_mod_cast rfl⟩
 have h4 : tenB (c : Int) K2 ny' = true := by
  unfold tenB at h2 ⊢;simp only [Bool.and_eq_true,decide_eq_true_eq,jaz] at h2 ⊢;refine ⟨⟨by omega,h2.1.2⟩,by rw [hy];exact_mod_cast rfl⟩
 unfold jcr headB;rw [h1,h2,h3,h4];simp
def shareF (n : Nat) : Nat := fop .quo .f32 oneB32 (cn .f32 (floatOfInt .f32 (n : Int)))
def wTape (L : List jab.T) (K : Nat) (xs : List Nat) (K2 : Nat) (ys : List Nat) (a c z : Nat) : List shOp.T := mtape L ((c : Int),(K : Int),partL xs a c K,()) ((c : Int),(K2 : Int),partL ys a c K2,()) z
def wWts (L : List jab.T) (K : Nat) (xs : List Nat) (K2 : Nat) (ys : List Nat) (a c : Nat) : List Int := wtsOf L c K (partL xs a c K) c K2 (partL ys a c K2)
def wgList (L : List jab.T) (K : Nat) (xs : List Nat) (K2 : Nat) (ys : List Nat) (r k i : Nat) : List Nat := jb2 (wTape L K xs K2 ys (wrF r k i) (wrN r k i) (shareF ys.length)) (wWts L K xs K2 ys (wrF r k i) (wrN r k i))
def wgLoss (L : List jab.T) (K : Nat) (xs : List Nat) (K2 : Nat) (ys : List Nat) (r k i : Nat) : Nat := lossT (wTape L K xs K2 ys (wrF r k i) (wrN r k i) (shareF ys.length))
def jcf (L : List jab.T) (K : Nat) (xs : List Nat) (K2 : Nat) (ys : List Nat) (r k n : Nat) : List (List Nat) := (List.range n).map (wgList L K xs K2 ys r k)
def jb8 (L : List jab.T) (K : Nat) (xs : List Nat) (K2 : Nat) (ys : List Nat) (r k n : Nat) : List Nat := (List.range n).map (wgLoss L K xs K2 ys r k)
theorem wgLists_succ (L : List jab.T) (K : Nat) (xs : List Nat) (K2 : Nat) (ys : List Nat) (r k n : Nat) : jcf L K xs K2 ys r k (n + 1) = jcf L K xs K2 ys r k n ++ [wgList L K xs K2 ys r k n] := by simp [jcf,List.range_succ]
theorem wgLosses_succ (L : List jab.T) (K : Nat) (xs : List Nat) (K2 : Nat) (ys : List Nat) (r k n : Nat) : jb8 L K xs K2 ys r k (n + 1) = jb8 L K xs K2 ys r k n ++ [wgLoss L K xs K2 ys r k n] := by simp [jb8,List.range_succ]
theorem wgLists_len (L : List jab.T) (K : Nat) (xs : List Nat) (K2 : Nat) (ys : List Nat) (r k n : Nat) : (jcf L K xs K2 ys r k n).length = n := by simp [jcf]
theorem wgLosses_len (L : List jab.T) (K : Nat) (xs : List Nat) (K2 : Nat) (ys : List Nat) (r k n : Nat) : (jb8 L K xs K2 ys r k n).length = n := by simp [jb8]
theorem jaj.chgW {S : Nat → Prop} {w w' : World} {B : Nat} {te : TypeId} {E : Sh} {v : Value} {l : List E.T} {css : List (List Value)} {bss : List (List Nat)} (h : jaj w B te E v l css bss) (k : Chg S w w') (h1 : ∀ b,v.ownBlock = some b → ¬ S b) (h2 : ∀ b ∈ bss.flatten,¬ S b) : jaj w' B te E v l css bss :=
 ⟨jay h.row k h1,h.els.chg k (fun b hb hs => h2 b hb hs),h.nodup,h.lo⟩
structure WgOwn (w' : World) (B : Nat) (Ls : List (List Nat)) (ys : List Nat) (v : Value) (q : Option Addr) (n c : Nat) (css : List (List Value)) (bss : List (List Nat)) (vs : List Value) : Prop where
 ls : jaj w' B 25 (.sl .flt) v Ls css bss
 fs : w'.ownsRow B 33 1 (.slice q n c) n vs
 fl : F32s vs ys
 ne : ∀ b,(Value.slice q n c).ownBlock = some b → v.ownBlock ≠ some b ∧ b ∉ bss.flatten
theorem WgOwn.ext {w w' : World} {B : Nat} {Ls : List (List Nat)} {ys : List Nat} {v : Value} {q : Option Addr} {n c : Nat} {css : List (List Value)} {bss : List (List Nat)} {vs : List Value} (h : WgOwn w B Ls ys v q n c css bss vs) (e : Ext w w') : WgOwn w' B Ls ys v q n c css bss vs :=
 ⟨h.ls.ext e,jai h.fs e,h.fl,h.ne⟩
theorem WgOwn.base {w : World} {B B' : Nat} {Ls : List (List Nat)} {ys : List Nat} {v : Value} {q : Option Addr} {n c : Nat} {css : List (List Value)} {bss : List (List Nat)} {vs : List Value} (h : WgOwn w B Ls ys v q n c css bss vs) (hB : B' ≤ B) : WgOwn w B' Ls ys v q n c css bss vs :=
 ⟨⟨jak h.ls.row hB,h.ls.els,h.ls.nodup,fun b hb => ⟨Nat.le_trans hB (h.ls.lo b hb).1,(h.ls.lo b hb).2⟩⟩,jak h.fs hB,h.fl,h.ne⟩
theorem own_blk {w : World} {B e s n c b : Nat} {q : Option Addr} {vs : List Value} (hm : b ∈ jaf q) (h : w.ownsRow B e s (.slice q n c) n vs) : (Value.slice q n c).ownBlock = some b := by
 rcases h.2 with ⟨h1,_⟩ | ⟨g,cap,cur,h1,_⟩
 · cases h1;simp [jaf] at hm
 · cases h1;simp [jaf] at hm;subst hm;rfl
theorem WgOwn.snocL {w0 w w' : World} {B : Nat} {Ls : List (List Nat)} {ys : List Nat} {v : Value} {q : Option Addr} {n c : Nat} {css : List (List Value)} {bss : List (List Nat)} {vs : List Value} (h : WgOwn w0 B Ls ys v q n c css bss vs) (hx : Ext w0 w) {q7 : Option Addr} {c7 i m : Nat} {us7 : List Value} {xs : List Nat}
 (ho : w.ownsRow w0.heap.size 33 1 (.slice q7 m c7) m us7) (hf : F32s us7 xs) (hm : xs.length = m) (hB : B ≤ w0.heap.size) (hln : Ls.length = i) {g c' : Nat} (hr : w'.ownsRow B 25 1 (.slice (some ⟨g,0,none⟩) (i + 1) c') (i + 1) (css.flatten ++ [.slice q7 m c7])) (hg : w.grownBy w' v.ownBlock) (hw : v.ownBlock = some g ∨ g = w.heap.size + 1) :
 WgOwn w' B (Ls ++ [xs]) ys (.slice (some ⟨g,0,none⟩) (i + 1) c') q n c (css ++ [[.slice q7 m c7]]) (bss ++ [jaf q7]) vs := by
 subst hm;have hO : Own w (.sl .flt) [.slice q7 xs.length c7] xs (jaf q7) := own_flts.2 ⟨q7,c7,us7,rfl,jcg ho,hf,(ja1 ho).1,(ja1 ho).2,rfl⟩
 have hq7 : ∀ b ∈ jaf q7,w0.heap.size ≤ b := by
  intro b hb
  cases q7 with
  | none => simp [jaf] at hb
  | some a => simp [jaf] at hb;subst hb;exact jap ho _ rfl
 have hlt := jcw h.fs;refine ⟨h.ls.snoc hx hO (by cases q7 <;> simp [jaf]) hq7 hB hln hr hg hw,jay (jai h.fs hx) (Chg.of_grown hg) (fun k hk hs => (h.ne k hk).1 hs.symm),h.fl,fun b hb => ⟨fun hk => ?_,fun hm => ?_⟩⟩
 · obtain rfl : g = b := by simpa [Value.ownBlock] using hk
   have h1 := hlt g hb;have h2 := hx.size;rcases hw with hw | hw
   · exact (h.ne g hb).1 hw
   · omega
 · rw [List.flatten_append,List.flatten_cons,List.flatten_nil,List.append_nil,List.mem_append] at hm
   rcases hm with hm | hm
   · exact (h.ne b hb).2 hm
   · have h1 := hlt b hb;have h2 := hq7 b hm;omega
theorem WgOwn.snocF {w w' : World} {B : Nat} {Ls : List (List Nat)} {ys : List Nat} {v : Value} {q : Option Addr} {n c : Nat} {css : List (List Value)} {bss : List (List Nat)} {vs : List Value} (h : WgOwn w B Ls ys v q n c css bss vs) {x b : Nat} (hb : cn .f32 b = x) {g c' : Nat} (hr : w'.ownsRow B 33 1 (.slice (some ⟨g,0,none⟩) (n + 1) c') (n + 1) (vs ++ [.float .f32 b])) (hg : w.grownBy w' (Value.slice q n c).ownBlock) (hw : (Value.slice q n c).ownBlock = some g ∨ g = w.heap.size + 1) :
 WgOwn w' B Ls (ys ++ [x]) v (some ⟨g,0,none⟩) (n + 1) c' css bss (vs ++ [.float .f32 b]) := by
 have l1 := jcw h.ls.row;have l2 := h.ls.els.lt;refine ⟨h.ls.chgW (Chg.of_grown hg) (fun k hk hs => (h.ne k hs.symm).1 hk) (fun k hk hs => (h.ne k hs.symm).2 hk),hr,h.fl.app (F32s.cons rfl hb F32s.nil),fun k hk => ?_⟩;obtain rfl : g = k := by simpa [Value.ownBlock] using hk
 rcases hw with hw | hw
 · exact h.ne g hw
 · exact ⟨fun h1 => by have := l1 g h1;omega,fun h1 => by have := l2 g h1;omega⟩
theorem own_neT {w : World} {B B' e e' s s' n n' : Nat} {v v' : Value} {vs vs' : List Value} (h1 : w.ownsRow B e s v n vs) (h2 : w.ownsRow B' e' s' v' n' vs') (he : e ≠ e') : ∀ b,v.ownBlock = some b → v'.ownBlock ≠ some b := by
 intro b k1 k2;rcases h1.2 with ⟨rfl,_⟩ | ⟨g,cap,cur,rfl,hg,hh,_⟩
 · simp [Value.ownBlock] at k1
 rcases h2.2 with ⟨rfl,_⟩ | ⟨g',cap',cur',rfl,hg',hh',_⟩
 · simp [Value.ownBlock] at k2
 obtain rfl : g = b := by simpa [Value.ownBlock] using k1
 obtain rfl : g' = g := by simpa [Value.ownBlock] using k2
 rw [hh] at hh';simp only [Option.some.injEq,Obj.cells.injEq] at hh';exact he hh'.2.1
theorem jaj.num {w w' : World} {B n c : Nat} {q : Option Addr} {ops : List shOp.T} {k a b : Int} {z0 z zb : Nat} {t : jaa.T} {css : List (List Value)} {bss : List (List Nat)} (h : jaj w B 98 shOp (.slice q n c) (ops ++ [(k,a,b,z0,t,())]) css bss) (k' : Chg (fun x => x ∈ jaf q) w w') (hz : cn .f32 zb = z) {cs : List Value} {M : Nat} (hM : ops.length = M) (hcs : css[M]? = some cs) (hn : M + 1 = n) (hc : Cs w' q (css.set M (cs.set 3 (.float .f32 zb))).flatten) :
 Ops w' q n (css.set M (cs.set 3 (.float .f32 zb))) (ops ++ [(k,a,b,z,t,())]) := by
 subst hM;have k1 := h.els.1;have k2 := h.els.2.1;have hl : css.length = n := by rw [k1];simp [hn]
 have hb2 : bss.length = n := by rw [k2];simp [hn]
 have hrw := h.row;rw [show (ops ++ [(k,a,b,z0,t,())]).length = n by simp [hn]] at hrw;have hbl : ∀ b ∈ bss.flatten,b ∉ jaf q := fun b hb hm => (h.lo b hb).2 (own_blk hm hrw)
 have E := h.els.chg k' (fun b hb hm => hbl b hb hm);refine ⟨hc,?_,by simp [hl]⟩;refine All2.of_get (by simp [hl,hn]) fun i x d hx hd => ?_
 by_cases hi : i = ops.length
 · subst hi
   have hx' : x = cs.set 3 (.float .f32 zb) := by
    rw [List.getElem?_set_self (by omega)] at hx;cases hx;rfl
   have hd' : d = (k,a,b,z,t,()) := by
    rw [List.getElem?_append_right (Nat.le_refl _),Nat.sub_self] at hd;cases hd;rfl
   have o := (E.2.2 ops.length cs (bss[ops.length]'(by omega)) (k,a,b,z0,t,()) hcs (by simp) (by rw [List.getElem?_append_right (Nat.le_refl _),Nat.sub_self];rfl)).rep;obtain ⟨c0,c1,rfl,h0,c2,c3,rfl,h1,c4,c5,rfl,h2,c6,c7,rfl,⟨fb,h3,_⟩,h4⟩ := o;dsimp only at h0 h1 h2 h4;obtain rfl : c0 = [.int .i64 k] := h0;obtain rfl : c2 = [.int .i64 a] := h1;obtain rfl : c4 = [.int .i64 b] := h2;subst h3;rw [hx',hd'];exact ⟨[.int .i64 k],_,rfl,rfl,[.int .i64 a],_,rfl,rfl,[.int .i64 b],_,rfl,rfl,[.float .f32 zb],c7,rfl,⟨zb,rfl,hz⟩,h4⟩
 · have hil : i < n := by
    have := (List.getElem?_eq_some_iff.1 hd).1;simp at this;omega
   rw [List.getElem?_set_ne (by omega)] at hx;rw [List.getElem?_append_left (by omega)] at hd;exact (E.2.2 i x (bss[i]'(by omega)) d hx (by simp) (by rw [List.getElem?_append_left (by omega)];exact hd)).rep
theorem mtape_last (L : List jab.T) (x y : jaa.T) : ∃ A a,∀ z,mtape L x y z = A ++ [((5 : Int),(a : Int),(0 : Int),z,t0,())] := by
 refine ⟨(mtTo L x y L.length).1 ++ [mkOp 5 1 0 negOne t0,mkOp 1 (mtTo L x y L.length).2.2 (mtTo L x y L.length).1.length 0 t0,mkOp 9 ((mtTo L x y L.length).1.length + 1) 0 0 t0,mkOp 10 ((mtTo L x y L.length).1.length + 2) 0 0 t0],(((mtTo L x y L.length).1.length + 3 : Nat) : Int),fun z => ?_⟩;unfold mtape mtEnd;simp [mkOp]
theorem parts_of {w : World} {v : Value} {l : List (List Int)} (h : Rep w (.sl (.sl .int)) [v] l) : ∃ (p : Option Addr) (c : Nat) (us : List Value),v = .slice p l.length c ∧ Cs w p us ∧ us.length = l.length ∧ ∀ (i : Nat) (xs : List Int),l[i]? = some xs → ∃ (q : Option Addr) (c' : Nat),us[i]? = some (Value.slice q xs.length c') ∧ Cs w q (xs.map (Value.int .i64)) := by
 obtain ⟨p,c,css,h1,h2,h3,h4,h5,h6,h7⟩ := rep_sl h
 cases h1
 refine ⟨p,c,css.flatten,rfl,h2,by rw [flat_len h6,h7];exact Nat.mul_one _,fun i xs hi => ?_⟩;obtain ⟨cs,hc,hr⟩ := h5.get i xs hi;obtain ⟨q,c',rfl,e2,_⟩ := rep_ints.1 hr;obtain ⟨hil,hci⟩ := List.getElem?_eq_some_iff.1 hc;have hf := flat_get h6 hil (show 0 < Sh.sz (.sl .int) by decide);rw [show i * Sh.sz (.sl .int) + 0 = i from Nat.mul_one i,hci] at hf;exact ⟨q,c',hf,e2⟩
theorem slice_any (C a k n cp : Nat) (r : Int) (q0 : Option Addr) (w : World) (hC : C ≤ 16) (hk : a + k ≤ 16) (hn : (a + k) * C ≤ n) (hcp : n ≤ cp) :
 Calls Try.prog 59 #[.agg #[.int .i64 r,.int .i64 (C : Int),.slice q0 n cp],.int .i64 (a : Int),.int .i64 (k : Int)] w fun e w' => e = .returned (.agg #[.int .i64 (k : Int),.int .i64 (C : Int),.slice (subp q0 1 (a * C) cp) ((a + k) * C - a * C) (cp - a * C)]) ∧ Ext w w' := by
 have hle : a * C ≤ (a + k) * C := Nat.mul_le_mul_right C (by omega);have h256 : (a + k) * C ≤ 256 := Nat.mul_le_mul hk hC;have q1 : IntKind.i64.wrap ((a : Int) * C) = ((a * C : Nat) : Int) := by rw [← Int.natCast_mul];exact jbd _ (by omega) (by omega)
 have q2 : IntKind.i64.wrap ((a : Int) + k) = ((a + k : Nat) : Int) := by rw [← Int.natCast_add];exact jbd _ (by omega) (by omega)
 have q3 : IntKind.i64.wrap (IntKind.i64.wrap ((a : Int) + k) * C) = (((a + k) * C : Nat) : Int) := by rw [q2,← Int.natCast_mul];exact jbd _ (by omega) (by omega)
 have q4 : IntKind.i64.wrap (((a + k : Nat) : Int) * C) = (((a + k) * C : Nat) : Int) := by rw [← Int.natCast_mul];exact jbd _ (by omega) (by omega)
 have q5 : IntKind.i64.wrap (((a : Int) + k) * C) = (((a + k) * C : Nat) : Int) := by rw [← Int.natCast_add,← Int.natCast_mul];exact jbd _ (by omega) (by omega)
 generalize hA : a * C = A at *;generalize hB : (a + k) * C = B at *;have h6 : B ≤ cp := by omega
 obtain ⟨W0,hW0⟩ : ∃ W0,W0 = (w.alloc (.cells #[.int .i64 r,.int .i64 (C : Int),.slice q0 n cp] 27)).alloc (.cells #[.int .i64 0,.int .i64 0,.slice none 0 0] 27) := ⟨_,rfl⟩;obtain ⟨E0,s0,b0,b1⟩ := box2 hW0;have b0 : HB W0 w.heap.size #[.int .i64 r,.int .i64 (C : Int),.slice q0 n cp] 27 := b0;have b1 : HB W0 (w.heap.size + 1) #[.int .i64 0,.int .i64 0,.slice none 0 0] 27 := b1;have e1 := Ext.drew W0;have d1 := (b0.ext e1).cell 1 rfl;have d2 := (b0.ext e1).cell 2 rfl;clear hA hB hn;go_enter Try.func59,Try.ntmps59;go_wp2;rw [← hW0];clear hW0;refine jbs 17 (F := fun _ _ _ => False) (by kernel_rfl) (by kernel_rfl) (by kernel_rfl) (by kernel_rfl) (by kernel_rfl) ?_;intro wf hwf;simp only [pw1,pw2,pw3,pw4]
 repeat (first
  | ((first | (refine ja2 rfl ?_) | (refine x_mv rfl rfl rfl ?_) | (refine x_as rfl rfl rfl ?_) | ((with_reducible show wpX _ _ _ _ _ _ (Oper.mk _ (Op.slice _ _ _ _ _) _ _ _ _ :: _) _);refine x_slice (l := A) (u := B) rfl rfl rfl rfl rfl (by first | rfl | exact q1) (by first | rfl | exact q3 | exact q4 | exact q5) hle h6 ?_));simp only [Act.put,jac,pu1,pu2,pu3,pu4,pu5])
  | (refine jbm rfl fun K hK w1 hw1 => ?_;have k0 := hw1.cell (d1);have k1 := hw1.cell (d2);go_simp;refine hK _ ?_;clear hK K k0 k1 hw1 w1))
 refine jbn ?_;have eW := e1.trans hwf;have b2 := b1.ext eW;have n0 := b2.cell 0 rfl;have n1 := b2.cell 1 rfl;have n2 := b2.cell 2 rfl;have m0 := b2.froz 0;have m1 := b2.froz 1;have m2 := b2.froz 2;clear d1 d2 q1 q2 q3 q4 q5;go_wp2;refine bodyPost_ret (v := .agg #[.int .i64 (k : Int),.int .i64 (C : Int),.slice (subp q0 1 A cp) (B - A) (cp - A)]) (by simp [results,Try.results59,go_sem,n0,n1,n2,m0,m1,m2]) rfl ?_;exact ⟨rfl,(E0.trans eW).chg (S := fun k => k = w.heap.size + 1) (by (repeat (first | (with_reducible first | exact Chg.refl _ _ | exact Chg.of_ext (by assumption) | assumption) | ((with_reducible refine Chg.setCell ?_ ?_ _);rotate_left;focus (first | (simp;done) | (simp;omega))) | (with_reducible first | refine Chg.alloc ?_ _ | refine Chg.drew ?_ | refine px3 ?_ (by assumption))))) (fun k hk => by omega)⟩
end Go.Proofs.Ytmbckkcgiafagaa
