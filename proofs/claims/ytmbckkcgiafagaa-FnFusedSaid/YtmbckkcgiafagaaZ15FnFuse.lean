/- A part of the proofs: RgL, RgE, OwnX, Dr9a, CpyS. -/
import Derived.Test.YtmbckkcgiafagaaRgFnFu
import Derived.OrdersHeld
import Derived.Test.YtmbckkcgiafagaaZ11FnFuse
import Derived.Test.YtmbckkcgiafagaaZ12FnFuse
import Derived.Test.YtmbckkcgiafagaaZ14FnFuse
import Derived.Test.YtmbckkcgiafagaaZ07FnFuse
set_option linter.unusedSimpArgs false
set_option linter.unusedVariables false
set_option maxRecDepth 100000
set_option maxHeartbeats 16000000
namespace Go.Proofs.Ytmbckkcgiafagaa
open Go.RowKit
section
variable {P : Program} {ops : Array Oper} {F : Option Tmp → World → World → Value → Prop} {w : World}
def markedX (X : Nat → Bool) (n N : Nat) : Array Bool := (Array.range n).map fun i => decide (i < N) || X i
theorem getD_set_true {l : Array Bool} {i j : Nat} (h : l.getD j false = true) : (l.setIfInBounds i true).getD j false = true := by
 by_cases hj : j = i
 · subst hj
   rcases Nat.lt_or_ge j l.size with h' | h'
   · simp [h']
   · simp [h'] at h
 · simp only [Array.getD_eq_getD_getElem?,Array.getElem?_setIfInBounds,if_neg (Ne.symm hj)] at h ⊢
   exact h
theorem wpX_anyL {Q : Exit → Act → World → Prop} {N R : Nat} {a0 : Act} {X L : Nat → Bool} {I : World → Prop} (hI : ∀ a b,I a → Ext a b → I b) (hns : Region.noSelect ops = true) (hap : apartB .any ops N = true) (hN : N ≤ ops.size) (hXN : ∀ j,X j = true → N ≤ j ∧ j < ops.size) (hbar : ∀ i,i < ops.size → N ≤ i → X i = false → L i = false → ∀ j,j < N → j ∈ ancs .any ops ops.size i)
 (h : ∀ wf,Ext w wf → I wf → wpX P ops F w wf (fun a' => wpAny P .any ops Q R (markedX X ops.size N) a' wf) (ops.toList.take N) a0)
 (hL : ∀ (n : Nat) (listed : Array Bool) (u : Nat → Value) (w1 : World) (i : Nat),L i = true → i ∈ Region.ready .any ops listed → listed.size = ops.size → Closed .any ops listed → (∀ j,N ≤ j → listed.getD j true = true → X j = true ∨ ops.size ≤ j) → (∀ j,X j = true → listed.getD j false = true) → Ext w w1 → I w1 →
  ((List.range N).filter fun i => !listed.getD i false).length = n + 1 → (∀ j o,j < N → listed.getD j false = true → ops[j]? = some o → xOut P ops F w w1 o (jan ops a0 (fun _ => true) u j) (u j)) →
  wpOp P ops Q i (wpAny P .any ops Q (n + R) (listed.setIfInBounds i true)) (jan ops a0 (fun i => listed.getD i false) u N) w1) :
 ∀ (fuel : Nat) (listed : Array Bool) (u : Nat → Value) (w1 : World),listed.size = ops.size → Closed .any ops listed → (∀ j,N ≤ j → listed.getD j true = true → X j = true ∨ ops.size ≤ j) → (∀ j,X j = true → listed.getD j false = true) → Ext w w1 → I w1 →
   ((List.range N).filter fun i => !listed.getD i false).length = fuel →
   (∀ j o,j < N → listed.getD j false = true → ops[j]? = some o → xOut P ops F w w1 o (jan ops a0 (fun _ => true) u j) (u j)) →
   wpAny P .any ops Q (fuel + R) listed (jan ops a0 (fun i => listed.getD i false) u N) w1 := by
 simp only [apartB,Bool.and_eq_true] at hap;obtain ⟨hord,hap⟩ := hap;have hsel := fun (j : Nat) (o : Oper) cs b (ho : ops[j]? = some o) => Region.noSelect_spec hns j o cs b ho
 have hll : (ops.toList.take N).length = N := by simp;omega
 have hlo : ∀ i,i < (ops.toList.take N).length → (ops.toList.take N)[i]? = ops[i]? := by
  intro i hi;rw [hll] at hi;rw [List.getElem?_take_of_lt hi];simp
 have hat : ∀ i,i < N → ∃ o,ops[i]? = some o := fun i hi => ⟨ops[i],by simp [show i < ops.size by omega]⟩
 have hdep : ∀ j o,ops[j]? = some o → ∀ e ∈ o.after,Region.binds .any e = true → e.on < j := by
  intro j o ho e he hb;have hj := (Array.getElem?_eq_some_iff.1 ho).1;have h2 := List.all_eq_true.1 hord j (by simpa using hj);simp only [ho] at h2;have h3 := (Array.all_eq_true_iff_forall_mem.1 h2) e he
  simpa [hb] using h3
 -- two places before N
 have hpair : ∀ i j x y,i < j → j < N → ops[i]? = some x → ops[j]? = some y → ((∃ e ∈ y.after,Region.binds .any e = true ∧ e.on = i) ∨ y.apart ops x = true) ∧ (∀ d,x.dst = some d → y.dst ≠ some d) := by
  intro i j x y hij hj hx hy;have h2 := List.all_eq_true.1 (List.all_eq_true.1 hap j (by simpa using hj)) i (by simpa using hij);simp only [hx,hy,Bool.and_eq_true,Bool.or_eq_true,Array.any_eq_true',beq_iff_eq,Option.isNone_iff_eq_none,bne_iff_ne,ne_eq] at h2;obtain ⟨h3,h4⟩ := h2;refine ⟨?_,fun d hd hd' => ?_⟩
  · rcases h3 with ⟨e,he,hb,hon⟩ | h3
    · exact .inl ⟨e,he,hb,hon⟩
    · exact .inr h3
  · rcases h4 with h4 | h4
    · rw [hd] at h4;cases h4
    · exact h4 (by rw [hd,hd'])
 have hdst : ∀ i j d,i < N → j < N → i ≠ j → jbf ops i = some d → jbf ops j ≠ some d := by
  intro i j d hi hj hne h1 h2;obtain ⟨x,hx⟩ := hat i hi;obtain ⟨y,hy⟩ := hat j hj;simp only [jbf,hx,hy,Option.bind_some] at h1 h2;rcases Nat.lt_or_ge i j with h' | h'
  · exact (hpair i j x y h' hj hx hy).2 d h1 h2
  · exact (hpair j i y x (by omega) hi hy hx).2 d h2 h1
 -- what an operation looks at and an earlier one leaves,it waits for
 have hlook : ∀ i j y d,i < j → j < N → ops[j]? = some y → jbf ops i = some d → d ∈ y.looksAt ops → ∃ e ∈ y.after,Region.binds .any e = true ∧ e.on = i := by
  intro i j y d hij hj hy hd hm;obtain ⟨x,hx⟩ := hat i (by omega);rcases (hpair i j x y hij hj hx hy).1 with h' | h'
  · exact h'
  · simp only [jbf,hx,Option.bind_some] at hd
    exact ((Oper.apart_spec h').2.2 d hd hm).elim
 have hlook2 : ∀ i j x d,i < j → j < N → ops[i]? = some x → jbf ops j = some d → d ∈ x.looksAt ops → ∃ y,ops[j]? = some y ∧ ∃ e ∈ y.after,Region.binds .any e = true ∧ e.on = i := by
  intro i j x d hij hj hx hd hm;obtain ⟨y,hy⟩ := hat j hj;rcases (hpair i j x y hij hj hx hy).1 with h' | h'
  · exact ⟨y,hy,h'⟩
  · simp only [jbf,hy,Option.bind_some] at hd
    exact ((Oper.apart_spec h').1 d hd hm).elim
 have hmove : ∀ j o (v v' : Nat → Value),j < N → ops[j]? = some o → (∀ e ∈ o.after,Region.binds .any e = true → v e.on = v' e.on) → AgreeOn (o.looksAt ops) (jan ops a0 (fun _ => true) v j) (jan ops a0 (fun _ => true) v' j) ∧ AgreeOn (waits ops o) (jan ops a0 (fun _ => true) v j) (jan ops a0 (fun _ => true) v' j) ∧ (jan ops a0 (fun _ => true) v j).tmps.size = (jan ops a0 (fun _ => true) v' j).tmps.size := by
  intro j o v v' hj ho hv;refine ⟨fun t ht => ?_,fun t ht => ?_,by rw [ja1,ja1]⟩
  · refine jbr j fun i hi hd => ⟨rfl,fun _ => ?_⟩
    obtain ⟨e,he,hb,rfl⟩ := hlook i j o t hi hj ho hd ht;exact hv e he hb
  · obtain ⟨e,he,hb,hed⟩ := mem_waits.1 ht
    have hej := hdep j o ho e he hb;refine jbr j fun i hi hd => ⟨rfl,fun _ => ?_⟩
    by_cases hie : i = e.on
    · subst hie;exact hv e he hb
    · exact (hdst e.on i t (by omega) (by omega) (Ne.symm hie) hed hd).elim
 intro fuel
 induction fuel with
 | zero =>
   intro listed u w1 hsz hcl hlate hXl h1 hi1 hlen hx
   have hall0 : ∀ i,i < N → listed.getD i false = true := by
    intro i hi;have := List.eq_nil_of_length_eq_zero hlen;rw [List.filter_eq_nil_iff] at this;have := this i (by simpa using hi)
    simpa using this
   have hq := wpX_feed (u := u) hlo (h w1 h1 hi1) N (by omega) (fun j o hj ho => hx j o hj (hall0 j hj) ho);rw [List.drop_of_length_le (by omega)] at hq
   have hall : listed = markedX X ops.size N := by
    apply Array.ext
    · simp [markedX,hsz]
    · intro i hi hi'
      by_cases hiN : i < N
      · have := hall0 i hiN
        simp [hi] at this;simp [markedX,hiN,this]
      · by_cases hl : listed.getD i true = true
        · rcases hlate i (by omega) hl with h' | h'
          · simp [hi] at hl
            simp [markedX,hiN,hl,h']
          · omega
        · have hXi : X i = false := by
           cases hXi : X i with
           | false => rfl
           | true => have := hXl i hXi;rw [getD_tf hi] at hl;exact (hl this).elim
          simp [hi] at hl;simp [markedX,hiN,hl,hXi]
   rw [Nat.zero_add,ja8 (ops := ops) (q := fun _ => true) (u' := u) N fun i hi => ⟨hall0 i hi,fun _ => rfl⟩,hall];exact hq
 | succ fuel ih =>
   intro listed u w1 hsz hcl hlate hXl h1 hi1 hlen hx
   have hunl : ∃ j,j < N ∧ listed.getD j false = false := by
    cases hr : (List.range N).filter fun i => !listed.getD i false with
    | nil => rw [hr] at hlen;simp at hlen
    | cons j l =>
      have hm : j ∈ (List.range N).filter fun i => !listed.getD i false := by rw [hr];simp
      rw [List.mem_filter] at hm;exact ⟨j,by simpa using hm.1,by simpa using hm.2⟩
   obtain ⟨j0,hj0,hl0⟩ := hunl
   have hready : ∀ i ∈ Region.ready .any ops listed,i < N ∨ L i = true := by
    intro i hi;rcases Nat.lt_or_ge i N with h' | h'
    · exact .inl h'
    · obtain ⟨hun,o,ho,hall⟩ := mem_ready.1 hi
      have hio : i < ops.size := (Array.getElem?_eq_some_iff.1 ho).1
      have hXi : X i = false := by
       cases hXi : X i with
       | false => rfl
       | true => have := hXl i hXi;rw [getD_tf (by omega)] at hun;rw [hun] at this;cases this
      cases hLi : L i with
      | true => exact .inr rfl
      | false =>
        have hc := hbar i hio h' hXi hLi j0 hj0;have := ancs_listed hcl ops.size i (fun o' ho' => by rw [ho] at ho';cases ho';exact hall) j0 hc;rw [this] at hl0;cases hl0
   -- those that have not come up yet,run as the text has them,up to place k
   have hhyp : ∀ k,k ≤ N → ∃ (u' : Nat → Value) (v : World),(∀ j,listed.getD j false = true → u' j = u j) ∧ Ext w1 v ∧ ∀ j o,j < k → ops[j]? = some o → xOut P ops F w v o (jan ops a0 (fun _ => true) u' j) (u' j) := by
    intro k
    induction k with
    | zero => exact fun _ => ⟨u,w1,fun _ _ => rfl,Ext.refl _,fun j o hj => by omega⟩
    | succ k ihk =>
      intro hk;obtain ⟨u',v,hu',hv,hxs⟩ := ihk (by omega);obtain ⟨o,ho⟩ := hat k (by omega)
      by_cases hlk : listed.getD k false = true
      · refine ⟨u',v,hu',hv,fun j o' hj ho' => ?_⟩
        by_cases hjk : j = k
        · subst hjk
          rw [ho] at ho';cases ho';rw [hu' j hlk];refine jbs (fun cs b => hsel j o cs b ho) (hmove j o u u' (by omega) ho fun e he hb => ?_) (xOut_mono (hx j o (by omega) hlk ho) hv);exact (hu' e.on (hcl j o ho hlk e he hb)).symm
        · exact hxs j o' (by omega) ho'
      · have hfeed := wpX_feed (u := u') hlo (h v (h1.trans hv) (hI _ _ hi1 hv)) k (by omega) (fun j o hj ho => hxs j o hj ho)
        have hlk2 : k < (ops.toList.take N).length := by omega
        rw [List.drop_eq_getElem_cons hlk2] at hfeed
        have hok : (ops.toList.take N)[k] = o := by
         have := hlo k hlk2;rw [ho,List.getElem?_eq_getElem hlk2] at this;exact Option.some.inj this
        rw [hok] at hfeed
        obtain ⟨uk,v2,hv2,hxk⟩ := hfeed.1.some v (h1.trans hv) (fun e he hb x d hxo hd hr => by
         have hek := hdep k o ho e he hb;refine ⟨jan ops a0 (fun _ => true) u' e.on,?_⟩
         · have hat1 := actsP_at (ops := ops) (a := a0) (p := fun _ => true) (u := u') (j := e.on) (d := d) (by simp [jbf,hxo,hd]) rfl (by rw [ja1] at hr;exact hr) k hek (fun i hi hne => hdst e.on i d (by omega) (by omega) (Ne.symm hne) (by simp [jbf,hxo,hd]))
           rw [hat1];exact hxs e.on x hek hxo)
        refine ⟨fun j => if j = k then uk else u' j,v2,fun j hj => ?_,hv.trans hv2,fun j o' hj ho' => ?_⟩
        · have : j ≠ k := fun he => hlk (he ▸ hj)
          simp only [if_neg this];exact hu' j hj
        · rw [ja8 (ops := ops) (q := fun _ => true) (u' := u') j fun i hi => ⟨rfl,fun _ => by simp [show i ≠ k by omega]⟩]
          by_cases hjk : j = k
          · subst hjk
            rw [ho] at ho';cases ho';simp only [if_true];exact hxk
          · simp only [if_neg hjk]
            exact xOut_mono (hxs j o' (by omega) ho') hv2
   have hdo : ∀ i ∈ Region.ready .any ops listed,wpOp P ops Q i (wpAny P .any ops Q (fuel + R) (listed.setIfInBounds i true)) (jan ops a0 (fun i => listed.getD i false) u N) w1 := by
    intro i hi;rcases hready i hi with hiN | hLi
    case inr => exact hL fuel listed u w1 i hLi hi hsz hcl hlate hXl h1 hi1 hlen hx
    obtain ⟨hun,y,hy,hall⟩ := mem_ready.1 hi;have his : i < listed.size := by omega
    have hunf : listed.getD i false = false := by rw [← getD_tf his];exact hun
    obtain ⟨u',v,hu',hv,hxs⟩ := hhyp i (by omega);have hfeed := wpX_feed (u := u') hlo (h v (h1.trans hv) (hI _ _ hi1 hv)) i (by omega) (fun j o hj ho => hxs j o hj ho);have hil : i < (ops.toList.take N).length := by omega
    rw [List.drop_eq_getElem_cons hil] at hfeed
    have hoi : (ops.toList.take N)[i] = y := by
     have := hlo i hil;rw [hy,List.getElem?_eq_getElem hil] at this;exact Option.some.inj this
    rw [hoi] at hfeed;have hsafe := hfeed.1
    have hknown : Known P ops F w y (jan ops a0 (fun _ => true) u' i) w1 := by
     intro e he hb x d hxo hd hr;have hek := hdep i y hy e he hb;have hle := hall e he hb;refine ⟨jan ops a0 (fun _ => true) u' e.on,?_⟩;have hat1 := actsP_at (ops := ops) (a := a0) (p := fun _ => true) (u := u') (j := e.on) (d := d) (by simp [jbf,hxo,hd]) rfl (by rw [ja1] at hr;exact hr) i hek (fun k hk hne => hdst e.on k d (by omega) (by omega) (Ne.symm hne) (by simp [jbf,hxo,hd]));rw [hat1,hu' e.on hle];have hxe := hx e.on x (by omega) hle hxo;exact jbs (fun cs b => hsel e.on x cs b hxo) (hmove e.on x u u' (by omega) hxo fun e' he' hb' => (hu' e'.on (hcl e.on x hxo hle e' he' hb')).symm) hxe
    have hagree : AgreeOn (y.looksAt ops) (jan ops a0 (fun _ => true) u' i) (jan ops a0 (fun i => listed.getD i false) u N) := by
     intro t ht
     have e1 : (jan ops a0 (fun _ => true) u' i).eval (.tmp t) = (jan ops a0 (fun k => decide (k < i)) u' N).eval (.tmp t) := by
      have : ∀ n,i ≤ n → jan ops a0 (fun k => decide (k < i)) u' n = jan ops a0 (fun _ => true) u' i := by
       intro n
       induction n with
       | zero => intro hn;obtain rfl : i = 0 := by omega
                 rfl
       | succ n ihn =>
         intro hn
         by_cases hin : i = n + 1
         · subst hin
           exact ja8 _ fun k hk => ⟨by simpa using hk,fun _ => rfl⟩
         · have h2 : decide (n < i) = false := by simp;omega
           have h3 : jan ops a0 (fun k => decide (k < i)) u' (n + 1) = jan ops a0 (fun k => decide (k < i)) u' n := by
            conv => lhs;unfold jan
            simp only [h2,Bool.false_eq_true,if_false]
           rw [h3];exact ihn (by omega)
      rw [this N (by omega)]
     rw [e1];refine jbr N fun k hk hd => ?_
     by_cases hki : k < i
     · obtain ⟨e,he,hb,rfl⟩ := hlook k i y t hki hiN hy hd ht
       have hle := hall e he hb;exact ⟨by simp [hki,hle],fun _ => hu' _ hle⟩
     · have hlk : listed.getD k false = false := by
        by_cases hk2 : k = i
        · subst hk2;exact hunf
        · obtain ⟨z,hz,e,he,hb,hon⟩ := hlook2 i k y t (by omega) hk hy hd ht
          cases hlk : listed.getD k false with
          | false => rfl
          | true =>
            have := hcl k z hz hlk e he hb;rw [hon,hunf] at this;cases this
       exact ⟨by simp [hki,hlk],fun h' => by simp [hki] at h'⟩
    have hexec := exec_agree (fun cs b => hsel i y cs b hy) hagree;have hwant := wanted_agree hagree
    have hcl' : Closed .any ops (listed.setIfInBounds i true) := by
     intro j o ho hj e he hb
     by_cases hji : j = i
     · subst hji
       rw [hy] at ho;cases ho;exact getD_set_true (hall e he hb)
     · have : (listed.setIfInBounds i true).getD j false = listed.getD j false := getD_set_ne false (fun h' => hji h'.symm)
       rw [this] at hj;exact getD_set_true (hcl j o ho hj e he hb)
    have hXl' : ∀ j,X j = true → (listed.setIfInBounds i true).getD j false = true := fun j hj => getD_set_true (hXl j hj)
    have hlate' : ∀ j,N ≤ j → (listed.setIfInBounds i true).getD j true = true → X j = true ∨ ops.size ≤ j := by
     intro j hj hjl;rw [getD_set_ne true (by omega)] at hjl;exact hlate j hj hjl
    have hset : ∀ k,(listed.setIfInBounds i true).getD k false = (listed.getD k false || k == i) := by
     intro k
     by_cases hki : k = i
     · subst hki;simp [his]
     · rw [getD_set_ne false (fun h' => hki h'.symm)];simp [hki]
    have hlen' : ((List.range N).filter fun k => !(listed.setIfInBounds i true).getD k false).length = fuel := by
     have hf : ((List.range N).filter fun k => !(listed.setIfInBounds i true).getD k false) = ((List.range N).filter fun k => !listed.getD k false).filter fun k => !(k == i) := by
      rw [List.filter_filter]
      congr 1
      funext k
      rw [hset k]
      cases listed.getD k false <;> cases (k == i) <;> rfl
     have hnd : ((List.range N).filter fun k => !listed.getD k false).Nodup := List.Pairwise.filter _ List.nodup_range
     have hmem : i ∈ (List.range N).filter fun k => !listed.getD k false := by
      rw [List.mem_filter];exact ⟨by simpa using hiN,by rw [hunf];rfl⟩
     rw [hf];have h4 := filter_ne_len hnd hmem;omega
    -- behind it
    have next : ∀ (ui : Value) (w2 : World),Ext w1 w2 → xOut P ops F w w2 y (jan ops a0 (fun _ => true) u' i) ui →
     wpAny P .any ops Q (fuel + R) (listed.setIfInBounds i true) ((jan ops a0 (fun i => listed.getD i false) u N).put y.dst ui) w2 := by
     intro ui w2 e2 hxi;have hput := actsP_put (ops := ops) (a := a0) (p := fun k => listed.getD k false) (u := u) (j := i) (v := ui) hunf N hiN (fun k hk hne d h1 h2 => hdst i k d hiN hk (Ne.symm hne) h1 h2);have hdi : jbf ops i = y.dst := by simp [jbf,hy]
     rw [hdi] at hput;rw [hput,ja8 (ops := ops) (q := fun k => (listed.setIfInBounds i true).getD k false) (u' := fun k => if k = i then ui else u k) N fun k hk => ⟨by rw [hset k],fun _ => rfl⟩];refine ih _ _ w2 (by simpa using hsz) hcl' hlate' hXl' (h1.trans e2) (hI _ _ hi1 e2) hlen' fun j o hj hlj ho => ?_
     by_cases hji : j = i
     · subst hji
       rw [hy] at ho;cases ho;simp only [if_true];refine jbs (fun cs b => hsel j y cs b hy) (hmove j y u' _ hj hy fun e he hb => ?_) hxi;have := hdep j y hy e he hb;simp only [if_neg (show e.on ≠ j by omega)];exact hu' _ (hall e he hb)
     · have hlj' : listed.getD j false = true := by rw [hset j] at hlj;simpa [hji] using hlj
       simp only [if_neg hji];refine jbs (fun cs b => hsel j o cs b ho) (hmove j o u _ hj ho fun e he hb => ?_) (xOut_mono (hx j o hj hlj' ho) e2);have hle := hcl j o ho hlj' e he hb;have : e.on ≠ i := fun hei => by rw [hei,hunf] at hle;cases hle
       simp only [if_neg this]
    unfold wpOp;simp only [hy];rw [← hwant]
    split
    · rename_i hw
      have h2 := hsafe hw w1 h1 hknown;refine .inl ?_;unfold Oper.wp;rw [← hexec];generalize hr : (execOp (jan ops a0 (fun _ => true) u' i).eval y).run P w1 = r at h2
      cases r with
      | ok n w2 =>
        cases n <;> simp only [XSafe] at h2 <;> simp only [Oper.upon]
        case value ui => exact next ui w2 h2 (.inl ⟨hw,w1,h1,known_C hknown,by rw [hr];exact ⟨rfl,Ext.refl _⟩⟩)
        case skip => exact next undef w2 h2 (.inl ⟨hw,w1,h1,known_C hknown,by rw [hr];exact ⟨rfl,Ext.refl _⟩⟩)
        case enter f args =>
         obtain ⟨h3,hc⟩ := h2;refine hc.mono fun e w3 ⟨ui,he,h4,h5⟩ => ?_
         subst he;exact next ui w3 (h3.trans h4) (.inl ⟨hw,w1,h1,known_C hknown,by rw [hr];exact ⟨w3,h4,Ext.refl _,h5⟩⟩)
      | halt x w2 => simp only [XSafe] at h2
    · rename_i hw
      have hw' : Region.wanted y (yielded ops (jan ops a0 (fun _ => true) u' i).tmps) = false := by simpa using hw
      exact next undef w1 (Ext.refl _) (.inr ⟨hw',rfl⟩)
   rw [Nat.succ_add];refine ⟨fun hnone => ?_,hdo⟩;exact (ready_some hord hsz (show j0 < ops.size by omega) (by rw [getD_tf (by omega)];exact hl0) hnone).elim
theorem jbz {Q : Exit → Act → World → Prop} {K : Act → World → Prop} {i : Nat} {o : Oper} {a : Act} {v : Value} {w' : World} (ho : ops[i]? = some o) (hg : o.guard = none) (hr : (execOp a.eval o).run P w = .ok (.value v) w') (h : K (a.put o.dst v) w') : wpOp P ops Q i K a w := by
 unfold wpOp;simp only [ho];rw [if_pos (by simp [Region.wanted,hg])];refine .inl ?_;unfold Oper.wp;rw [hr];exact h
def seqB (ops : Array Oper) : List Nat → Array Bool → Bool
 | [],listed => (Region.ready .any ops listed).isEmpty
 | i :: r,listed => (Region.ready .any ops listed == [i]) && seqB ops r (listed.setIfInBounds i true)
theorem wpAny_seq {Q : Exit → Act → World → Prop} : ∀ (idx : List Nat) (l : List Oper) (listed : Array Bool) (a : Act) (w : World),(idx.map fun i => ops[i]?) = l.map some → seqB ops idx listed = true → wpList P ops Q l a w → wpAny P .any ops Q idx.length listed a w
 | [],[],_,_,_,_,hB,h => ⟨by simpa [seqB] using hB,h⟩
 | [],_ :: _,_,_,_,hl,_,_ => by simp at hl
 | _ :: _,[],_,_,_,hl,_,_ => by simp at hl
 | i :: r,o :: l,listed,a,w,hl,hB,h => by
   simp only [List.map_cons,List.cons.injEq] at hl;obtain ⟨h0,hl⟩ := hl;simp only [seqB,Bool.and_eq_true,beq_iff_eq] at hB;obtain ⟨hr,hB'⟩ := hB;refine ⟨fun hn => (by rw [hr] at hn;cases hn),fun j hj => ?_⟩;rw [hr] at hj;obtain rfl : j = i := by simpa using hj
   have ih := fun a w => wpAny_seq (Q := Q) r l (listed.setIfInBounds j true) a w hl hB'
   unfold wpOp;simp only [h0];unfold wpList at h
   split at h
   · rename_i hw
     rw [if_pos hw];rcases h with h | h
     · exact .inl (Oper.wp_mono (fun a w => ih a w) h)
     · exact .inr h
   · rename_i hw
     rw [if_neg hw];exact ih _ _ h
end
section
variable {P : Program} {ops : Array Oper} {Q : Exit → Act → World → Prop} {S : World → Prop} {a : Act} {w : World}
def wpT (P : Program) (ops : Array Oper) (Q : Exit → Act → World → Prop) (S : World → Prop) : Nat → Array Bool → Act → World → Prop
 | 0,listed,a,w => (∀ j ∈ Region.ready .any ops listed,j = ops.size - 1) ∧ wpAny P .any ops Q 1 listed a w
 | n + 1,listed,a,w => Region.ready .any ops listed ≠ [] ∧ ∀ i ∈ Region.ready .any ops listed,i ≠ ops.size - 1 ∧ wpOp P ops Q i (fun a' w' => S w' ∧ wpT P ops Q S n (listed.setIfInBounds i true) a' w') a w
theorem wpAny_of_T : ∀ (n : Nat) (listed : Array Bool) (a : Act) (w : World),wpT P ops Q S n listed a w → wpAny P .any ops Q (n + 1) listed a w
 | 0,_,_,_,h => h.2
 | n + 1,_,_,_,h => ⟨fun h0 => absurd h0 h.1,fun i hi => wpOp_mono (fun a' w' h' => wpAny_of_T n _ a' w' h'.2) (h.2 i hi).2⟩
def closedB (ops : Array Oper) (listed : Array Bool) : Bool :=
 (List.range ops.size).all fun j => !listed.getD j false || (match ops[j]? with | some o => o.after.all fun e => !Region.binds .any e || listed.getD e.on false | none => true)
theorem closed_of {listed : Array Bool} (h : closedB ops listed = true) : Closed .any ops listed := by
 intro j o ho hj e he hb;have h1 := List.all_eq_true.1 h j (by simpa using (Array.getElem?_eq_some_iff.1 ho).1);simp only [hj,Bool.not_true,Bool.false_or,ho] at h1;have h2 := Array.all_eq_true_iff_forall_mem.1 h1 e he
 simpa [hb] using h2
theorem closed_set {listed : Array Bool} {i : Nat} (hc : Closed .any ops listed) (hi : i ∈ Region.ready .any ops listed) : Closed .any ops (listed.setIfInBounds i true) := by
 obtain ⟨_,o,ho,hall⟩ := mem_ready.1 hi;intro j o' ho' hj e he hb
 by_cases hji : j = i
 · subst hji
   rw [ho] at ho';cases ho';exact Go.getD_set_true (hall e he hb)
 · rw [Go.getD_set_ne false (fun h' => hji h'.symm)] at hj
   exact Go.getD_set_true (hc j o' ho' hj e he hb)
theorem last_waits {listed : Array Bool} {i : Nat} (hc : Closed .any ops listed) (hi : i ∈ Region.ready .any ops listed) (hL : i ∈ ancs .any ops ops.size (ops.size - 1)) : ops.size - 1 ∉ Region.ready .any ops listed := by
 intro h;obtain ⟨_,o,ho,hall⟩ := mem_ready.1 h;have h1 := ancs_listed hc ops.size (ops.size - 1) (fun o' ho' => by rw [ho] at ho';cases ho';exact hall) i hL;have h2 := (mem_ready.1 hi).1
 have h3 : i < listed.size := by
  rcases Nat.lt_or_ge i listed.size with h' | h'
  · exact h'
  · simp [h'] at h1
 rw [getD_tf h3,h1] at h2;cases h2
theorem wpT_first {i : Nat} {oi : Oper} {v : Value} (hi : ops[i]? = some oi) (hsel : ∀ (j : Nat) (o : Oper) cs b,ops[j]? = some o → o.op ≠ .select cs b)
 (hQ : ∀ c a w,Q (.panic c) (a.put oi.dst v) w → Q (.panic c) a w) (hiL : i ≠ ops.size - 1) (hL : i ∈ ancs .any ops ops.size (ops.size - 1)) :
 ∀ (fuel : Nat) (listed : Array Bool) (a : Act) (w : World),Closed .any ops listed →
   (∀ j oj,ops[j]? = some oj → j ≠ i → listed.getD j true = false → (∀ e ∈ oj.after,Region.binds .any e = true → e.on ≠ i) → oi.apart ops oj = true) →
   i ∈ Region.ready .any ops listed → YieldsIf P ops S oi v a → S w →
   wpT P ops Q S fuel (listed.setIfInBounds i true) (a.put oi.dst v) w → wpT P ops Q S (fuel + 1) listed a w := by
 intro fuel
 induction fuel with
 | zero =>
   intro listed a w hc _ hr hy hS H;refine ⟨fun h => (by rw [h] at hr;cases hr),fun j hj => ?_⟩
   by_cases hji : j = i
   · subst hji;exact ⟨hiL,hy.wpOp hi hS ⟨hS,H⟩⟩
   · have h1 := H.1 j (ready_mono hj hji)
     subst h1;exact (last_waits hc hr hL hj).elim
 | succ fuel ih =>
   intro listed a w hc hfree hr hy hS H;refine ⟨fun h => (by rw [h] at hr;cases hr),fun j hj => ?_⟩
   by_cases hji : j = i
   · subst hji;exact ⟨hiL,hy.wpOp hi hS ⟨hS,H⟩⟩
   · have hjL : j ≠ ops.size - 1 := fun h => last_waits hc hr hL (h ▸ hj)
     refine ⟨hjL,?_⟩;have h1 := (H.2 j (ready_mono hj hji)).2;obtain ⟨hjun,oj,hoj,hall⟩ := mem_ready.1 hj
     have hnot : ∀ e ∈ oj.after,Region.binds .any e = true → e.on ≠ i := fun e he hb heq => by
      have h1 := hall e he hb;have h0 := (mem_ready.1 hr).1;rw [heq] at h1;rcases Nat.lt_or_ge i listed.size with h' | h'
      · rw [getD_tf h',h1] at h0;cases h0
      · simp [h'] at h1
     have h2 := wpOp_putIf hoj (hfree j oj hoj hji hjun hnot) (fun cs b => hsel i oi cs b hi) (fun cs b => hsel j oj cs b hoj) hQ hy h1
     have hfree' : ∀ k ok,ops[k]? = some ok → k ≠ i → (listed.setIfInBounds j true).getD k true = false →
      (∀ e ∈ ok.after,Region.binds .any e = true → e.on ≠ i) → oi.apart ops ok = true := fun k ok hk hki hun hno => by
      refine hfree k ok hk hki ?_ hno
      by_cases hjk : j = k
      · subst hjk;exact hjun
      · rw [Go.getD_set_ne true hjk] at hun;exact hun
     refine wpOp_mono (fun a' w' h3 => ⟨h3.2.1,ih (listed.setIfInBounds j true) a' w' (closed_set hc hj) hfree' (ready_mono hr (Ne.symm hji)) h3.1 h3.2.1 ?_⟩) h2;rw [Array.setIfInBounds_comm _ _ hji];exact h3.2.2
def takeB (ops : Array Oper) (listed : Array Bool) (k : Nat) : Bool :=
 Region.noSelect ops && Region.free .any ops listed k && (Region.ready .any ops listed).contains k && closedB ops listed && (k != ops.size - 1) && (ancs .any ops ops.size (ops.size - 1)).contains k
theorem jal {n k : Nat} {listed : Array Bool} {o : Oper} (v : Value) (hB : takeB ops listed k = true) (ho : ops[k]? = some o) (hg : o.guard = none)
 (hQ : ∀ c a w,Q (.panic c) (a.put o.dst v) w → Q (.panic c) a w) (hS : S w) (hr : ∀ W,S W → (execOp a.eval o).run P W = .ok (.value v) W)
 (h : wpT P ops Q S n (listed.setIfInBounds k true) (a.put o.dst v) w) : wpT P ops Q S (n + 1) listed a w := by
 simp only [takeB,Bool.and_eq_true,bne_iff_ne,ne_eq] at hB;obtain ⟨⟨⟨⟨⟨h1,h2⟩,h3⟩,h4⟩,h5⟩,h6⟩ := hB;exact wpT_first ho (Region.noSelect_spec h1) hQ h5 (by simpa using h6) n listed a w (closed_of h4) (Region.free_spec ho h2) (by simpa using h3) (.inl ⟨by simp [Region.wanted,hg],hr⟩) hS h
theorem jbh {n k : Nat} {listed : Array Bool} (hB : (Region.ready .any ops listed == [k] && k != ops.size - 1) = true) (h : wpOp P ops Q k (fun a' w' => S w' ∧ wpT P ops Q S n (listed.setIfInBounds k true) a' w') a w) : wpT P ops Q S (n + 1) listed a w := by
 simp only [Bool.and_eq_true,beq_iff_eq,bne_iff_ne,ne_eq] at hB;obtain ⟨h1,h2⟩ := hB;refine ⟨by rw [h1];simp,fun i hi => ?_⟩;rw [h1] at hi;obtain rfl : i = k := by simpa using hi
 exact ⟨h2,h⟩
theorem hs_last {k : Nat} {listed : Array Bool} {o : Oper} (hB : (Region.ready .any ops listed == [k] && k == ops.size - 1 && seqB ops [k] listed) = true) (ho : ops[k]? = some o) (h : wpList P ops Q [o] a w) : wpT P ops Q S 0 listed a w := by
 simp only [Bool.and_eq_true,beq_iff_eq] at hB;obtain ⟨⟨h1,h2⟩,h3⟩ := hB;refine ⟨fun j hj => ?_,wpAny_seq [k] [o] listed a w (by simp [ho]) h3 h⟩;rw [h1] at hj;rw [← h2];simpa using hj
theorem jbq {id n : Nat} {l : List Oper} (hm : P.follows .mixedOrders = true) (hn : l.length = n + 1) (h : wpT P l.toArray Q S n (Array.replicate (n + 1) false) a w.drew) : (Code.region id l.toArray true).wp P Q a w := by
 refine wp_region_any hm ?_;have := wpAny_of_T n _ _ _ h;rw [← hn] at this
 simpa using this
theorem wpOp_call {K : Act → World → Prop} {i : Nat} {o : Oper} {f : FuncId} {fn : Func} {xs : Array Operand} {ts : Array TypeId} {args : Array Value} {R : Ending → World → Prop} (hoi : ops[i]? = some o) (hg : o.guard = none) (ho : o.op = .call { callee := .value (.func f),args := xs,argTypes := ts })
 (hf : P.funcs[f]? = some fn) (hb : fn.body.isNone = false) (hn : (fn.name == "runtime.NumGoroutine") = false) (hargs : xs.map a.eval = args) (hc : Calls P f args w R)
 (h : ∀ e w',R e w' → ∃ u,e = .returned u ∧ K (a.put o.dst u) w') : wpOp P ops Q i K a w := by
 unfold wpOp;simp only [hoi];rw [if_pos (by simp [Region.wanted,hg])];refine .inl ?_;unfold Oper.wp;rw [run_callf ho hf hb hn hargs];refine hc.mono fun e w' he => ?_
 obtain ⟨u,rfl,h1⟩ := h e w' he;exact h1
theorem wpOp_ap {K : Act → World → Prop} {i : Nat} {o : Oper} {t e s b : Nat} {z : Value} [T : SlTy P t e s z b] {x1 x2 : Operand} {v : Value} {B n m c : Nat} {vs us : List Value} {q : Addr} (hoi : ops[i]? = some o) (hg : o.guard = none)
 (ho : o.op = .call { callee := .builtin .append,args := #[x1,x2],argTypes := #[t,t] }) (hx1 : a.eval x1 = v) (hx2 : a.eval x2 = .slice (some q) m c) (how : w.ownsRow B e s v n vs) (hc : Cs w (some q) us) (hm : us.length = m * s) (h1 : ∀ u ∈ us,u.oneCell' = true)
 (hn : n + m ≤ maxLen) (hb : (n + m) * b ≤ 140737488355328) (hB : B ≤ w.heap.size)
 (h : ∀ v' w',w'.ownsRow B e s v' (n + m) (vs ++ us) → w.grownBy w' v.ownBlock → K (a.put o.dst v') w') : wpOp P ops Q i K a w := by
 obtain ⟨ti,hi,hzz⟩ := Option.map_eq_some_iff.1 T.inf;simp only [Prod.mk.injEq] at hzz;obtain ⟨v',w',hr,h2,h3,_⟩ := run_append_own (P := P) (w := w) B t o.type e ti z s b T.und hi hzz.1 hzz.2.1 hzz.2.2 T.zs T.pos v n vs how q m c us hm (fun j u hj => hc.cell j u hj) h1 hn hb hB;exact jbz hoi hg (by simp [execOp,ho,resolve,invoke,builtin,hx1,hx2,hr]) (h v' w' h2 h3)
end
theorem own_valZ {w : World} {B te s n : Nat} {v : Value} {xs : List Value} (h : w.ownsRow B te s v n xs) : ∃ q k,v = .slice q n k := by
 rcases h.2 with ⟨rfl,rfl⟩ | ⟨g,cap,cur,rfl,_⟩
 · exact ⟨none,0,rfl⟩
 · exact ⟨_,_,rfl⟩
section
variable {P : Program} {ops : Array Oper} {Q : Exit → Act → World → Prop} {S : World → Prop} {a : Act} {w : World}
theorem hd_idx {t e s b : Nat} {z : Value} [SlTy P t e s z b] {n k : Nat} {listed : Array Bool} {o : Oper} {x ix : Operand} {p : Option Addr} {m c j : Nat} {kk : IntKind} (hB : takeB ops listed k = true) (ho : ops[k]? = some o) (hg : o.guard = none) (hop : o.op = .indexAddr t x ix)
 (hQ : ∀ c a w v,Q (.panic c) (a.put o.dst v) w → Q (.panic c) a w) (hS : S w) (hx : a.eval x = .slice p m c) (hi : a.eval ix = .int kk (j : Int)) (hp : p.isSome = true) (hj : j < m)
 (h : wpT P ops Q S n (listed.setIfInBounds k true) (a.put o.dst (.pointer (some (adr p (j * s))))) w) : wpT P ops Q S (n + 1) listed a w :=
 jal (.pointer (some (adr p (j * s)))) hB ho hg (fun c a w h => hQ c a w _ h) hS (fun W _ => by
  have h1 := run_indexAt (P := P) (t := t) (w := W) (c := c) (k := kk) hp (show (0 : Int) ≤ (j : Int) by omega) (show (j : Int) < m by omega);rw [Int.toNat_natCast] at h1;simp [execOp,hop,hx,hi,h1]) h
theorem hd_fld {n k : Nat} {listed : Array Bool} {o : Oper} {t f off : Nat} {x : Operand} {q : Addr} (hB : takeB ops listed k = true) (ho : ops[k]? = some o) (hg : o.guard = none) (hop : o.op = .fieldAddr t x f)
 (hfo : ∀ (q : Addr) (w : World),(Instr.fieldAt t (.pointer (some q)) f).run P w = .ok (.pointer (some (q.add off))) w)
 (hQ : ∀ c a w v,Q (.panic c) (a.put o.dst v) w → Q (.panic c) a w) (hS : S w) (hx : a.eval x = .pointer (some q))
 (h : wpT P ops Q S n (listed.setIfInBounds k true) (a.put o.dst (.pointer (some (q.add off)))) w) : wpT P ops Q S (n + 1) listed a w :=
 jal (.pointer (some (q.add off))) hB ho hg (fun c a w h => hQ c a w _ h) hS (fun W _ => by simp [execOp,hop,hx,hfo]) h
theorem hd_ld {n k : Nat} {listed : Array Bool} {o : Oper} {t : TypeId} [Cell1 P t] {x : Operand} {q : Addr} {v : Value} (hB : takeB ops listed k = true) (ho : ops[k]? = some o) (hg : o.guard = none) (hop : o.op = .load t x)
 (hQ : ∀ c a w v,Q (.panic c) (a.put o.dst v) w → Q (.panic c) a w) (hS : S w) (hx : a.eval x = .pointer (some q)) (hc : ∀ W,S W → W.cell? q = some v)
 (h : wpT P ops Q S n (listed.setIfInBounds k true) (a.put o.dst v) w) : wpT P ops Q S (n + 1) listed a w :=
 jal v hB ho hg (fun c a w h => hQ c a w _ h) hS (fun W hW => by simp [execOp,hop,hx,run_load1 (hc W hW)]) h
theorem wl_stO {rest : List Oper} {o : Oper} {tf : TypeId} [Cell1 P tf] {x y : Operand} (hg : o.guard = none) (ho : o.op = .store tf x y) {g n c B e s j off : Nat} {u : Value} (hx : a.eval x = .pointer (some ⟨g,j * s + off,none⟩)) (hy : a.eval y = u) (hu1 : u.oneCell' = true) {css : List (List Value)}
 (hc : w.ownsRow B e s (.slice (some ⟨g,0,none⟩) n c) n css.flatten) (hall : ∀ c ∈ css,c.length = s) (hvn : css.length = n) (hj : j < n) (hoff : off < s) {cs : List Value} (hcs : css[j]? = some cs)
 (h : ∀ w',w'.ownsRow B e s (.slice (some ⟨g,0,none⟩) n c) n (css.set j (cs.set off u)).flatten → w.grownBy w' (some g) → wpList P ops Q rest (a.put o.dst undef) w') : wpList P ops Q (o :: rest) a w := by
 have hj' : j < css.length := by omega
 obtain ⟨_,rfl⟩ := List.getElem?_eq_some_iff.1 hcs
 have hlt : j * s + off < n * s := by
  have : (j + 1) * s ≤ n * s := Nat.mul_le_mul_right s hj;rw [Nat.add_mul] at this;omega
 have hlen := flat_len hall;rw [hvn] at hlen
 have hcell : w.cell? ⟨g,j * s + off,none⟩ = some (css.flatten[j * s + off]'(by omega)) := by
  rw [hc.cellAt _ hlt];simp [hlen,hlt]
 have hfr := hc.frozenAt (j * s + off);have hst := hc.stored (j * s + off) u;rw [flat_set hall hj' hoff] at hst;refine wl_skip hg (w' := w.setCell ⟨g,j * s + off,none⟩ u) ?_ (h _ hst.1 hst.2);simp [execOp,ho,hx,hy,run_store1 hcell hfr hu1]
end
theorem own_set0 {w : World} {cs : List Value} {d : jaa.T} {bs : List Nat} (z : Int) (h : Own w jaa cs d bs) : Own w jaa (cs.set 0 (.int .i64 z)) (z,d.2) bs := by
 obtain ⟨ca,cb,ba,bb,rfl,⟨rfl,rfl⟩,h2,rfl⟩ := h;exact ⟨[.int .i64 z],cb,[],_,rfl,⟨rfl,rfl⟩,h2,rfl⟩
theorem own_set1 {w : World} {cs : List Value} {d : jaa.T} {bs : List Nat} (z : Int) (h : Own w jaa cs d bs) : Own w jaa (cs.set 1 (.int .i64 z)) (d.1,z,d.2.2) bs := by
 obtain ⟨ca,cb,ba,bb,rfl,⟨rfl,rfl⟩,⟨cc,cd,bc,bd,h3,⟨rfl,rfl⟩,h4,rfl⟩,rfl⟩ := h;subst h3;exact ⟨[.int .i64 d.1],[.int .i64 z] ++ cd,[],_,rfl,⟨rfl,rfl⟩,⟨[.int .i64 z],cd,[],_,rfl,⟨rfl,rfl⟩,h4,rfl⟩,rfl⟩
theorem GrowOwn.setEl {w w' : World} {B n c g : Nat} {L : List jaa.T} {css : List (List Value)} {bss : List (List Nat)} (h : GrowOwn w B 41 jaa (.slice (some ⟨g,0,none⟩) n c) L css bss) (hn : L.length = n) (gr : w.grownBy w' (some g)) {y : Nat} {cs' : List Value} {d' : jaa.T}
 (row : w'.ownsRow B 41 5 (.slice (some ⟨g,0,none⟩) n c) n (css.set y cs').flatten) (hy : y < n) (ho : ∀ W cs d bs,css[y]? = some cs → L[y]? = some d → bss[y]? = some bs → Own W jaa cs d bs → Own W jaa cs' d' bs) :
 GrowOwn w' B 41 jaa (.slice (some ⟨g,0,none⟩) n c) (L.set y d') (css.set y cs') bss := by
 have ch : Chg (fun k => some k = some g) w w' := Chg.of_grown gr;have e1 := h.els.chg ch (fun b hb hk => (h.lo b hb).2 (show some g = some b by rw [hk]));refine ⟨by rw [List.length_set,hn];exact row,⟨by rw [List.length_set,List.length_set];exact e1.1,by rw [List.length_set];exact e1.2.1,fun i cs bs d h1 h2 h3 => ?_⟩,h.nodup,h.lo⟩
 by_cases hi : y = i
 · subst hi
   have hc : y < css.length := by rw [e1.1,hn];exact hy
   have hb : y < bss.length := by rw [e1.2.1,hn];exact hy
   have hl : y < L.length := by omega
   rw [List.getElem?_set_self hc] at h1;rw [List.getElem?_set_self hl] at h3
   cases h1;cases h3
   have hcs : css[y]? = some css[y] := by simp
   have hd : L[y]? = some L[y] := by simp
   exact ho w' _ _ _ hcs hd h2 (e1.2.2 y _ _ _ hcs h2 hd)
 · rw [List.getElem?_set_ne hi] at h1 h3
   exact e1.2.2 i cs bs d h1 h2 h3
theorem mod_bad {L : List jaa.T} {y : Nat} {d : jaa.T} (hd : L[y]? = some d) (hb : layD d = false) : modB L = false := by
 cases h : modB L with
 | false => rfl
 | true =>
   obtain ⟨hi,rfl⟩ := List.getElem?_eq_some_iff.1 hd;exact absurd (hb.symm.trans ((modOk h).lay y hi)) (by decide)
theorem goodL_of {i0 : Int} {L : List jaa.T} (h : modB L = true) (hf : Fit (.sl jaa) L) : GoodL i0 L := by
 have hM := modOk h;have hp := hM.pos;have hl := hM.lay (L.length - 1) (by omega);have e := outL_last hp i0;obtain ⟨O,hO,h1,h8⟩ := outL_nat hM;unfold modB at h;simp only [Bool.and_eq_true] at h;exact ⟨h.2.2,by rw [← e,← hO];omega,by rw [← e,← hO];omega,hf⟩
theorem fit_set {L : List jaa.T} {y : Nat} {d : jaa.T} (h : Fit (.sl jaa) L) (hd : Fit jaa d) : Fit (.sl jaa) (L.set y d) := by
 intro x hx;rcases List.mem_or_eq_of_mem_set hx with h1 | rfl
 · exact h x h1
 · exact hd
def AnyMod (sb K : Nat) (w : World) (e : Ending) (w' : World) : Prop :=
 ∃ (L : List jaa.T) (q : Option Addr) (c : Nat),e = .returned (.agg #[.slice q L.length c]) ∧ Fit (.sl jaa) L ∧ (∀ W,Chg (fun b => b < w.heap.size) w' W → Rep W (.sl jaa) [.slice q L.length c] L) ∧
   (modB L = true → ∃ (B : Nat) (cs : List (List Value)) (bss : List (List Nat)),w.heap.size ≤ B ∧ B ≤ w'.heap.size ∧ GrowOwn w' B 41 jaa (.slice q L.length c) L cs bss ∧ Tys w' [33] bss.flatten) ∧ DrAt w' sb K ∧ Chg (fun b => b = sb) w w'
theorem AnyMod.of {sb K : Nat} {w w' : World} {e : Ending} {L : List jaa.T} {q : Option Addr} {c B n : Nat} {cs : List (List Value)} {bss : List (List Nat)} (he : e = .returned (.agg #[.slice q n c])) (hn : L.length = n) (hf : Fit (.sl jaa) L) (hB : w.heap.size ≤ B) (hB2 : B ≤ w'.heap.size) (G : GrowOwn w' B 41 jaa (.slice q n c) L cs bss) (T : Tys w' [33] bss.flatten) (hd : DrAt w' sb K) (hc : Chg (fun b => b = sb) w w') : AnyMod sb K w e w' := by
 subst hn;exact ⟨L,q,c,he,hf,fun W hk => by obtain ⟨bs,o,_,_⟩ := (G.chgB hk (fun b hb => by omega)).own;exact o.rep,fun _ => ⟨B,cs,bss,hB,hB2,G,T⟩,hd,hc⟩
def off (L : List jaa.T) (j : Nat) : Nat := (parF (L.take j)).length
end Go.Proofs.Ytmbckkcgiafagaa
