/- A part of the proofs: RgL, RgE, TnI7. -/
import Derived.Test.YtmbckkcgiafagaaRgFnMo
import Derived.OrdersHeld
import Derived.Test.YtmbckkcgiafagaaZ11FnMode
import Derived.Laws.CopyRow
import Derived.Test.YtmbckkcgiafagaaZ14FnMode
set_option linter.unusedSimpArgs false
set_option linter.unusedVariables false
set_option maxRecDepth 100000
set_option maxHeartbeats 16000000
namespace Go.Proofs.Ytmbckkcgiafagaa
open Go.RowKit
section
variable {P : Program} {ops : Array Oper} {F : Option Tmp → World → World → Value → Prop} {w : World}
def markedX (X : Nat → Bool) (n N : Nat) : Array Bool := (Array.range n).map fun i => decide (i < N) || X i
theorem getD_set_true {l : Array Bool} {i j : Nat} (h : l.getD j false = true) : (l.setIfInBounds i true).getD j false = true := by
 by_cases hj : j = i
 · subst hj
   rcases Nat.lt_or_ge j l.size with h' | h'
   · simp [h']
   · simp [h'] at h
 · simp only [Array.getD_eq_getD_getElem?,Array.getElem?_setIfInBounds,if_neg (Ne.symm hj)] at h ⊢
   exact h
theorem wpX_anyL {Q : Exit → Act → World → Prop} {N R : Nat} {a0 : Act} {X L : Nat → Bool} {I : World → Prop} (hI : ∀ a b,I a → Ext a b → I b) (hns : Region.noSelect ops = true) (hap : apartB .any ops N = true) (hN : N ≤ ops.size) (hXN : ∀ j,X j = true → N ≤ j ∧ j < ops.size) (hbar : ∀ i,i < ops.size → N ≤ i → X i = false → L i = false → ∀ j,j < N → j ∈ ancs .any ops ops.size i)
 (h : ∀ wf,Ext w wf → I wf → wpX P ops F w wf (fun a' => wpAny P .any ops Q R (markedX X ops.size N) a' wf) (ops.toList.take N) a0)
 (hL : ∀ (n : Nat) (listed : Array Bool) (u : Nat → Value) (w1 : World) (i : Nat),L i = true → i ∈ Region.ready .any ops listed → listed.size = ops.size → Closed .any ops listed → (∀ j,N ≤ j → listed.getD j true = true → X j = true ∨ ops.size ≤ j) → (∀ j,X j = true → listed.getD j false = true) → Ext w w1 → I w1 →
  ((List.range N).filter fun i => !listed.getD i false).length = n + 1 → (∀ j o,j < N → listed.getD j false = true → ops[j]? = some o → xOut P ops F w w1 o (jaw ops a0 (fun _ => true) u j) (u j)) →
  wpOp P ops Q i (wpAny P .any ops Q (n + R) (listed.setIfInBounds i true)) (jaw ops a0 (fun i => listed.getD i false) u N) w1) :
 ∀ (fuel : Nat) (listed : Array Bool) (u : Nat → Value) (w1 : World),listed.size = ops.size → Closed .any ops listed → (∀ j,N ≤ j → listed.getD j true = true → X j = true ∨ ops.size ≤ j) → (∀ j,X j = true → listed.getD j false = true) → Ext w w1 → I w1 →
   ((List.range N).filter fun i => !listed.getD i false).length = fuel →
   (∀ j o,j < N → listed.getD j false = true → ops[j]? = some o → xOut P ops F w w1 o (jaw ops a0 (fun _ => true) u j) (u j)) →
   wpAny P .any ops Q (fuel + R) listed (jaw ops a0 (fun i => listed.getD i false) u N) w1 := by
 simp only [apartB,Bool.and_eq_true] at hap;obtain ⟨hord,hap⟩ := hap;have hsel := fun (j : Nat) (o : Oper) cs b (ho : ops[j]? = some o) => Region.noSelect_spec hns j o cs b ho
 have hll : (ops.toList.take N).length = N := by simp;omega
 have hlo : ∀ i,i < (ops.toList.take N).length → (ops.toList.take N)[i]? = ops[i]? := by
  intro i hi;rw [hll] at hi;rw [List.getElem?_take_of_lt hi];simp
 have hat : ∀ i,i < N → ∃ o,ops[i]? = some o := fun i hi => ⟨ops[i],by simp [show i < ops.size by omega]⟩
 have hdep : ∀ j o,ops[j]? = some o → ∀ e ∈ o.after,Region.binds .any e = true → e.on < j := by
  intro j o ho e he hb;have hj := (Array.getElem?_eq_some_iff.1 ho).1;have h2 := List.all_eq_true.1 hord j (by simpa using hj);simp only [ho] at h2;have h3 := (Array.all_eq_true_iff_forall_mem.1 h2) e he
  simpa [hb] using h3
 -- two places before N
 have hpair : ∀ i j x y,i < j → j < N → ops[i]? = some x → ops[j]? = some y → ((∃ e ∈ y.after,Region.binds .any e = true ∧ e.on = i) ∨ y.apart ops x = true) ∧ (∀ d,x.dst = some d → y.dst ≠ some d) := by
  intro i j x y hij hj hx hy;have h2 := List.all_eq_true.1 (List.all_eq_true.1 hap j (by simpa using hj)) i (by simpa using hij);simp only [hx,hy,Bool.and_eq_true,Bool.or_eq_true,Array.any_eq_true',beq_iff_eq,Option.isNone_iff_eq_none,bne_iff_ne,ne_eq] at h2;obtain ⟨h3,h4⟩ := h2;refine ⟨?_,fun d hd hd' => ?_⟩
  · rcases h3 with ⟨e,he,hb,hon⟩ | h3
    · exact .inl ⟨e,he,hb,hon⟩
    · exact .inr h3
  · rcases h4 with h4 | h4
    · rw [hd] at h4;cases h4
    · exact h4 (by rw [hd,hd'])
 have hdst : ∀ i j d,i < N → j < N → i ≠ j → jb3 ops i = some d → jb3 ops j ≠ some d := by
  intro i j d hi hj hne h1 h2;obtain ⟨x,hx⟩ := hat i hi;obtain ⟨y,hy⟩ := hat j hj;simp only [jb3,hx,hy,Option.bind_some] at h1 h2;rcases Nat.lt_or_ge i j with h' | h'
  · exact (hpair i j x y h' hj hx hy).2 d h1 h2
  · exact (hpair j i y x (by omega) hi hy hx).2 d h2 h1
 -- what an operation looks at and an earlier one leaves,it waits for
 have hlook : ∀ i j y d,i < j → j < N → ops[j]? = some y → jb3 ops i = some d → d ∈ y.looksAt ops → ∃ e ∈ y.after,Region.binds .any e = true ∧ e.on = i := by
  intro i j y d hij hj hy hd hm;obtain ⟨x,hx⟩ := hat i (by omega);rcases (hpair i j x y hij hj hx hy).1 with h' | h'
  · exact h'
  · simp only [jb3,hx,Option.bind_some] at hd
    exact ((Oper.apart_spec h').2.2 d hd hm).elim
 have hlook2 : ∀ i j x d,i < j → j < N → ops[i]? = some x → jb3 ops j = some d → d ∈ x.looksAt ops → ∃ y,ops[j]? = some y ∧ ∃ e ∈ y.after,Region.binds .any e = true ∧ e.on = i := by
  intro i j x d hij hj hx hd hm;obtain ⟨y,hy⟩ := hat j hj;rcases (hpair i j x y hij hj hx hy).1 with h' | h'
  · exact ⟨y,hy,h'⟩
  · simp only [jb3,hy,Option.bind_some] at hd
    exact ((Oper.apart_spec h').1 d hd hm).elim
 have hmove : ∀ j o (v v' : Nat → Value),j < N → ops[j]? = some o → (∀ e ∈ o.after,Region.binds .any e = true → v e.on = v' e.on) → AgreeOn (o.looksAt ops) (jaw ops a0 (fun _ => true) v j) (jaw ops a0 (fun _ => true) v' j) ∧ AgreeOn (waits ops o) (jaw ops a0 (fun _ => true) v j) (jaw ops a0 (fun _ => true) v' j) ∧ (jaw ops a0 (fun _ => true) v j).tmps.size = (jaw ops a0 (fun _ => true) v' j).tmps.size := by
  intro j o v v' hj ho hv;refine ⟨fun t ht => ?_,fun t ht => ?_,by rw [jbm,jbm]⟩
  · refine jch j fun i hi hd => ⟨rfl,fun _ => ?_⟩
    obtain ⟨e,he,hb,rfl⟩ := hlook i j o t hi hj ho hd ht;exact hv e he hb
  · obtain ⟨e,he,hb,hed⟩ := mem_waits.1 ht
    have hej := hdep j o ho e he hb;refine jch j fun i hi hd => ⟨rfl,fun _ => ?_⟩
    by_cases hie : i = e.on
    · subst hie;exact hv e he hb
    · exact (hdst e.on i t (by omega) (by omega) (Ne.symm hie) hed hd).elim
 intro fuel
 induction fuel with
 | zero =>
   intro listed u w1 hsz hcl hlate hXl h1 hi1 hlen hx
   have hall0 : ∀ i,i < N → listed.getD i false = true := by
    intro i hi;have := List.eq_nil_of_length_eq_zero hlen;rw [List.filter_eq_nil_iff] at this;have := this i (by simpa using hi)
    simpa using this
   have hq := wpX_feed (u := u) hlo (h w1 h1 hi1) N (by omega) (fun j o hj ho => hx j o hj (hall0 j hj) ho);rw [List.drop_of_length_le (by omega)] at hq
   have hall : listed = markedX X ops.size N := by
    apply Array.ext
    · simp [markedX,hsz]
    · intro i hi hi'
      by_cases hiN : i < N
      · have := hall0 i hiN
        simp [hi] at this;simp [markedX,hiN,this]
      · by_cases hl : listed.getD i true = true
        · rcases hlate i (by omega) hl with h' | h'
          · simp [hi] at hl
            simp [markedX,hiN,hl,h']
          · omega
        · have hXi : X i = false := by
           cases hXi : X i with
           | false => rfl
           | true => have := hXl i hXi;rw [getD_tf hi] at hl;exact (hl this).elim
          simp [hi] at hl;simp [markedX,hiN,hl,hXi]
   rw [Nat.zero_add,jbs (ops := ops) (q := fun _ => true) (u' := u) N fun i hi => ⟨hall0 i hi,fun _ => rfl⟩,hall];exact hq
 | succ fuel ih =>
   intro listed u w1 hsz hcl hlate hXl h1 hi1 hlen hx
   have hunl : ∃ j,j < N ∧ listed.getD j false = false := by
    cases hr : (List.range N).filter fun i => !listed.getD i false with
    | nil => rw [hr] at hlen;simp at hlen
    | cons j l =>
      have hm : j ∈ (List.range N).filter fun i => !listed.getD i false := by rw [hr];simp
      rw [List.mem_filter] at hm;exact ⟨j,by simpa using hm.1,by simpa using hm.2⟩
   obtain ⟨j0,hj0,hl0⟩ := hunl
   have hready : ∀ i ∈ Region.ready .any ops listed,i < N ∨ L i = true := by
    intro i hi;rcases Nat.lt_or_ge i N with h' | h'
    · exact .inl h'
    · obtain ⟨hun,o,ho,hall⟩ := mem_ready.1 hi
      have hio : i < ops.size := (Array.getElem?_eq_some_iff.1 ho).1
      have hXi : X i = false := by
       cases hXi : X i with
       | false => rfl
       | true => have := hXl i hXi;rw [getD_tf (by omega)] at hun;rw [hun] at this;cases this
      cases hLi : L i with
      | true => exact .inr rfl
      | false =>
        have hc := hbar i hio h' hXi hLi j0 hj0;have := ancs_listed hcl ops.size i (fun o' ho' => by rw [ho] at ho';cases ho';exact hall) j0 hc;rw [this] at hl0;cases hl0
   -- those that have not come up yet,run as the text has them,up to place k
   have hhyp : ∀ k,k ≤ N → ∃ (u' : Nat → Value) (v : World),(∀ j,listed.getD j false = true → u' j = u j) ∧ Ext w1 v ∧ ∀ j o,j < k → ops[j]? = some o → xOut P ops F w v o (jaw ops a0 (fun _ => true) u' j) (u' j) := by
    intro k
    induction k with
    | zero => exact fun _ => ⟨u,w1,fun _ _ => rfl,Ext.refl _,fun j o hj => by omega⟩
    | succ k ihk =>
      intro hk;obtain ⟨u',v,hu',hv,hxs⟩ := ihk (by omega);obtain ⟨o,ho⟩ := hat k (by omega)
      by_cases hlk : listed.getD k false = true
      · refine ⟨u',v,hu',hv,fun j o' hj ho' => ?_⟩
        by_cases hjk : j = k
        · subst hjk
          rw [ho] at ho';cases ho';rw [hu' j hlk];refine jci (fun cs b => hsel j o cs b ho) (hmove j o u u' (by omega) ho fun e he hb => ?_) (xOut_mono (hx j o (by omega) hlk ho) hv);exact (hu' e.on (hcl j o ho hlk e he hb)).symm
        · exact hxs j o' (by omega) ho'
      · have hfeed := wpX_feed (u := u') hlo (h v (h1.trans hv) (hI _ _ hi1 hv)) k (by omega) (fun j o hj ho => hxs j o hj ho)
        have hlk2 : k < (ops.toList.take N).length := by omega
        rw [List.drop_eq_getElem_cons hlk2] at hfeed
        have hok : (ops.toList.take N)[k] = o := by
         have := hlo k hlk2;rw [ho,List.getElem?_eq_getElem hlk2] at this;exact Option.some.inj this
        rw [hok] at hfeed
        obtain ⟨uk,v2,hv2,hxk⟩ := hfeed.1.some v (h1.trans hv) (fun e he hb x d hxo hd hr => by
         have hek := hdep k o ho e he hb;refine ⟨jaw ops a0 (fun _ => true) u' e.on,?_⟩
         · have hat1 := actsP_at (ops := ops) (a := a0) (p := fun _ => true) (u := u') (j := e.on) (d := d) (by simp [jb3,hxo,hd]) rfl (by rw [jbm] at hr;exact hr) k hek (fun i hi hne => hdst e.on i d (by omega) (by omega) (Ne.symm hne) (by simp [jb3,hxo,hd]))
           rw [hat1];exact hxs e.on x hek hxo)
        refine ⟨fun j => if j = k then uk else u' j,v2,fun j hj => ?_,hv.trans hv2,fun j o' hj ho' => ?_⟩
        · have : j ≠ k := fun he => hlk (he ▸ hj)
          simp only [if_neg this];exact hu' j hj
        · rw [jbs (ops := ops) (q := fun _ => true) (u' := u') j fun i hi => ⟨rfl,fun _ => by simp [show i ≠ k by omega]⟩]
          by_cases hjk : j = k
          · subst hjk
            rw [ho] at ho';cases ho';simp only [if_true];exact hxk
          · simp only [if_neg hjk]
            exact xOut_mono (hxs j o' (by omega) ho') hv2
   have hdo : ∀ i ∈ Region.ready .any ops listed,wpOp P ops Q i (wpAny P .any ops Q (fuel + R) (listed.setIfInBounds i true)) (jaw ops a0 (fun i => listed.getD i false) u N) w1 := by
    intro i hi;rcases hready i hi with hiN | hLi
    case inr => exact hL fuel listed u w1 i hLi hi hsz hcl hlate hXl h1 hi1 hlen hx
    obtain ⟨hun,y,hy,hall⟩ := mem_ready.1 hi;have his : i < listed.size := by omega
    have hunf : listed.getD i false = false := by rw [← getD_tf his];exact hun
    obtain ⟨u',v,hu',hv,hxs⟩ := hhyp i (by omega);have hfeed := wpX_feed (u := u') hlo (h v (h1.trans hv) (hI _ _ hi1 hv)) i (by omega) (fun j o hj ho => hxs j o hj ho);have hil : i < (ops.toList.take N).length := by omega
    rw [List.drop_eq_getElem_cons hil] at hfeed
    have hoi : (ops.toList.take N)[i] = y := by
     have := hlo i hil;rw [hy,List.getElem?_eq_getElem hil] at this;exact Option.some.inj this
    rw [hoi] at hfeed;have hsafe := hfeed.1
    have hknown : Known P ops F w y (jaw ops a0 (fun _ => true) u' i) w1 := by
     intro e he hb x d hxo hd hr;have hek := hdep i y hy e he hb;have hle := hall e he hb;refine ⟨jaw ops a0 (fun _ => true) u' e.on,?_⟩;have hat1 := actsP_at (ops := ops) (a := a0) (p := fun _ => true) (u := u') (j := e.on) (d := d) (by simp [jb3,hxo,hd]) rfl (by rw [jbm] at hr;exact hr) i hek (fun k hk hne => hdst e.on k d (by omega) (by omega) (Ne.symm hne) (by simp [jb3,hxo,hd]));rw [hat1,hu' e.on hle];have hxe := hx e.on x (by omega) hle hxo;exact jci (fun cs b => hsel e.on x cs b hxo) (hmove e.on x u u' (by omega) hxo fun e' he' hb' => (hu' e'.on (hcl e.on x hxo hle e' he' hb')).symm) hxe
    have hagree : AgreeOn (y.looksAt ops) (jaw ops a0 (fun _ => true) u' i) (jaw ops a0 (fun i => listed.getD i false) u N) := by
     intro t ht
     have e1 : (jaw ops a0 (fun _ => true) u' i).eval (.tmp t) = (jaw ops a0 (fun k => decide (k < i)) u' N).eval (.tmp t) := by
      have : ∀ n,i ≤ n → jaw ops a0 (fun k => decide (k < i)) u' n = jaw ops a0 (fun _ => true) u' i := by
       intro n
       induction n with
       | zero => intro hn;obtain rfl : i = 0 := by omega
                 rfl
       | succ n ihn =>
         intro hn
         by_cases hin : i = n + 1
         · subst hin
           exact jbs _ fun k hk => ⟨by simpa using hk,fun _ => rfl⟩
         · have h2 : decide (n < i) = false := by simp;omega
           have h3 : jaw ops a0 (fun k => decide (k < i)) u' (n + 1) = jaw ops a0 (fun k => decide (k < i)) u' n := by
            conv => lhs;unfold jaw
            simp only [h2,Bool.false_eq_true,if_false]
           rw [h3];exact ihn (by omega)
      rw [this N (by omega)]
     rw [e1];refine jch N fun k hk hd => ?_
     by_cases hki : k < i
     · obtain ⟨e,he,hb,rfl⟩ := hlook k i y t hki hiN hy hd ht
       have hle := hall e he hb;exact ⟨by simp [hki,hle],fun _ => hu' _ hle⟩
     · have hlk : listed.getD k false = false := by
        by_cases hk2 : k = i
        · subst hk2;exact hunf
        · obtain ⟨z,hz,e,he,hb,hon⟩ := hlook2 i k y t (by omega) hk hy hd ht
          cases hlk : listed.getD k false with
          | false => rfl
          | true =>
            have := hcl k z hz hlk e he hb;rw [hon,hunf] at this;cases this
       exact ⟨by simp [hki,hlk],fun h' => by simp [hki] at h'⟩
    have hexec := exec_agree (fun cs b => hsel i y cs b hy) hagree;have hwant := wanted_agree hagree
    have hcl' : Closed .any ops (listed.setIfInBounds i true) := by
     intro j o ho hj e he hb
     by_cases hji : j = i
     · subst hji
       rw [hy] at ho;cases ho;exact getD_set_true (hall e he hb)
     · have : (listed.setIfInBounds i true).getD j false = listed.getD j false := getD_set_ne false (fun h' => hji h'.symm)
       rw [this] at hj;exact getD_set_true (hcl j o ho hj e he hb)
    have hXl' : ∀ j,X j = true → (listed.setIfInBounds i true).getD j false = true := fun j hj => getD_set_true (hXl j hj)
    have hlate' : ∀ j,N ≤ j → (listed.setIfInBounds i true).getD j true = true → X j = true ∨ ops.size ≤ j := by
     intro j hj hjl;rw [getD_set_ne true (by omega)] at hjl;exact hlate j hj hjl
    have hset : ∀ k,(listed.setIfInBounds i true).getD k false = (listed.getD k false || k == i) := by
     intro k
     by_cases hki : k = i
     · subst hki;simp [his]
     · rw [getD_set_ne false (fun h' => hki h'.symm)];simp [hki]
    have hlen' : ((List.range N).filter fun k => !(listed.setIfInBounds i true).getD k false).length = fuel := by
     have hf : ((List.range N).filter fun k => !(listed.setIfInBounds i true).getD k false) = ((List.range N).filter fun k => !listed.getD k false).filter fun k => !(k == i) := by
      rw [List.filter_filter]
      congr 1
      funext k
      rw [hset k]
      cases listed.getD k false <;> cases (k == i) <;> rfl
     have hnd : ((List.range N).filter fun k => !listed.getD k false).Nodup := List.Pairwise.filter _ List.nodup_range
     have hmem : i ∈ (List.range N).filter fun k => !listed.getD k false := by
      rw [List.mem_filter];exact ⟨by simpa using hiN,by rw [hunf];rfl⟩
     rw [hf];have h4 := filter_ne_len hnd hmem;omega
    -- behind it
    have next : ∀ (ui : Value) (w2 : World),Ext w1 w2 → xOut P ops F w w2 y (jaw ops a0 (fun _ => true) u' i) ui →
     wpAny P .any ops Q (fuel + R) (listed.setIfInBounds i true) ((jaw ops a0 (fun i => listed.getD i false) u N).put y.dst ui) w2 := by
     intro ui w2 e2 hxi;have hput := actsP_put (ops := ops) (a := a0) (p := fun k => listed.getD k false) (u := u) (j := i) (v := ui) hunf N hiN (fun k hk hne d h1 h2 => hdst i k d hiN hk (Ne.symm hne) h1 h2);have hdi : jb3 ops i = y.dst := by simp [jb3,hy]
     rw [hdi] at hput;rw [hput,jbs (ops := ops) (q := fun k => (listed.setIfInBounds i true).getD k false) (u' := fun k => if k = i then ui else u k) N fun k hk => ⟨by rw [hset k],fun _ => rfl⟩];refine ih _ _ w2 (by simpa using hsz) hcl' hlate' hXl' (h1.trans e2) (hI _ _ hi1 e2) hlen' fun j o hj hlj ho => ?_
     by_cases hji : j = i
     · subst hji
       rw [hy] at ho;cases ho;simp only [if_true];refine jci (fun cs b => hsel j y cs b hy) (hmove j y u' _ hj hy fun e he hb => ?_) hxi;have := hdep j y hy e he hb;simp only [if_neg (show e.on ≠ j by omega)];exact hu' _ (hall e he hb)
     · have hlj' : listed.getD j false = true := by rw [hset j] at hlj;simpa [hji] using hlj
       simp only [if_neg hji];refine jci (fun cs b => hsel j o cs b ho) (hmove j o u _ hj ho fun e he hb => ?_) (xOut_mono (hx j o hj hlj' ho) e2);have hle := hcl j o ho hlj' e he hb;have : e.on ≠ i := fun hei => by rw [hei,hunf] at hle;cases hle
       simp only [if_neg this]
    unfold wpOp;simp only [hy];rw [← hwant]
    split
    · rename_i hw
      have h2 := hsafe hw w1 h1 hknown;refine .inl ?_;unfold Oper.wp;rw [← hexec];generalize hr : (execOp (jaw ops a0 (fun _ => true) u' i).eval y).run P w1 = r at h2
      cases r with
      | ok n w2 =>
        cases n <;> simp only [XSafe] at h2 <;> simp only [Oper.upon]
        case value ui => exact next ui w2 h2 (.inl ⟨hw,w1,h1,known_C hknown,by rw [hr];exact ⟨rfl,Ext.refl _⟩⟩)
        case skip => exact next undef w2 h2 (.inl ⟨hw,w1,h1,known_C hknown,by rw [hr];exact ⟨rfl,Ext.refl _⟩⟩)
        case enter f args =>
         obtain ⟨h3,hc⟩ := h2;refine hc.mono fun e w3 ⟨ui,he,h4,h5⟩ => ?_
         subst he;exact next ui w3 (h3.trans h4) (.inl ⟨hw,w1,h1,known_C hknown,by rw [hr];exact ⟨w3,h4,Ext.refl _,h5⟩⟩)
      | halt x w2 => simp only [XSafe] at h2
    · rename_i hw
      have hw' : Region.wanted y (yielded ops (jaw ops a0 (fun _ => true) u' i).tmps) = false := by simpa using hw
      exact next undef w1 (Ext.refl _) (.inr ⟨hw',rfl⟩)
   rw [Nat.succ_add];refine ⟨fun hnone => ?_,hdo⟩;exact (ready_some hord hsz (show j0 < ops.size by omega) (by rw [getD_tf (by omega)];exact hl0) hnone).elim
theorem jcp {Q : Exit → Act → World → Prop} {K : Act → World → Prop} {i : Nat} {o : Oper} {a : Act} {v : Value} {w' : World} (ho : ops[i]? = some o) (hg : o.guard = none) (hr : (execOp a.eval o).run P w = .ok (.value v) w') (h : K (a.put o.dst v) w') : wpOp P ops Q i K a w := by
 unfold wpOp;simp only [ho];rw [if_pos (by simp [Region.wanted,hg])];refine .inl ?_;unfold Oper.wp;rw [hr];exact h
def seqB (ops : Array Oper) : List Nat → Array Bool → Bool
 | [],listed => (Region.ready .any ops listed).isEmpty
 | i :: r,listed => (Region.ready .any ops listed == [i]) && seqB ops r (listed.setIfInBounds i true)
theorem wpAny_seq {Q : Exit → Act → World → Prop} : ∀ (idx : List Nat) (l : List Oper) (listed : Array Bool) (a : Act) (w : World),(idx.map fun i => ops[i]?) = l.map some → seqB ops idx listed = true → wpList P ops Q l a w → wpAny P .any ops Q idx.length listed a w
 | [],[],_,_,_,_,hB,h => ⟨by simpa [seqB] using hB,h⟩
 | [],_ :: _,_,_,_,hl,_,_ => by simp at hl
 | _ :: _,[],_,_,_,hl,_,_ => by simp at hl
 | i :: r,o :: l,listed,a,w,hl,hB,h => by
   simp only [List.map_cons,List.cons.injEq] at hl;obtain ⟨h0,hl⟩ := hl;simp only [seqB,Bool.and_eq_true,beq_iff_eq] at hB;obtain ⟨hr,hB'⟩ := hB;refine ⟨fun hn => (by rw [hr] at hn;cases hn),fun j hj => ?_⟩;rw [hr] at hj;obtain rfl : j = i := by simpa using hj
   have ih := fun a w => wpAny_seq (Q := Q) r l (listed.setIfInBounds j true) a w hl hB'
   unfold wpOp;simp only [h0];unfold wpList at h
   split at h
   · rename_i hw
     rw [if_pos hw];rcases h with h | h
     · exact .inl (Oper.wp_mono (fun a w => ih a w) h)
     · exact .inr h
   · rename_i hw
     rw [if_neg hw];exact ih _ _ h
end
section
variable {P : Program} {ops : Array Oper} {Q : Exit → Act → World → Prop} {S : World → Prop} {a : Act} {w : World}
def wpT (P : Program) (ops : Array Oper) (Q : Exit → Act → World → Prop) (S : World → Prop) : Nat → Array Bool → Act → World → Prop
 | 0,listed,a,w => (∀ j ∈ Region.ready .any ops listed,j = ops.size - 1) ∧ wpAny P .any ops Q 1 listed a w
 | n + 1,listed,a,w => Region.ready .any ops listed ≠ [] ∧ ∀ i ∈ Region.ready .any ops listed,i ≠ ops.size - 1 ∧ wpOp P ops Q i (fun a' w' => S w' ∧ wpT P ops Q S n (listed.setIfInBounds i true) a' w') a w
theorem wpAny_of_T : ∀ (n : Nat) (listed : Array Bool) (a : Act) (w : World),wpT P ops Q S n listed a w → wpAny P .any ops Q (n + 1) listed a w
 | 0,_,_,_,h => h.2
 | n + 1,_,_,_,h => ⟨fun h0 => absurd h0 h.1,fun i hi => wpOp_mono (fun a' w' h' => wpAny_of_T n _ a' w' h'.2) (h.2 i hi).2⟩
def closedB (ops : Array Oper) (listed : Array Bool) : Bool :=
 (List.range ops.size).all fun j => !listed.getD j false || (match ops[j]? with | some o => o.after.all fun e => !Region.binds .any e || listed.getD e.on false | none => true)
theorem closed_of {listed : Array Bool} (h : closedB ops listed = true) : Closed .any ops listed := by
 intro j o ho hj e he hb;have h1 := List.all_eq_true.1 h j (by simpa using (Array.getElem?_eq_some_iff.1 ho).1);simp only [hj,Bool.not_true,Bool.false_or,ho] at h1;have h2 := Array.all_eq_true_iff_forall_mem.1 h1 e he
 simpa [hb] using h2
theorem closed_set {listed : Array Bool} {i : Nat} (hc : Closed .any ops listed) (hi : i ∈ Region.ready .any ops listed) : Closed .any ops (listed.setIfInBounds i true) := by
 obtain ⟨_,o,ho,hall⟩ := mem_ready.1 hi;intro j o' ho' hj e he hb
 by_cases hji : j = i
 · subst hji
   rw [ho] at ho';cases ho';exact Go.getD_set_true (hall e he hb)
 · rw [Go.getD_set_ne false (fun h' => hji h'.symm)] at hj
   exact Go.getD_set_true (hc j o' ho' hj e he hb)
theorem last_waits {listed : Array Bool} {i : Nat} (hc : Closed .any ops listed) (hi : i ∈ Region.ready .any ops listed) (hL : i ∈ ancs .any ops ops.size (ops.size - 1)) : ops.size - 1 ∉ Region.ready .any ops listed := by
 intro h;obtain ⟨_,o,ho,hall⟩ := mem_ready.1 h;have h1 := ancs_listed hc ops.size (ops.size - 1) (fun o' ho' => by rw [ho] at ho';cases ho';exact hall) i hL;have h2 := (mem_ready.1 hi).1
 have h3 : i < listed.size := by
  rcases Nat.lt_or_ge i listed.size with h' | h'
  · exact h'
  · simp [h'] at h1
 rw [getD_tf h3,h1] at h2;cases h2
theorem wpT_first {i : Nat} {oi : Oper} {v : Value} (hi : ops[i]? = some oi) (hsel : ∀ (j : Nat) (o : Oper) cs b,ops[j]? = some o → o.op ≠ .select cs b)
 (hQ : ∀ c a w,Q (.panic c) (a.put oi.dst v) w → Q (.panic c) a w) (hiL : i ≠ ops.size - 1) (hL : i ∈ ancs .any ops ops.size (ops.size - 1)) :
 ∀ (fuel : Nat) (listed : Array Bool) (a : Act) (w : World),Closed .any ops listed →
   (∀ j oj,ops[j]? = some oj → j ≠ i → listed.getD j true = false → (∀ e ∈ oj.after,Region.binds .any e = true → e.on ≠ i) → oi.apart ops oj = true) →
   i ∈ Region.ready .any ops listed → YieldsIf P ops S oi v a → S w →
   wpT P ops Q S fuel (listed.setIfInBounds i true) (a.put oi.dst v) w → wpT P ops Q S (fuel + 1) listed a w := by
 intro fuel
 induction fuel with
 | zero =>
   intro listed a w hc _ hr hy hS H;refine ⟨fun h => (by rw [h] at hr;cases hr),fun j hj => ?_⟩
   by_cases hji : j = i
   · subst hji;exact ⟨hiL,hy.wpOp hi hS ⟨hS,H⟩⟩
   · have h1 := H.1 j (ready_mono hj hji)
     subst h1;exact (last_waits hc hr hL hj).elim
 | succ fuel ih =>
   intro listed a w hc hfree hr hy hS H;refine ⟨fun h => (by rw [h] at hr;cases hr),fun j hj => ?_⟩
   by_cases hji : j = i
   · subst hji;exact ⟨hiL,hy.wpOp hi hS ⟨hS,H⟩⟩
   · have hjL : j ≠ ops.size - 1 := fun h => last_waits hc hr hL (h ▸ hj)
     refine ⟨hjL,?_⟩;have h1 := (H.2 j (ready_mono hj hji)).2;obtain ⟨hjun,oj,hoj,hall⟩ := mem_ready.1 hj
     have hnot : ∀ e ∈ oj.after,Region.binds .any e = true → e.on ≠ i := fun e he hb heq => by
      have h1 := hall e he hb;have h0 := (mem_ready.1 hr).1;rw [heq] at h1;rcases Nat.lt_or_ge i listed.size with h' | h'
      · rw [getD_tf h',h1] at h0;cases h0
      · simp [h'] at h1
     have h2 := wpOp_putIf hoj (hfree j oj hoj hji hjun hnot) (fun cs b => hsel i oi cs b hi) (fun cs b => hsel j oj cs b hoj) hQ hy h1
     have hfree' : ∀ k ok,ops[k]? = some ok → k ≠ i → (listed.setIfInBounds j true).getD k true = false →
      (∀ e ∈ ok.after,Region.binds .any e = true → e.on ≠ i) → oi.apart ops ok = true := fun k ok hk hki hun hno => by
      refine hfree k ok hk hki ?_ hno
      by_cases hjk : j = k
      · subst hjk;exact hjun
      · rw [Go.getD_set_ne true hjk] at hun;exact hun
     refine wpOp_mono (fun a' w' h3 => ⟨h3.2.1,ih (listed.setIfInBounds j true) a' w' (closed_set hc hj) hfree' (ready_mono hr (Ne.symm hji)) h3.1 h3.2.1 ?_⟩) h2;rw [Array.setIfInBounds_comm _ _ hji];exact h3.2.2
def takeB (ops : Array Oper) (listed : Array Bool) (k : Nat) : Bool :=
 Region.noSelect ops && Region.free .any ops listed k && (Region.ready .any ops listed).contains k && closedB ops listed && (k != ops.size - 1) && (ancs .any ops ops.size (ops.size - 1)).contains k
theorem jad {n k : Nat} {listed : Array Bool} {o : Oper} (v : Value) (hB : takeB ops listed k = true) (ho : ops[k]? = some o) (hg : o.guard = none)
 (hQ : ∀ c a w,Q (.panic c) (a.put o.dst v) w → Q (.panic c) a w) (hS : S w) (hr : ∀ W,S W → (execOp a.eval o).run P W = .ok (.value v) W)
 (h : wpT P ops Q S n (listed.setIfInBounds k true) (a.put o.dst v) w) : wpT P ops Q S (n + 1) listed a w := by
 simp only [takeB,Bool.and_eq_true,bne_iff_ne,ne_eq] at hB;obtain ⟨⟨⟨⟨⟨h1,h2⟩,h3⟩,h4⟩,h5⟩,h6⟩ := hB;exact wpT_first ho (Region.noSelect_spec h1) hQ h5 (by simpa using h6) n listed a w (closed_of h4) (Region.free_spec ho h2) (by simpa using h3) (.inl ⟨by simp [Region.wanted,hg],hr⟩) hS h
theorem jan {n k : Nat} {listed : Array Bool} (hB : (Region.ready .any ops listed == [k] && k != ops.size - 1) = true) (h : wpOp P ops Q k (fun a' w' => S w' ∧ wpT P ops Q S n (listed.setIfInBounds k true) a' w') a w) : wpT P ops Q S (n + 1) listed a w := by
 simp only [Bool.and_eq_true,beq_iff_eq,bne_iff_ne,ne_eq] at hB;obtain ⟨h1,h2⟩ := hB;refine ⟨by rw [h1];simp,fun i hi => ?_⟩;rw [h1] at hi;obtain rfl : i = k := by simpa using hi
 exact ⟨h2,h⟩
theorem ja7 {k : Nat} {listed : Array Bool} {o : Oper} (hB : (Region.ready .any ops listed == [k] && k == ops.size - 1 && seqB ops [k] listed) = true) (ho : ops[k]? = some o) (h : wpList P ops Q [o] a w) : wpT P ops Q S 0 listed a w := by
 simp only [Bool.and_eq_true,beq_iff_eq] at hB;obtain ⟨⟨h1,h2⟩,h3⟩ := hB;refine ⟨fun j hj => ?_,wpAny_seq [k] [o] listed a w (by simp [ho]) h3 h⟩;rw [h1] at hj;rw [← h2];simpa using hj
theorem jal {id n : Nat} {l : List Oper} (hm : P.follows .mixedOrders = true) (hn : l.length = n + 1) (h : wpT P l.toArray Q S n (Array.replicate (n + 1) false) a w.drew) : (Code.region id l.toArray true).wp P Q a w := by
 refine wp_region_any hm ?_;have := wpAny_of_T n _ _ _ h;rw [← hn] at this
 simpa using this
theorem jav {K : Act → World → Prop} {i : Nat} {o : Oper} {f : FuncId} {fn : Func} {xs : Array Operand} {ts : Array TypeId} {args : Array Value} {R : Ending → World → Prop} (hoi : ops[i]? = some o) (hg : o.guard = none) (ho : o.op = .call { callee := .value (.func f),args := xs,argTypes := ts })
 (hf : P.funcs[f]? = some fn) (hb : fn.body.isNone = false) (hn : (fn.name == "runtime.NumGoroutine") = false) (hargs : xs.map a.eval = args) (hc : Calls P f args w R)
 (h : ∀ e w',R e w' → ∃ u,e = .returned u ∧ K (a.put o.dst u) w') : wpOp P ops Q i K a w := by
 unfold wpOp;simp only [hoi];rw [if_pos (by simp [Region.wanted,hg])];refine .inl ?_;unfold Oper.wp;rw [run_callf ho hf hb hn hargs];refine hc.mono fun e w' he => ?_
 obtain ⟨u,rfl,h1⟩ := h e w' he;exact h1
end
section
variable {P : Program} {w : World} {o : Oper} {a : Act}
theorem run_copyHB {t e s b : Nat} {z : Value} [T : SlTy P t e s z b] (hs1 : s = 1) {x1 x2 : Operand} {g k dl dc sl sc : Nat} {q : Addr} {cs : List Value} {Z : Array Value} (ho : o.op = .call { callee := .builtin .copy,args := #[x1,x2],argTypes := #[t,t] })
 (hx1 : a.eval x1 = .slice (some ⟨g,k,none⟩) dl dc) (hx2 : a.eval x2 = .slice (some q) sl sc) (hb : HB w g Z e) (hn : cs.length = Nat.min sl dl) (hc : Cs w (some q) cs) (hfit : k + cs.length ≤ Z.size) (h1 : ∀ v ∈ cs,v.oneCell' = true) :
 ∃ w',(execOp a.eval o).run P w = .ok (.value (.int .i64 cs.length)) w' ∧ HB w' g (Z.toList.take k ++ cs ++ Z.toList.drop (k + cs.length)).toArray e ∧ Chg (fun b => b = g) w w' := by
 obtain ⟨ti,hi,hzz⟩ := Option.map_eq_some_iff.1 T.inf;simp only [Prod.mk.injEq] at hzz;have hb' : w.heap[g]? = some (.cells Z e (0,0)) := hb;have h := run_copy_row (P := P) w t t o.type e g k dl dc q sl sc Z e cs T.und (by rw [hi];simp [hzz.2.1,hs1]) hb' hn (fun j v hj => hc.cell j v hj) hfit h1;refine ⟨_,by simp [execOp,ho,resolve,invoke,builtin,hx1,hx2,h,Result.andThen,goInt],setRow_heap w g Z _ e (0,0) hb',⟨rfl,rfl,rfl,by simp,fun j hj hn' => setRow_other w g j _ hn'⟩⟩
end
section
variable {P : Program} {w : World} {ops : Array Oper} {rest : List Oper} {o : Oper} {a : Act} {Q : Exit → Act → World → Prop}
theorem wl_copyHB {t e s b : Nat} {z : Value} [T : SlTy P t e s z b] (hs1 : s = 1) {x1 x2 : Operand} {g k dl dc sl sc m : Nat} {q : Addr} {cs : List Value} {Z : Array Value} (hgd : o.guard = none) (ho : o.op = .call { callee := .builtin .copy,args := #[x1,x2],argTypes := #[t,t] })
 (hx1 : a.eval x1 = .slice (some ⟨g,k,none⟩) dl dc) (hx2 : a.eval x2 = .slice (some q) sl sc) (hb : HB w g Z e) (hc : Cs w (some q) cs) (hm : cs.length = m) (hn : m = Nat.min sl dl) (hfit : k + m ≤ Z.size) (h1 : ∀ v ∈ cs,v.oneCell' = true)
 (h : ∀ w',HB w' g (Z.toList.take k ++ cs ++ Z.toList.drop (k + m)).toArray e → Chg (fun b => b = g) w w' → wpList P ops Q rest (a.put o.dst (.int .i64 m)) w') : wpList P ops Q (o :: rest) a w := by
 subst hm;obtain ⟨w',hr,h2,h3⟩ := run_copyHB (P := P) hs1 ho hx1 hx2 hb hn hc hfit h1;exact jb4 hgd hr (h w' h2 h3)
theorem wpOp_copyHB {K : Act → World → Prop} {i : Nat} {t e s b : Nat} {z : Value} [T : SlTy P t e s z b] (hs1 : s = 1) {x1 x2 : Operand} {g k dl dc sl sc m : Nat} {q : Addr} {cs : List Value} {Z : Array Value} (hoi : ops[i]? = some o) (hgd : o.guard = none) (ho : o.op = .call { callee := .builtin .copy,args := #[x1,x2],argTypes := #[t,t] })
 (hx1 : a.eval x1 = .slice (some ⟨g,k,none⟩) dl dc) (hx2 : a.eval x2 = .slice (some q) sl sc) (hb : HB w g Z e) (hc : Cs w (some q) cs) (hm : cs.length = m) (hn : m = Nat.min sl dl) (hfit : k + m ≤ Z.size) (h1 : ∀ v ∈ cs,v.oneCell' = true)
 (h : ∀ w',HB w' g (Z.toList.take k ++ cs ++ Z.toList.drop (k + m)).toArray e → Chg (fun b => b = g) w w' → K (a.put o.dst (.int .i64 m)) w') : wpOp P ops Q i K a w := by
 subst hm;obtain ⟨w',hr,h2,h3⟩ := run_copyHB (P := P) hs1 ho hx1 hx2 hb hn hc hfit h1;exact jcp hoi hgd hr (h w' h2 h3)
end
theorem mul64_one (N : Nat) (w : World) (hN : N < 4294967296) : Calls Try.prog 172 #[.int .u64 1,.int .u64 N] w fun e w' => e = .returned (.tuple #[.int .u64 0,.int .u64 N]) ∧ w = w' := by
 have hA : bits .and .u64 1 4294967295 = 1 := by decide
 have hZ : bits .and .u64 0 4294967295 = 0 := by decide
 have hB : bits .and .u64 (N : Int) 4294967295 = N := by
  have h := bits_mask .u64 63 (by decide) (fun n h0 h1 => by rw [IntKind.wrap_u64];omega) 32 (by decide) (N : Int) (by omega) (by omega);have e : ((2 : Int) ^ 32 - 1) = 4294967295 := by decide
  have e2 : ((2 : Int) ^ 32) = 4294967296 := by decide
  rw [e,e2] at h;rw [h];omega
 have hD : (N : Int) / 4294967296 = 0 := by omega
 have hW : IntKind.u64.wrap (N : Int) = N := by rw [IntKind.wrap_u64];omega
 have hW0 : IntKind.u64.wrap 0 = 0 := by decide
 go_enter Try.func172,Try.ntmps172;go_wp2;go_ret2;exact ⟨rfl,rfl⟩
theorem mul_one' (N : Nat) (w : World) (hN : N < 4294967296) : Calls Try.prog 165 #[.int .u64 1,.int .u64 N] w fun e w' => e = .returned (.tuple #[.int .u64 0,.int .u64 N]) ∧ w = w' := by
 have h := mul64_one N w hN;go_enter Try.func165,Try.ntmps165;go_wp2_with fail;refine h.mono ?_;rintro e w1 ⟨rfl,rfl⟩
 go_wp2;go_ret2;exact ⟨rfl,rfl⟩
theorem hb_of_own {w : World} {B e g n : Nat} {vs : List Value} (h : w.ownsRow B e 1 (.slice (some ⟨g,0,none⟩) n n) n vs) (hn : 1 ≤ n) : HB w g vs.toArray e := by
 obtain ⟨h1,h2⟩ := h;rcases h2 with ⟨hv,h0⟩ | ⟨g',cap,cur,hv,hg,hh,hnn,hm,hs,ht⟩
 · cases hv
 · cases hv
   have e1 : cur.toList = vs := by rw [← ht];exact (List.take_of_length_le (by simp [hs])).symm
   have e2 : cur = vs.toArray := by rw [← e1]
   rw [← e2];exact hh
theorem own_of_hb {w : World} {B e g n : Nat} {vs : List Value} (h : HB w g vs.toArray e) (hl : vs.length = n) (hB : B ≤ g) (hm : n ≤ maxLen) : w.ownsRow B e 1 (.slice (some ⟨g,0,none⟩) n n) n vs :=
 ⟨by omega,.inr ⟨g,n,vs.toArray,rfl,hB,h,Nat.le_refl _,hm,by simp [hl],by simp [← hl]⟩⟩
theorem f32s_rep (n z : Nat) : F32s (List.replicate n (Value.float .f32 z)) (List.replicate n (cn .f32 z)) :=
 ⟨by simp,fun i hi => ⟨z,by simp at hi;simp [hi],by simp at hi;simp [hi]⟩⟩
theorem rep_copy {u v : Value} {N k m : Nat} (hk : k ≤ N) (hm : m = min k (N - k)) : ((List.replicate k u ++ List.replicate (N - k) v).take k ++ List.replicate m u ++ (List.replicate k u ++ List.replicate (N - k) v).drop (k + (List.replicate m u).length)) = List.replicate (k + m) u ++ List.replicate (N - (k + m)) v := by
 have h1 : (List.replicate k u ++ List.replicate (N - k) v).take k = List.replicate k u := by simp
 have h2 : (List.replicate k u ++ List.replicate (N - k) v).drop (k + (List.replicate m u).length) = List.replicate (N - (k + m)) v := by
  rw [List.drop_append];simp;omega
 rw [h1,h2,List.replicate_append_replicate]
theorem repeatN_any (b c N z : Nat) (w : World) (hp : Cs w (some ⟨b,0,none⟩) [.float .f32 z]) (hb : b < w.heap.size) (hN1 : 1 ≤ N) (hN : N ≤ 1048576) : Calls Try.prog 147 #[.slice (some ⟨b,0,none⟩) 1 c,.int .i64 N] w (RetFl w (List.replicate N (cn .f32 z))) := by
 have K := hid (mul_one' N);go_enter Try.func147,Try.ntmps147;go_wp2_with fail;refine (K.out _ (by omega)).mono ?_;rintro e w1 ⟨rfl,rfl⟩
 go_wp2_with (first | ((with_reducible show wpList _ _ _ (Oper.mk _ (Op.makeSlice _ _ _) _ _ _ _ :: _) _ _);refine wl_make w.heap.size N rfl rfl rfl rfl (by unfold maxLen;omega) (by omega) (Nat.le_refl _) ?_;intro g8 w8 own8 e8;rw [made_flts] at own8;have hp8 := hp.ext e8;have hg8 := jas own8 g8 rfl;have HB8 := hb_of_own own8 hN1) | ((with_reducible show gx5);refine wl_copyHB (m := 1) rfl rfl rfl rfl rfl HB8 hp8 rfl (by show 1 = min 1 N;omega) (by simp <;> omega) (by simp [Value.oneCell']) ?_;intro w9 hb9 ch9));obtain ⟨u,hu⟩ : ∃ u,u = Value.float .f32 z := ⟨_,rfl⟩;obtain ⟨v0,hv0⟩ : ∃ v0,v0 = Value.float .f32 0 := ⟨_,rfl⟩;have hu1 : u.oneCell' = true := by rw [hu];rfl
 have hb9' : HB w9 g8 (List.replicate 1 u ++ List.replicate (N - 1) v0).toArray 33 := by
  have h : ((List.replicate N v0).toArray.toList.take 0 ++ [u] ++ (List.replicate N v0).toArray.toList.drop (0 + 1)) = List.replicate 1 u ++ List.replicate (N - 1) v0 := by simp
  rw [← h,hu,hv0];exact hb9
 have hx9 : Ext w w9 := e8.chg ch9 (fun k hk => by omega);have HU := hid hu;clear hu hv0 hb9 ch9 HB8 own8 e8 hp8;go_loopw [8] (fun nv wr => ∃ k : Nat,1 ≤ k ∧ k ≤ N ∧ nv = .int .i64 (k : Int) ∧ HB wr g8 (List.replicate k u ++ List.replicate (N - k) v0).toArray 33 ∧ Ext w wr) (fun nv _ => N - (intOf nv).toNat)
 case atStart => exact ⟨1,by omega,hN1,rfl,hb9',hx9⟩
 case round =>
  clear hb9' hx9;obtain ⟨k,hk1,hk,rfl,hB,he⟩ := hrel
  by_cases hlt : k < N
  · obtain ⟨m,hm⟩ : ∃ m,m = min k (N - k) := ⟨_,rfl⟩
    have hm1 : 1 ≤ m := by omega
    have hmN : k + m ≤ N := by omega
    have hcs : Cs wr.drew (some ⟨g8,0,none⟩) (List.replicate m u) := by
     have h := cs_heap (hB.ext (Ext.drew wr));refine ⟨fun i x hx => h.cell i x ?_,fun _ => rfl⟩
     have hi : i < m := by
      rcases Nat.lt_or_ge i m with h' | h'
      · exact h'
      · simp [h'] at hx
     have hik : i < k := by omega
     simp only [hi,List.getElem?_replicate,if_true] at hx;rw [← hx];simp [List.getElem?_append,hik]
    have hHB := hB.ext (Ext.drew wr);have HM := hid hm;have hw5 : IntKind.i64.wrap ((k : Int) + (m : Int)) = (k : Int) + (m : Int) := ja2 _ (by omega) (by omega);clear hm;go_wp2_with fail;refine jal (n := 9) (S := fun _ => True) (by kernel_rfl) rfl ?_;refine jad (k := 0) (.int .i64 (k : Int)) (by kernel_rfl) rfl rfl (fun _ _ _ h => h) trivial (fun W hW => by go_simp) ?_;simp only [Act.put,jab,pu1,pu2,pu3,pu4,pu5];refine jad (k := 1) (.slice (some ⟨g8,0,none⟩) N N) (by kernel_rfl) rfl rfl (fun _ _ _ h => h) trivial (fun W hW => by go_simp) ?_;simp only [Act.put,jab,pu1,pu2,pu3,pu4,pu5];refine jad (k := 2) (.int .i64 (k : Int)) (by kernel_rfl) rfl rfl (fun _ _ _ h => h) trivial (fun W hW => by go_simp) ?_;simp only [Act.put,jab,pu1,pu2,pu3,pu4,pu5];refine jad (k := 3) (.slice (some ⟨g8,k,none⟩) (N - k) (N - k)) (by kernel_rfl) rfl rfl (fun _ _ _ h => h) trivial (fun W hW => by go_simp;omega) ?_;simp only [Act.put,jab,pu1,pu2,pu3,pu4,pu5];refine jad (k := 4) (.slice (some ⟨g8,0,none⟩) N N) (by kernel_rfl) rfl rfl (fun _ _ _ h => h) trivial (fun W hW => by go_simp) ?_;simp only [Act.put,jab,pu1,pu2,pu3,pu4,pu5];refine jad (k := 5) (.int .i64 (k : Int)) (by kernel_rfl) rfl rfl (fun _ _ _ h => h) trivial (fun W hW => by go_simp) ?_;simp only [Act.put,jab,pu1,pu2,pu3,pu4,pu5];refine jad (k := 6) (.slice (some ⟨g8,0,none⟩) k N) (by kernel_rfl) rfl rfl (fun _ _ _ h => h) trivial (fun W hW => by go_simp) ?_;simp only [Act.put,jab,pu1,pu2,pu3,pu4,pu5];refine jan (k := 7) (by kernel_rfl) ?_;refine wpOp_copyHB (m := m) (k := k) (dl := N - k) (dc := N - k) (sl := k) (sc := N) rfl rfl rfl rfl (by simp [Act.eval];first | done | rfl) (by simp [Act.eval];first | done | rfl) hHB hcs (by simp) (by show m = min k (N - k);exact HM.out) (by simp;omega) (by intro v hv;rw [List.mem_replicate] at hv;rw [hv.2];exact hu1) ?_;intro w5 hb5 ch5;refine ⟨trivial,?_⟩;simp only [Act.put,jab,pu1,pu2,pu3,pu4,pu5];refine jad (k := 8) (.int .i64 ((k : Int) + (m : Int))) (by kernel_rfl) rfl rfl (fun _ _ _ h => h) trivial (fun W hW => by go_simp) ?_;simp only [Act.put,jab,pu1,pu2,pu3,pu4,pu5];refine ja7 (k := 9) (by kernel_rfl) rfl ?_;go_wp2;refine ⟨⟨k + m,by omega,by omega,by go_num,?_,(he.trans (Ext.drew wr)).chg ch5 (fun b hb => by omega)⟩,by simp [intOf];omega⟩;have h := rep_copy (u := u) (v := v0) hk HM.out;rw [List.length_replicate] at h;rw [← h];exact hb5
  · obtain rfl : k = N := by omega
    go_wp2;go_ret;rw [Nat.sub_self,List.replicate_zero,List.append_nil] at hB;refine retFl_of (List.length_replicate) (own_of_hb hB (by simp) hg8 (by unfold maxLen;omega)) (by rw [HU.out];exact f32s_rep _ _) rfl he
theorem filledN_any (R C z : Nat) (w : World) (hR1 : 1 ≤ R) (hR : R ≤ 16) (hC1 : 1 ≤ C) (hC : C ≤ 16) : Calls Try.prog 111 #[.int .i64 R,.int .i64 C,.float .f32 z] w (jao w R C (List.replicate (R * C) (cn .f32 z))) := by
 obtain ⟨W0,hW0⟩ : ∃ W0,W0 = (w.alloc (.cells #[.int .i64 0,.int .i64 0,.slice none 0 0] 27)).alloc (.cells #[.float .f32 z] 33) := ⟨_,rfl⟩;obtain ⟨E0,s0,b0,b1⟩ := box2 hW0;have b0 : HB W0 w.heap.size #[.int .i64 0,.int .i64 0,.slice none 0 0] 27 := b0;have hp : Cs W0 (some ⟨w.heap.size + 1,0,none⟩) [.float .f32 z] := cs_heap b1;obtain ⟨N,hN⟩ : ∃ N,N = R * C := ⟨_,rfl⟩;have hN1 : 1 ≤ N := by rw [hN];exact Nat.mul_le_mul hR1 hC1
 have hN2 : N ≤ 256 := by rw [hN];exact Nat.mul_le_mul hR hC
 have hNi : IntKind.i64.wrap ((R : Int) * (C : Int)) = (N : Int) := by rw [hN,← Int.natCast_mul,← hN];exact ja2 _ (by omega) (by omega)
 have K := hid (repeatN_any (w.heap.size + 1) 1 N z W0 hp (by omega) hN1 (by omega));rw [← hN];clear hN;go_enter Try.func111,Try.ntmps111;go_wp2_with fail;rw [← hW0];clear hW0;refine K.out.mono ?_;rintro e w1 ⟨q,k,vs,rfl,own,hf,e1⟩
 rw [List.length_replicate] at own ⊢;have f1 := b0.ext e1;have n0 := f1.cell 0 rfl;have n1 := f1.cell 1 rfl;have n2 := f1.cell 2 rfl;have m0 := f1.froz 0;have m1 := f1.froz 1;have m2 := f1.froz 2;go_wp2;refine bodyPost_ret (v := .agg #[.int .i64 R,.int .i64 C,.slice q N k]) (by simp [results,Try.results111,go_sem,n0,n1,n2,m0,m1,m2]) rfl ?_;exact jao.of (List.length_replicate) (jak (jag (S := fun k => k = w.heap.size) own (by (repeat (first | (with_reducible first | exact Chg.refl _ _ | exact Chg.of_ext (by assumption) | assumption) | ((with_reducible refine Chg.setCell ?_ ?_ _);rotate_left;focus (first | (simp;done) | (simp;omega))) | (with_reducible first | refine Chg.alloc ?_ _ | refine Chg.drew ?_ | refine px3 ?_ (by assumption))))) (fun k hk => by omega)) (by omega)) hf rfl (Ext.chg (S := fun k => k = w.heap.size) (E0.trans e1) (by (repeat (first | (with_reducible first | exact Chg.refl _ _ | exact Chg.of_ext (by assumption) | assumption) | ((with_reducible refine Chg.setCell ?_ ?_ _);rotate_left;focus (first | (simp;done) | (simp;omega))) | (with_reducible first | refine Chg.alloc ?_ _ | refine Chg.drew ?_ | refine px3 ?_ (by assumption))))) (fun k hk => by omega))
end Go.Proofs.Ytmbckkcgiafagaa
