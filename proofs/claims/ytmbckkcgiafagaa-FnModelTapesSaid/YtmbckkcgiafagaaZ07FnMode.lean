/- A part of the proofs: Par, Grow, Fwd4, Fwd5, Fwd6, Fwd7. -/
import Derived.Test.YtmbckkcgiafagaaZ06FnMode
import Derived.Maps.AppendAt
import Derived.Test.YtmbckkcgiafagaaZ03FnMode
set_option linter.unusedSimpArgs false
set_option linter.unusedVariables false
set_option maxRecDepth 100000
set_option maxHeartbeats 16000000
namespace Go.Proofs.Ytmbckkcgiafagaa
open Go.RowKit
def parF (l : List jac.T) : List Nat := l.flatMap fun d => (d.2.2.2.1 : List Nat) ++ d.2.2.2.2.1
theorem parF_take {l : List jac.T} {i : Nat} (h : i < l.length) : parF (l.take (i + 1)) = parF (l.take i) ++ ((l[i].2.2.2.1 : List Nat) ++ l[i].2.2.2.2.1) := by
 unfold parF;rw [List.take_add_one,List.getElem?_eq_getElem h,List.flatMap_append];simp
theorem parF_le (l : List jac.T) (i : Nat) : (parF (l.take i)).length ≤ (parF l).length := by
 have : parF l = parF (l.take i) ++ parF (l.drop i) := by
  unfold parF;rw [← List.flatMap_append,List.take_append_drop]
 rw [this,List.length_append];omega
def RetFl (w : World) (xs : List Nat) (e : Ending) (w' : World) : Prop :=
 ∃ q c vs,e = .returned (.slice q xs.length c) ∧ w'.ownsRow w.heap.size 33 1 (.slice q xs.length c) xs.length vs ∧ F32s vs xs ∧ Ext w w'
theorem F32s.app {us vs : List Value} {xs ys : List Nat} (h : F32s us xs) (k : F32s vs ys) : F32s (us ++ vs) (xs ++ ys) := by
 refine ⟨by rw [List.length_append,List.length_append,h.1,k.1],fun i hi => ?_⟩
 by_cases hl : i < xs.length
 · obtain ⟨b,h1,h2⟩ := h.2 i hl
   exact ⟨b,by rw [List.getElem?_append_left (by rw [h.1];exact hl)];exact h1,by rw [h2];simp [List.getD_eq_getElem?_getD,List.getElem?_append_left hl]⟩
 · rw [List.length_append] at hi
   obtain ⟨b,h1,h2⟩ := k.2 (i - xs.length) (by omega);exact ⟨b,by rw [List.getElem?_append_right (by rw [h.1];omega),h.1];exact h1,by rw [h2];simp [List.getD_eq_getElem?_getD,List.getElem?_append_right (show xs.length ≤ i by omega)]⟩
theorem F32s.one {us : List Value} {xs : List Nat} (h : F32s us xs) : ∀ u ∈ us,u.oneCell' = true := by
 intro u hu;obtain ⟨i,hi,rfl⟩ := List.mem_iff_getElem.1 hu;obtain ⟨b,h1,_⟩ := h.2 i (by rw [← h.1];exact hi);rw [List.getElem?_eq_getElem hi] at h1;rw [Option.some.inj h1];rfl
theorem retFl_of {w w' : World} {xs : List Nat} {v : Value} {e : Ending} {vs : List Value} {n : Nat} (hl : xs.length = n) (h : w'.ownsRow w.heap.size 33 1 v n vs) (hf : F32s vs xs) (he : e = .returned v) (hx : Ext w w') : RetFl w xs e w' := by
 subst hl
 obtain ⟨q,c,rfl⟩ : ∃ q c,v = .slice q xs.length c := by
  rcases h.2 with ⟨h1,h2⟩ | ⟨g,cap,cur,h1,_⟩
  · exact ⟨none,0,by rw [h1,h2]⟩
  · exact ⟨_,_,h1⟩
 exact ⟨q,c,vs,he,h,hf,hx⟩
theorem lay_nums {w : World} {cs : List Value} {d : jac.T} (h : Rep w jac cs d) : ∃ pw cw pb cb us vs,cs = [.int .i64 d.1,.int .i64 d.2.1,.int .i64 d.2.2.1,.slice pw d.2.2.2.1.length cw,.slice pb d.2.2.2.2.1.length cb] ∧
 Cs w pw us ∧ F32s us d.2.2.2.1 ∧ d.2.2.2.1.length ≤ cw ∧ Cs w pb vs ∧ F32s vs d.2.2.2.2.1 ∧ d.2.2.2.2.1.length ≤ cb := by
 obtain ⟨a1,a2,a3,a4,a5,au⟩ := d;obtain ⟨_,_,rfl,rfl,_,_,rfl,rfl,_,_,rfl,rfl,_,_,rfl,h4,_,_,rfl,h5,rfl⟩ := h;obtain ⟨p4,c4,us,rfl,h1,h2,h3,_⟩ := jco.1 h4;obtain ⟨p5,c5,vs,rfl,g1,g2,g3,_⟩ := jco.1 h5;exact ⟨p4,c4,p5,c5,us,vs,rfl,h1,h2,h3,g1,g2,g3⟩
theorem params_any (p : Option Addr) (n c : Nat) (l : List jac.T) (css : List (List Value)) (w : World) (hn : l.length = n) (hm : n ≤ maxLen)
 (a2 : Cs w p css.flatten) (a5 : All2 (Rep w jac) css l) (a6 : ∀ c ∈ css,c.length = jac.sz) (a7 : css.length = n) (hT : (parF l).length ≤ 1073741824) :
 Calls Try.prog 61 #[.agg #[.slice p n c]] w (RetFl w (parF l)) := by
 unfold maxLen at hm;have HL := hid hn;have HP := hid (parF_le l);clear hn;have hstart : ((w.alloc (.cells #[.slice p n c] 38)).alloc (.cells #[] 33)).ownsRow w.heap.size 33 1 (.slice (some ⟨(w.alloc (.cells #[.slice p n c] 38)).heap.size,0,none⟩) 0 0) 0 [] := World.ownsRow_made (w.alloc (.cells #[.slice p n c] 38)) #[] 0 (by simp) (by decide) rfl;have e0 := (Ext.alloc w (.cells #[.slice p n c] 38)).trans (Ext.alloc _ (.cells #[] 33));simp only [World.size_alloc] at hstart;go_enter Try.func61,Try.ntmps61;go_wp2;go_loopw [3,10] (fun bv iv wr => ∃ (i : Nat) (vs : List Value),i ≤ n ∧ iv = .int .i64 i ∧ wr.ownsRow w.heap.size 33 1 bv (parF (l.take i)).length vs ∧ Hid (F32s vs (parF (l.take i))) ∧ Ext w wr) (fun _ iv _ => n - (intOf iv).toNat)
 case atStart => exact ⟨0,[],by omega,rfl,by simpa [parF] using hstart,by simp [Hid,parF,F32s.nil],e0⟩
 case round =>
  rename_i bv _
  clear hstart e0;obtain ⟨i,vs,hi,rfl,own0,HF,he⟩ := hrel;have hB := he.size
  by_cases hlt : i < n
  · have hil : i < l.length := by rw [HL.out];exact hlt
    obtain ⟨ci,hci,ri⟩ := a5.get i l[i] (by simp);obtain ⟨pw,cw,pb,cb,us,ws,rfl,k1,k2,k3,k4,k5,k6⟩ := lay_nums ri;have hpl := HP.out (i + 1);have hpt := parF_take hil;rw [hpt,List.length_append,List.length_append] at hpl;have hs1 := a2.some_of a6 (by decide) (show 0 < css.length by omega);have hp := a2.ext he;generalize hx : parF (l.take i) = xs at *;generalize l[i] = d at *;have Hpt := hid hpt;have u1 := k2.1;have u2 := k5.1;have o1 := hid k2.one;have o2 := hid k5.one;clear hpt hx ri a5 HP
    go_wp2_with (first
     | ((with_reducible show gx2);refine jax (s := jac) (j := i) rfl rfl rfl rfl (fun _ => rfl) rfl rfl rfl hp a6 a7 hlt hs1 hci ?_;simp only [ofCs,Sh.agg,if_true])
     | ((with_reducible show gx5);refine wl_appz rfl rfl rfl rfl (jah own0 (Ext.alloc _ _)) ((k1.ext he).ext (Ext.alloc _ _)) (by rw [u1,Nat.mul_one]) k3 o1.out (by unfold maxLen;omega) (by omega) (by simp;omega) ?_;intro v1 w1 own1 g1;have e1 := (he.trans (Ext.alloc _ _)).grown g1 (fun k hk => jas own0 k hk);have x1 := (Chg.of_grown g1).cellOf (b := wr.heap.size) (by simp) (fun h => by have := own_lt own0 _ h.symm;omega);have hB1 := e1.size)
     | ((with_reducible show gx5);refine wl_appz rfl rfl rfl rfl own1 (k4.ext e1) (by rw [u2,Nat.mul_one]) k6 o2.out (by unfold maxLen;omega) (by omega) hB1 ?_;intro v2 w2 own2 g2))
    go_roundw
    case rel =>
     refine ⟨i + 1,(vs ++ us) ++ ws,by omega,by go_num,?_,?_,e1.grown g2 (fun k hk => jas own1 k hk)⟩
     · rw [Hpt.out,List.length_append,List.length_append,← Nat.add_assoc];exact own2
     · rw [Hid,Hpt.out,← List.append_assoc];exact (HF.out.app k2).app k5
    case measure => simp [intOf];omega
  · obtain rfl : i = n := by omega
    have ht : l.take i = l := List.take_of_length_le (by rw [HL.out];exact Nat.le_refl _);rw [ht] at own0 HF;go_wp2;go_ret;exact retFl_of rfl own0 HF.out rfl he
section
variable {P : Program} {w : World} {ops : Array Oper} {rest : List Oper} {o o1 o2 : Oper} {a : Act} {Q : Exit → Act → World → Prop}
theorem ja9 {t e s b : Nat} {z : Value} [T : SlTy P t e s z b] {x1 s2 : Operand} {d1 : Tmp} {u : Value} {v : Value} {B n : Nat} {vs : List Value}
 (hg1 : o1.guard = none) (ho1 : o1.op = .buildSlice t 1 #[(0,x1)]) (hg2 : o2.guard = none) (ho2 : o2.op = .call { callee := .builtin .append,args := #[s2,.tmp d1],argTypes := #[t,t] })
 (hx : a.eval x1 = u) (hu : u.cells.size = s) (hu1 : u.cells.toList.all (fun y => y.oneCell') = true) (hd : ∀ y,(a.put o1.dst y).eval (.tmp d1) = y) (hs : ∀ y,(a.put o1.dst y).eval s2 = v)
 (how : w.ownsRow B e s v n vs) (hn : n + 1 ≤ maxLen) (hb : (n + 1) * b ≤ 140737488355328) (hB : B ≤ w.heap.size)
 (h : ∀ g c w',w'.ownsRow B e s (.slice (some ⟨g,0,none⟩) (n + 1) c) (n + 1) (vs ++ u.cells.toList) → w.grownBy w' v.ownBlock → (v.ownBlock = some g ∨ g = w.heap.size + 1) →
  wpList P ops Q rest ((a.put o1.dst (.slice (some ⟨w.heap.size,0,none⟩) 1 1)).put o2.dst (.slice (some ⟨g,0,none⟩) (n + 1) c)) w') : wpList P ops Q (o1 :: o2 :: rest) a w := by
 obtain ⟨ti,hi,hzz⟩ := Option.map_eq_some_iff.1 T.inf;simp only [Prod.mk.injEq] at hzz;have hund := T.und;have hpos := T.pos;have hs24 := T.few
 have hrun : (execOp a.eval o1).run P w = .ok (.value (.slice (some ⟨w.heap.size,0,none⟩) 1 1)) (w.alloc (.cells u.cells e)) := by
  have hfill : Instr.fill (fun i => some (i * s,s)) ((Array.range (1 * s)).map (z.cells[· % z.cells.size]!)) [(0,u)] = some u.cells := by
   simp only [Instr.fill,hu,Array.size_map,Array.size_range,Nat.zero_mul,Nat.zero_add,Nat.one_mul,Nat.lt_irrefl,ne_eq,not_true_eq_false,decide_false,Bool.or_self,gt_iff_lt,Bool.false_eq_true,if_false]
   congr 1
   exact wl_app1.fill_all (w := w) (s := s) (b := b) (u := u) (B := B) (n := n) _ _ (by simp [hu])
  simp [execOp,ho1,hx,Instr.buildSlice,run_underlying hund,sizeOf,typeInfo,hi,hzz.2.1,zeroValue,hzz.1,show ¬ 16777216 < s by omega,show ¬ s = 0 by omega,newRow];rw [show (Array.map (fun x => z.cells[x % z.cells.size]!) (Array.range s)) = (Array.range (1 * s)).map (z.cells[· % z.cells.size]!) by rw [Nat.one_mul],hfill];simp
 refine jb4 hg1 hrun ?_;have how' := how.alloc (Obj.cells u.cells e);refine wpList_append_own_at _ hg2 s2 (.tmp d1) t ho2 B e ti z s b hund hi hzz.1 hzz.2.1 hzz.2.2 T.zs hpos v n vs (hs _) how' ⟨w.heap.size,0,none⟩ 1 1 u.cells.toList (hd _) (by simp [hu]) ?_ (List.all_eq_true.1 hu1) hn hb (by simp;omega) ?_
 · intro j y hj
   rw [Addr.add_lit,Nat.zero_add];have hnew : (w.alloc (.cells u.cells e)).heap[w.heap.size]? = some (.cells u.cells e) := heap_alloc_new w _;unfold World.cell?;rw [hnew]
   simpa using hj
 · intro v' w' h1 h2 h3 h4
   rcases h1.2 with ⟨_,h5⟩ | ⟨g,cap,cur,rfl,_⟩
   · omega
   · refine h g cap w' h1 (@wl_app1.grown_alloc w s b u B n _ _ _ _ h2) ?_
     rcases h4 with h4 | h4
     · left;rw [← h4];rfl
     · right;simp [Value.ownBlock] at h4;exact h4
end
structure GrowOwn (w : World) (B : Nat) (te : TypeId) (E : Sh) (v : Value) (l : List E.T) (css : List (List Value)) (bss : List (List Nat)) : Prop where
 row : w.ownsRow B te E.sz v l.length css.flatten
 els : OwnEs w E css bss l
 nodup : bss.flatten.Nodup
 lo : ∀ b ∈ bss.flatten,B ≤ b ∧ v.ownBlock ≠ some b
theorem OwnEs.lt {w : World} {E : Sh} {css : List (List Value)} {bss : List (List Nat)} {l : List E.T} (h : OwnEs w E css bss l) : ∀ b ∈ bss.flatten,b < w.heap.size := by
 intro b hb;obtain ⟨bj,hm,hbj⟩ := List.mem_flatten.1 hb;obtain ⟨j,hj,rfl⟩ := List.mem_iff_getElem.1 hm;have k1 := h.1;have k2 := h.2.1;exact (h.2.2 j (css[j]'(by omega)) bss[j] (l[j]'(by omega)) (by simp) (by simp) (by simp)).lt b hbj
theorem GrowOwn.ext {w w' : World} {B : Nat} {te : TypeId} {E : Sh} {v : Value} {l : List E.T} {css : List (List Value)} {bss : List (List Nat)} (h : GrowOwn w B te E v l css bss) (e : Ext w w') : GrowOwn w' B te E v l css bss :=
 ⟨jah h.row e,h.els.chg (.of_ext e) (S := fun _ => False) (fun _ _ h => h),h.nodup,h.lo⟩
theorem GrowOwn.empty {w : World} {B : Nat} {te : TypeId} {E : Sh} {v : Value} (h : w.ownsRow B te E.sz v 0 []) : GrowOwn w B te E v [] [] [] :=
 ⟨h,⟨rfl,rfl,fun i cs bs d h => by simp at h⟩,by simp,by simp⟩
theorem GrowOwn.snoc {w0 w w' : World} {B : Nat} {te : TypeId} {E : Sh} {v : Value} {l : List E.T} {css : List (List Value)} {bss : List (List Nat)} (h : GrowOwn w0 B te E v l css bss) (hx : Ext w0 w) {cs : List Value} {d : E.T} {bs : List Nat}
 (ho : Own w E cs d bs) (hn : bs.Nodup) (hf : ∀ b ∈ bs,w0.heap.size ≤ b) (hB : B ≤ w0.heap.size) {g c n : Nat} (hln : l.length = n) (hr : w'.ownsRow B te E.sz (.slice (some ⟨g,0,none⟩) (n + 1) c) (n + 1) (css.flatten ++ cs)) (hg : w.grownBy w' v.ownBlock) (hw : v.ownBlock = some g ∨ g = w.heap.size + 1) :
 GrowOwn w' B te E (.slice (some ⟨g,0,none⟩) (n + 1) c) (l ++ [d]) (css ++ [cs]) (bss ++ [bs]) := by
 subst hln;have lt0 := h.els.lt;have hv : ∀ k,v.ownBlock = some k → k < w0.heap.size := own_lt h.row;have hsz := hx.size;have ch : Chg (fun k => some k = v.ownBlock) w w' := Chg.of_grown hg;refine ⟨by simpa [List.flatten_append] using hr,?_,?_,?_⟩
 · refine OwnEs.snoc ((h.els.chg (.of_ext hx) (S := fun _ => False) (fun _ _ h => h)).chg ch (fun b hb hk => (h.lo b hb).2 hk.symm)) (ho.chg ch fun b hb hk => ?_)
   have := hv b hk.symm;have := hf b hb;omega
 · rw [List.flatten_append,List.flatten_cons,List.flatten_nil,List.append_nil]
   exact nodup_app h.nodup hn lt0 hf
 · intro b hb
   rw [List.flatten_append,List.flatten_cons,List.flatten_nil,List.append_nil,List.mem_append] at hb
   have hlb : b < w.heap.size := by
    rcases hb with hb | hb
    · have := lt0 b hb;omega
    · exact ho.lt b hb
   refine ⟨?_,fun hk => ?_⟩
   · rcases hb with hb | hb
     · exact (h.lo b hb).1
     · have := hf b hb;omega
   · simp [Value.ownBlock] at hk;subst hk
     rcases hw with hw | hw
     · rcases hb with hb | hb
       · exact (h.lo _ hb).2 hw
       · have := hv _ hw;have := hf _ hb;omega
     · omega
theorem GrowOwn.own {w : World} {B : Nat} {te : TypeId} {E : Sh} {v : Value} {l : List E.T} {css : List (List Value)} {bss : List (List Nat)} (h : GrowOwn w B te E v l css bss) : ∃ bs,Own w (.sl E) [v] l bs ∧ bs.Nodup ∧ ∀ b ∈ bs,B ≤ b := by
 obtain ⟨h1,h2,h3,h4⟩ := h;have hrow := h1;obtain ⟨hl,hr⟩ := h1;rcases hr with ⟨rfl,h0⟩ | ⟨g,cap,cur,rfl,hg,hh,hnc,hm,hsz,ht⟩
 · have hl0 : l = [] := List.eq_nil_of_length_eq_zero h0
   subst hl0;have hb0 : bss = [] := List.eq_nil_of_length_eq_zero h2.2.1;have hc0 : css = [] := List.eq_nil_of_length_eq_zero h2.1;subst hb0;subst hc0;exact ⟨[],own_sl.2 ⟨none,0,[],[],rfl,.inl ⟨rfl,rfl,rfl,rfl⟩,Nat.le_refl _,Nat.zero_le _,h2,rfl⟩,by simp,by simp⟩
 · refine ⟨g :: bss.flatten,own_sl.2 ⟨some ⟨g,0,none⟩,cap,css,bss,rfl,ownRow_of hrow,hnc,hm,h2,rfl⟩,?_,?_⟩
   · rw [List.nodup_cons];exact ⟨fun hb => (h4 g hb).2 rfl,h3⟩
   · intro b hb
     rcases List.mem_cons.1 hb with rfl | hb
     · exact hg
     · exact (h4 b hb).1
end Go.Proofs.Ytmbckkcgiafagaa
namespace Go.Proofs.Ytmbckkcgiafagaa
open Go.RowKit Rnd
def rootF (x : Nat) : Nat := jbr .f64 (fsqrt .f64 (jbr .f32 x .f64)) .f32
theorem RootNumber_any (b : Nat) (w : World) : Calls Try.prog 154 #[.float .f32 b] w (RF .f32 w (rootF (cn .f32 b))) := by
 have H := hid (sqrt_over (cn .f32 b));go_enter Try.func154,Try.ntmps154;go_wp2_with (first | ((with_reducible show gx4);refine wl_conv rfl rfl rfl (by kernel_rfl) jb0 (jcg _) ?_;intro r0 w0 e0 g0;have G0 := hid g0;clear g0) | ((with_reducible show gx5);fail));refine (Sqrt_any r0 _).mono ?_;rintro e w1 ⟨b1,rfl,g1,e1⟩
 have G1 := hid g1;clear g1;go_wp2_with ((with_reducible show gx4);refine wl_conv rfl rfl rfl (by kernel_rfl) jb2 (by rw [G1.out,G0.out];exact H.out) ?_;intro r2 w2 e2 g2;have G2 := hid g2;clear g2);go_ret;exact ⟨r2,rfl,by rw [G2.out,G1.out,G0.out];rfl,(e0.trans e1).trans e2⟩
/-! Greatest numbers. -/
def rk (x : Nat) : Int := match FloatKind.f32.decode x with
 | .infinity s => sg s (pw 5000)
 | .number s m e => sg s (cnt m e)
 | .nan _ _ => 0
theorem rk_lt {s : Bool} {m : Nat} {e : Int} {x : Nat} (h : Ieee.single.read x = .number s m e) : cnt m e < pw 5000 := by
 obtain ⟨h1,h2,h3⟩ := sgl_read h;unfold cnt
 calc m * 2 ^ (e + 4000).toNat < 2 ^ 24 * 2 ^ (e + 4000).toNat := Nat.mul_lt_mul_of_pos_right (by omega) (Nat.two_pow_pos _)
  _ = 2 ^ (24 + (e + 4000).toNat) := by rw [← Nat.pow_add]
  _ ≤ pw 5000 := pw_le (by omega)
theorem sg_lt (s : Bool) {v P : Nat} (h : v < P) : - (P : Int) < sg s v ∧ sg s v < P := by unfold sg;cases s <;> simp <;> omega
theorem order_rk {x y : Nat} (hx : (FloatKind.f32.decode x).isNaN = false) (hy : (FloatKind.f32.decode y).isNaN = false) : FloatKind.f32.format.order x y = some (compare (rk x) (rk y)) := by
 have hp : (0 : Int) < ((pw 5000 : Nat) : Int) := Int.natCast_pos.2 (pw_pos _)
 cases ex : FloatKind.f32.decode x with
 | nan s f => rw [ex] at hx;cases hx
 | infinity s =>
   have rx : rk x = sg s (pw 5000) := by unfold rk;rw [ex]
   cases ey : FloatKind.f32.decode y with
   | nan s f => rw [ey] at hy;cases hy
   | infinity t =>
     have ry : rk y = sg t (pw 5000) := by unfold rk;rw [ey]
     show (FloatKind.f32.decode x).order (FloatKind.f32.decode y) = _;rw [ex,ey,rx,ry];generalize pw 5000 = P at *;unfold sg
     cases s <;> cases t
     · exact congrArg some (Eq.trans (b := .eq) rfl (Int.compare_eq_eq.2 rfl).symm)
     · exact congrArg some (Eq.trans (b := .gt) rfl (Int.compare_eq_gt.2 (by simp;omega)).symm)
     · exact congrArg some (Eq.trans (b := .lt) rfl (Int.compare_eq_lt.2 (by simp;omega)).symm)
     · exact congrArg some (Eq.trans (b := .eq) rfl (Int.compare_eq_eq.2 rfl).symm)
   | number t m e =>
     have ry : rk y = sg t (cnt m e) := by unfold rk;rw [ey]
     have hb := sg_lt t (rk_lt (x := y) ey);show (FloatKind.f32.decode x).order (FloatKind.f32.decode y) = _;rw [ex,ey,rx,ry];generalize sg t (cnt m e) = Y at *;generalize pw 5000 = P at *;show some (if s then _ else _) = _
     congr 1
     unfold sg
     cases s
     · exact (Int.compare_eq_gt.2 (by simp;omega)).symm
     · exact (Int.compare_eq_lt.2 (by simp;omega)).symm
 | number s m e =>
   have rx : rk x = sg s (cnt m e) := by unfold rk;rw [ex]
   have fx : Fin Ieee.single x s (cnt m e) := ⟨m,e,ex,by have := (sgl_read (x := x) ex).2.1;rw [show (Ieee.single).leastPlace = -149 from by decide];omega,rfl⟩
   cases ey : FloatKind.f32.decode y with
   | nan s f => rw [ey] at hy;cases hy
   | infinity t =>
     have ry : rk y = sg t (pw 5000) := by unfold rk;rw [ey]
     have hb := sg_lt s (rk_lt (x := x) ex);show (FloatKind.f32.decode x).order (FloatKind.f32.decode y) = _;rw [ex,ey,rx,ry];generalize sg s (cnt m e) = X at *;generalize pw 5000 = P at *;show some (if t then _ else _) = _
     congr 1
     unfold sg
     cases t
     · exact (Int.compare_eq_lt.2 (by simp;omega)).symm
     · exact (Int.compare_eq_gt.2 (by simp;omega)).symm
   | number t m' e' =>
     have ry : rk y = sg t (cnt m' e') := by unfold rk;rw [ey]
     have fy : Fin Ieee.single y t (cnt m' e') := ⟨m',e',ey,by have := (sgl_read (x := y) ey).2.1;rw [show (Ieee.single).leastPlace = -149 from by decide];omega,rfl⟩;rw [rx,ry];exact fin_order ok_single fx fy
theorem fgt_nan_l {x y : Nat} (h : (FloatKind.f32.decode x).isNaN = true) : fgt .f32 x y = false := by
 unfold fgt;rw [order_nan h];rfl
theorem fgt_nan_r {x y : Nat} (h : (FloatKind.f32.decode y).isNaN = true) : fgt .f32 x y = false := by
 have : FloatKind.f32.format.order x y = none := by
  show (FloatKind.f32.decode x).order (FloatKind.f32.decode y) = _;exact order_nan_r h
 unfold fgt;rw [this];rfl
theorem fgt_rk {x y : Nat} (hx : (FloatKind.f32.decode x).isNaN = false) (hy : (FloatKind.f32.decode y).isNaN = false) : fgt .f32 x y = decide (rk y < rk x) := by
 unfold fgt;rw [order_rk hx hy]
 by_cases h : rk y < rk x
 · rw [Int.compare_eq_gt.2 h,decide_eq_true h];rfl
 · rw [decide_eq_false h]
   rcases Int.lt_or_eq_of_le (Int.not_lt.1 h) with h' | h'
   · rw [Int.compare_eq_lt.2 h'];rfl
   · rw [Int.compare_eq_eq.2 h'];rfl
theorem fgt_trans {x y z : Nat} (h : fgt .f32 x y = true) (k : fgt .f32 y z = true) : fgt .f32 x z = true := by
 cases hx : (FloatKind.f32.decode x).isNaN
 · cases hy : (FloatKind.f32.decode y).isNaN
   · cases hz : (FloatKind.f32.decode z).isNaN
     · rw [fgt_rk hx hy] at h
       rw [fgt_rk hy hz] at k;rw [fgt_rk hx hz];have h := of_decide_eq_true h;have k := of_decide_eq_true k;exact decide_eq_true (by omega)
     · rw [fgt_nan_r hz] at k;cases k
   · rw [fgt_nan_r hy] at h;cases h
 · rw [fgt_nan_l hx] at h;cases h
theorem fgt_self (x : Nat) : fgt .f32 x x = false := by
 cases hx : (FloatKind.f32.decode x).isNaN
 · rw [fgt_rk hx hx];exact decide_eq_false (Int.lt_irrefl _)
 · exact fgt_nan_l hx
def gi (xs : List Nat) : Nat → Nat
 | 0 => 0
 | j + 1 => if fgt .f32 (xs.getD j 0) (xs.getD (gi xs j) 0) then j else gi xs j
theorem gi_lt (xs : List Nat) : ∀ {j : Nat},0 < j → gi xs j < j
 | 1,_ => by
   show (if fgt .f32 (xs.getD 0 0) (xs.getD 0 0) then 0 else 0) < 1
   split <;> omega
 | j + 2,_ => by
   have := gi_lt xs (j := j + 1) (by omega);have e : gi xs (j + 1 + 1) = if fgt .f32 (xs.getD (j + 1) 0) (xs.getD (gi xs (j + 1)) 0) then j + 1 else gi xs (j + 1) := rfl;rw [e]
   split <;> omega
theorem gi_max (xs : List Nat) : ∀ (j i : Nat),i < j → fgt .f32 (xs.getD i 0) (xs.getD (gi xs j) 0) = false
 | 0,_,h => by omega
 | j + 1,i,h => by
   have e : gi xs (j + 1) = if fgt .f32 (xs.getD j 0) (xs.getD (gi xs j) 0) then j else gi xs j := rfl
   cases hc : fgt .f32 (xs.getD j 0) (xs.getD (gi xs j) 0)
   · rw [e,hc]
     by_cases hij : i = j
     · subst hij;exact hc
     · exact gi_max xs j i (by omega)
   · rw [e,hc,if_pos rfl]
     by_cases hij : i = j
     · subst hij;exact fgt_self _
     · cases h2 : fgt .f32 (xs.getD i 0) (xs.getD j 0)
       · rfl
       · have := fgt_trans h2 hc
         rw [gi_max xs j i (by omega)] at this;cases this
theorem gt_eq (a b : Nat) : (FloatKind.f32.format.order a b == some .gt) = fgt .f32 (cn .f32 a) (cn .f32 b) := by rw [fgt_cn];rfl
theorem greatestOf_any (p : Option Addr) (n c : Nat) (us : List Value) (xs : List Nat) (w : World) (hx : xs.length = n) (h1 : 1 ≤ n) (hn : n ≤ maxLen) (hp : Cs w p us) (hf : F32s us xs) :
 Calls Try.prog 167 #[.slice p n c] w fun e w' => e = .returned (.int .i64 (gi xs n)) ∧ Ext w w' := by
 unfold maxLen at hn;have X := hid hx;clear hx;go_enter Try.func167,Try.ntmps167;go_wp2;go_loopw [3,8] (fun kv iv wr => ∃ (i : Nat),i ≤ n ∧ iv = .int .i64 i ∧ kv = .int .i64 (gi xs i) ∧ Ext w wr) (fun _ iv _ => n - (intOf iv).toNat)
 case atStart => exact ⟨0,by omega,rfl,rfl,Ext.refl _⟩
 case round =>
  obtain ⟨i,hi,rfl,rfl,he⟩ := hrel
  by_cases hlt : i < n
  · have k1 := hp.ext he
    have hg : gi xs i < n := by
     rcases Nat.eq_zero_or_pos i with h | h
     · subst h;show 0 < n;omega
     · have := gi_lt xs h;omega
    have hs : gi xs (i + 1) = if fgt .f32 (xs.getD i 0) (xs.getD (gi xs i) 0) then i else gi xs i := rfl;have HS := hid hs;clear hs;generalize gi xs i = k at *;go_wp2_with ((with_reducible show gx2);refine wl_ldF rfl rfl rfl rfl (fun _ => rfl) rfl rfl k1 hf X.out (by omega) (by omega) ?_;first | (have zz := G1;intro r2 g2;have G2 := hid g2;clear g2 zz) | (intro r1 g1;have G1 := hid g1;clear g1))
    all_goals go_roundw
    all_goals first
     | (case rel =>
      refine ⟨i + 1,by omega,by go_num,?_,he⟩
      rename_i hc
      have q1 := G1.out;have q2 := G2.out;simp only [Int.toNat_natCast] at q1 q2;have hh := gt_eq r1 r2;rw [q1,q2] at hh;rw [HS.out]
      first
       | (rw [hc] at hh;rw [← hh];rfl)
       | (rw [decide_eq_true hc] at hh;rw [← hh];rfl))
     | (case measure => simp [intOf];omega)
  · obtain rfl : i = n := by omega
    go_wp2;go_ret;exact ⟨rfl,he⟩
end Go.Proofs.Ytmbckkcgiafagaa
namespace Go.Proofs.Ytmbckkcgiafagaa
open Go.RowKit
def tab (n : Nat) (f : Nat → Nat) : List Nat := (List.range n).map f
theorem tab_len (n : Nat) (f : Nat → Nat) : (tab n f).length = n := by simp [tab]
theorem tab_get {n : Nat} (f : Nat → Nat) {i : Nat} (h : i < n) : (tab n f).getD i 0 = f i := by simp [tab,h]
theorem tab_succ (n : Nat) (f : Nat → Nat) : tab (n + 1) f = tab n f ++ [f n] := by simp [tab,List.range_succ]
def mix (o e : Nat → Nat) (i j : Nat) : Nat := if j < i then o j else e j
theorem tab_mix {n i : Nat} (o e : Nat → Nat) (h : i < n) : (tab n (mix o e i)).set i (o i) = tab n (mix o e (i + 1)) := by
 apply List.ext_getElem?;intro j;unfold tab mix;rw [List.getElem?_set]
 by_cases hj : j < n
 · by_cases hij : i = j
   · subst hij;simp [hj]
   · rw [if_neg hij]
     simp only [List.getElem?_map,List.getElem?_range hj,Option.map_some]
     congr 1
     by_cases h1 : j < i
     · rw [if_pos h1,if_pos (by omega)]
     · rw [if_neg h1,if_neg (by omega)]
 · rw [if_neg (by omega)];simp [hj]
theorem tab_mix0 (n : Nat) (o e : Nat → Nat) : tab n (mix o e 0) = tab n e := by
 unfold tab;apply List.map_congr_left;intro j _;unfold mix;rw [if_neg (by omega)]
theorem tab_mixn (n : Nat) (o e : Nat → Nat) : tab n (mix o e n) = tab n o := by
 unfold tab;apply List.map_congr_left;intro j hj;unfold mix;rw [if_pos (by simpa using hj)]
theorem sumG_congr {f g : Nat → Nat} : ∀ {n : Nat},(∀ i,i < n → f i = g i) → sumG f n = sumG g n
 | 0,_ => rfl
 | n + 1,h => by unfold sumG;rw [sumG_congr (fun i hi => h i (by omega)),h n (by omega)]
theorem F32s.push {us : List Value} {i : Nat} {f : Nat → Nat} {b : Nat} (h : F32s us (tab i f)) (hb : cn .f32 b = f i) : F32s (us ++ [.float .f32 b]) (tab (i + 1) f) := by
 rw [tab_succ];refine h.app ⟨rfl,fun j hj => ?_⟩;have : j = 0 := by simpa using hj
 subst this;exact ⟨b,rfl,by rw [hb];rfl⟩
theorem F32s.put {us : List Value} {n i : Nat} {o e : Nat → Nat} {b : Nat} (h : F32s us (tab n (mix o e i))) (hi : i < n) (hb : cn .f32 b = o i) : F32s (us.set i (.float .f32 b)) (tab n (mix o e (i + 1))) := by
 rw [← tab_mix o e hi];refine ⟨by rw [List.length_set,List.length_set];exact h.1,fun j hj => ?_⟩;rw [List.length_set] at hj
 by_cases hij : i = j
 · subst hij
   refine ⟨b,by rw [List.getElem?_set,if_pos rfl,if_pos (by rw [h.1];exact hj)],?_⟩;rw [hb];rw [tab_len] at hj;simp [tab_len,List.getD_eq_getElem?_getD,List.getElem?_set,hj]
 · obtain ⟨c,h1,h2⟩ := h.2 j hj
   refine ⟨c,by rw [List.getElem?_set,if_neg hij];exact h1,?_⟩;rw [h2,List.getD_eq_getElem?_getD,List.getD_eq_getElem?_getD,List.getElem?_set,if_neg hij]
def sM (xs : List Nat) : Nat := xs.getD (gi xs xs.length) 0
def sE (xs : List Nat) (i : Nat) : Nat := expF (fop .sub .f32 (xs.getD i 0) (sM xs))
def sO (xs : List Nat) (i : Nat) : Nat := fop .quo .f32 (sE xs i) (sumG (sE xs) xs.length)
def softF (xs : List Nat) : List Nat := tab xs.length (sO xs)
theorem sE_pos {xs : List Nat} {i : Nat} (h : i < xs.length) : NonPos (fop .sub .f32 (xs.getD i 0) (sM xs)) := sub_neg (gi_max xs xs.length i h)
theorem retFl_own {w w' : World} {xs : List Nat} {n : Nat} {q : Option Addr} {c : Nat} {e : Ending} {vs : List Value} (hl : xs.length = n) (h : w'.ownsRow w.heap.size 33 1 (.slice q n c) n vs) (hf : F32s vs xs) (he : e = .returned (.slice q n c)) (hx : Ext w w') : RetFl w xs e w' := by
 subst hl;exact ⟨q,c,vs,he,h,hf,hx⟩
theorem exps_any (p : Option Addr) (n c : Nat) (us : List Value) (xs : List Nat) (w : World) (hx : xs.length = n) (h1 : 1 ≤ n) (hn : n ≤ 1073741824) (hp : Cs w p us) (hf : F32s us xs) :
 Calls Try.prog 153 #[.slice p n c] w fun e w' => ∃ (b : Nat) (q : Option Addr) (cq : Nat) (vs : List Value),e = .returned (.tuple #[.float .f32 b,.slice q n cq]) ∧ cn .f32 b = sM xs ∧ w'.ownsRow w.heap.size 33 1 (.slice q n cq) n vs ∧ F32s vs (tab n (sE xs)) ∧ Ext w w' := by
 have X := hid hx;have hM : sM xs = xs.getD (gi xs n) 0 := by unfold sM;rw [hx]
 have HM := hid hM;have hP : ∀ i,i < n → NonPos (fop .sub .f32 (xs.getD i 0) (sM xs)) := fun i hi => sE_pos (by rw [hx];exact hi)
 have C := hid (greatestOf_any p n c us xs w hx h1 (by unfold maxLen;omega) hp hf);have hg := gi_lt xs (j := n) (by omega);clear hx hM;generalize gi xs n = k at *;go_enter Try.func153,Try.ntmps153;go_wp2_with fail;refine C.out.mono ?_;rintro e w1 ⟨rfl,e1⟩
 have k1 := hp.ext e1;go_wp2_with ((with_reducible show gx2);refine wl_ldF rfl rfl rfl rfl (fun _ => rfl) rfl rfl k1 hf X.out (by omega) (by omega) ?_;intro r0 g0;have G0 := hid g0;clear g0);have hb : cn .f32 r0 = sM xs := by have := G0.out;rw [Int.toNat_natCast] at this;rw [this,HM.out]
 have HB2 := hid hb;clear hb;have hstart : (w1.alloc (.cells #[] 33)).ownsRow w.heap.size 33 1 (.slice (some ⟨w1.heap.size,0,none⟩) 0 0) 0 [] := World.ownsRow_made w1 #[] 0 e1.size (by decide) rfl;have e0 := e1.trans (Ext.alloc w1 (.cells #[] 33));go_loopw [5,16] (fun ov iv wr => ∃ (i : Nat) (vs : List Value) (q : Option Addr) (cq : Nat),i ≤ n ∧ iv = .int .i64 i ∧ ov = .slice q i cq ∧ wr.ownsRow w.heap.size 33 1 (.slice q i cq) i vs ∧ Hid (F32s vs (tab i (sE xs))) ∧ Ext w wr) (fun _ iv _ => n - (intOf iv).toNat)
 case atStart => exact ⟨0,[],_,_,by omega,rfl,rfl,hstart,F32s.nil,e0⟩
 case round =>
  clear hstart e0;obtain ⟨i,vs,q,cq,hi,rfl,rfl,own0,HF,he⟩ := hrel;have hB := he.size
  by_cases hlt : i < n
  · have k1 := hp.ext he
    have Hi := hid (hP i hlt);go_wp2_with (first | ((with_reducible show gx2);refine wl_ldF rfl rfl rfl rfl (fun _ => rfl) rfl rfl k1 hf X.out (by omega) (by omega) ?_;intro r1 g1;have G1 := hid g1;clear g1) | ((with_reducible show gx3);refine jcm rfl rfl rfl rfl rfl ?_;intro r2 w2 e2 g2;have G2 := hid g2;clear g2));have hv : cn .f32 r2 = fop .sub .f32 (xs.getD i 0) (sM xs) := by rw [G2.out,G1.out,HB2.out,Int.toNat_natCast]
    have HV := hid hv;clear hv;refine (ExpNumber_any r2 _ (by rw [HV.out];exact Hi.out)).mono ?_;rintro e w3 ⟨r3,rfl,g3,e3⟩
    have hv : cn .f32 r3 = sE xs i := by rw [g3,HV.out];rfl
    have HV3 := hid hv;clear hv g3;replace own0 := jah (jah own0 e2) e3;replace he := (he.trans e2).trans e3;have hB := he.size;go_wp2_with ((with_reducible show gx6);refine ja9 (u := .float .f32 r3) rfl rfl rfl rfl rfl rfl rfl (fun _ => rfl) (fun _ => rfl) own0 (by unfold maxLen;omega) (by omega) (by omega) ?_;intro g c w4 own4 g4 hg4);go_roundw
    case rel =>
     have own5 : w4.ownsRow w.heap.size 33 1 (.slice (some ⟨g,0,none⟩) (i + 1) c) (i + 1) (vs ++ [.float .f32 r3]) := own4;exact ⟨i + 1,vs ++ [.float .f32 r3],_,_,by omega,by go_num,rfl,own5,by rw [Hid];exact HF.out.push HV3.out,he.grown g4 (fun k hk => jas own0 k hk)⟩
    case measure => simp [intOf];omega
  · obtain rfl : n = i := by omega
    go_wp2;go_ret2;exact ⟨r0,q,cq,vs,rfl,HB2.out,own0,HF.out,he⟩
theorem softmax_any (p : Option Addr) (n c : Nat) (us : List Value) (xs : List Nat) (w : World) (hx : xs.length = n) (h1 : 1 ≤ n) (hn : n ≤ 1073741824) (hp : Cs w p us) (hf : F32s us xs) :
 Calls Try.prog 122 #[.slice p n c] w (RetFl w (softF xs)) := by
 have X := hid hx;have C := hid (exps_any p n c us xs w hx h1 hn hp hf);clear hx;go_enter Try.func122,Try.ntmps122;go_wp2_with fail;refine C.out.mono ?_;rintro e w1 ⟨b,q,cq,vs,rfl,_,own0,hF,he⟩
 have HF := hid hF;clear hF;go_wp2_with fail;refine (sumOf_any q n cq vs (tab n (sE xs)) _ (tab_len _ _) (by unfold maxLen;omega) (jbt own0) HF.out).mono ?_;rintro e w1 ⟨r1,rfl,g1,e1⟩
 have hv : cn .f32 r1 = sumG (sE xs) n := by rw [g1];exact sumG_congr fun i hi => tab_get _ hi
 have HV := hid hv;clear hv g1;replace own0 := jah own0 e1;replace he := he.trans e1;have hO : ∀ i,sO xs i = fop .quo .f32 (sE xs i) (sumG (sE xs) n) := fun i => by unfold sO;rw [X.out]
 have HO := hid hO;clear hO;go_wp2_with fail;go_loopw [16] (fun iv wr => ∃ (i : Nat) (vs : List Value),i ≤ n ∧ iv = .int .i64 i ∧ wr.ownsRow w.heap.size 33 1 (.slice q n cq) n vs ∧ Hid (F32s vs (tab n (mix (sO xs) (sE xs) i))) ∧ Ext w wr) (fun iv _ => n - (intOf iv).toNat)
 case atStart => exact ⟨0,vs,by omega,rfl,own0,by rw [tab_mix0];exact HF.out,he⟩
 case round =>
  clear own0 he HF;obtain ⟨i,vs,hi,rfl,own0,HF,he⟩ := hrel;have hB := he.size
  by_cases hlt : i < n
  · have k1 := jbt own0
    have HL := hid (tab_len n (mix (sO xs) (sE xs) i));have hg : (tab n (mix (sO xs) (sE xs) i)).getD i 0 = sE xs i := by rw [tab_get _ hlt];unfold mix;rw [if_neg (by omega)]
    have HG := hid hg;clear hg;go_wp2_with (first | ((with_reducible show gx2);refine wl_ldF rfl rfl rfl rfl (fun _ => rfl) rfl rfl k1 HF.out HL.out (by omega) (by omega) ?_;intro r2 g2;have G2 := hid g2;clear g2) | ((with_reducible show gx3);refine jcm rfl rfl rfl rfl rfl ?_;intro r3 w3 e3 g3;have G3 := hid g3;clear g3;replace own0 := jah own0 e3;replace he := he.trans e3) | ((with_reducible show gx7);refine wl_idxstore (u := .float .f32 r3) rfl rfl rfl rfl (fun _ => rfl) rfl rfl (fun _ => rfl) rfl own0 (by omega) (by omega) ?_;intro w4 own4 g4));go_roundw
    case rel =>
     refine ⟨i + 1,_,by omega,by go_num,own4,?_,he.grown g4 (fun k hk => jas own0 k hk)⟩;rw [Int.toNat_natCast];have q2 := G2.out;rw [Int.toNat_natCast,HG.out] at q2;exact HF.out.put hlt (by rw [G3.out,q2,HV.out,HO.out])
    case measure => simp [intOf];omega
  · obtain rfl : n = i := by omega
    rw [tab_mixn] at HF;go_wp2;go_ret;have hS : softF xs = tab n (sO xs) := by unfold softF;rw [X.out]
    rw [hS];exact retFl_own (tab_len _ _) own0 HF.out rfl he
section
variable {P : Program} {w : World} {ops : Array Oper} {rest : List Oper} {o : Oper} {a : Act} {Q : Exit → Act → World → Prop}
theorem wl_stP {e : Nat} [Cell1 P e] {x y : Operand} (hg : o.guard = none) (ho : o.op = .store e x y)
 {p : Option Addr} {n c B i : Nat} {u : Value} (hx : a.eval x = .pointer (some (adr p i))) (hy : a.eval y = u) (hu1 : u.oneCell' = true) {vs : List Value} (hc : w.ownsRow B e 1 (.slice p n c) n vs) (hn : i < n)
 (h : ∀ w',w'.ownsRow B e 1 (.slice p n c) n (vs.set i u) → w.grownBy w' (Value.slice p n c).ownBlock → wpList P ops Q rest (a.put o.dst undef) w') : wpList P ops Q (o :: rest) a w := by
 obtain ⟨g,rfl⟩ := own_some hc (by omega);have hlen : vs.length = n := by have := hc.1;omega
 have hcell : w.cell? (adr (some ⟨g,0,none⟩) i) = some (vs[i]'(by omega)) := by
  rw [jbn,hc.cellAt _ (by omega)];simp [hlen,hn]
 have hfr : w.frozen? (adr (some ⟨g,0,none⟩) i) = false := by rw [jbn];exact hc.frozenAt _
 have hst := hc.stored i u;rw [← jbn] at hst;refine ja4 hg (w' := w.setCell (adr (some ⟨g,0,none⟩) i) u) ?_ (h _ hst.1 hst.2);simp [execOp,ho,hx,hy,run_store1 hcell hfr hu1]
end
def nM (xs : List Nat) : Nat := fop .quo .f32 (sumG (fun j => xs.getD j 0) xs.length) (floatOfInt .f32 (xs.length : Int))
def nD (xs : List Nat) (i : Nat) : Nat := fop .sub .f32 (xs.getD i 0) (nM xs)
def nR (xs : List Nat) : Nat := rootF (fop .add .f32 (fop .quo .f32 (dotG (nD xs) (nD xs) xs.length) (floatOfInt .f32 (xs.length : Int))) 981467136)
def nO (ws bs xs : List Nat) (i : Nat) : Nat := fop .add .f32 (fop .mul .f32 (fop .quo .f32 (nD xs i) (nR xs)) (ws.getD i 0)) (bs.getD i 0)
def normF (ws bs xs : List Nat) : List Nat := tab xs.length (nO ws bs xs)
theorem cn_near32 (n : Int) : cn .f32 (floatOfInt .f32 n) = floatOfInt .f32 n := cn_nearest .f32 n
theorem cn_eps : cn .f32 981467136 = 981467136 := by decide +kernel
theorem norm_any (k o : Int) (p pw pb : Option Addr) (n c cw cb : Nat) (us uw ub : List Value) (xs ws bs : List Nat) (w : World) (hx : xs.length = n) (hw : ws.length = n) (hb : bs.length = n) (hn : n ≤ 1073741824) (hp : Cs w p us) (hf : F32s us xs)
 (hpw : Cs w pw uw) (hfw : F32s uw ws) (hpb : Cs w pb ub) (hfb : F32s ub bs) :
 Calls Try.prog 123 #[.agg #[.int .i64 k,.int .i64 n,.int .i64 o,.slice pw n cw,.slice pb n cb],.slice p n c] w (RetFl w (normF ws bs xs)) := by
 have X := hid hx;have HW := hid hw;have HB := hid hb;have hS : normF ws bs xs = tab n (nO ws bs xs) := by unfold normF;rw [hx]
 have HS := hid hS;have hM : nM xs = fop .quo .f32 (sumG (fun j => xs.getD j 0) n) (floatOfInt .f32 n) := by unfold nM;rw [hx]
 have HM := hid hM;have hR : nR xs = rootF (fop .add .f32 (fop .quo .f32 (dotG (nD xs) (nD xs) n) (floatOfInt .f32 n)) 981467136) := by unfold nR;rw [hx]
 have HR := hid hR;have eA := Ext.alloc w (.cells #[.int .i64 k,.int .i64 n,.int .i64 o,.slice pw n cw,.slice pb n cb] 41)
 have ca : ∀ (j : Nat) (v : Value),#[Value.int .i64 k,.int .i64 n,.int .i64 o,.slice pw n cw,.slice pb n cb][j]? = some v → (w.alloc (.cells #[.int .i64 k,.int .i64 n,.int .i64 o,.slice pw n cw,.slice pb n cb] 41)).cell? ⟨w.heap.size,j,none⟩ = some v := fun j v h => by
  unfold World.cell?;rw [heap_alloc_new]
  simpa using h
 have f3 := ca 3 _ rfl;have f4 := ca 4 _ rfl;have C := hid (sumOf_any p n c us xs (w.alloc (.cells #[.int .i64 k,.int .i64 n,.int .i64 o,.slice pw n cw,.slice pb n cb] 41)) hx (by unfold maxLen;omega) (hp.ext eA) hf);clear hx hw hb hS hM hR ca;go_enter Try.func123,Try.ntmps123;go_wp2_with fail;refine C.out.mono ?_;rintro e w1 ⟨r0,rfl,g0,e1⟩
 have G0 := hid g0;clear g0;have e0 := eA.trans e1;replace f3 := e1.cell f3;replace f4 := e1.cell f4;clear e1;go_wp2_with ((with_reducible show gx3);refine jcm rfl rfl rfl rfl rfl ?_;intro r1 w2 e2 g1;have G1 := hid g1;clear g1);have hv : cn .f32 r1 = nM xs := by rw [G1.out,G0.out,cn_near32,HM.out]
 have HV := hid hv;clear hv;replace e0 := e0.trans e2;replace f3 := e2.cell f3;replace f4 := e2.cell f4;have hstart : (w2.alloc (.cells #[] 33)).ownsRow w2.heap.size 33 1 (.slice (some ⟨w2.heap.size,0,none⟩) 0 0) 0 [] := World.ownsRow_made w2 #[] 0 (Nat.le_refl _) (by decide) rfl;have e9 := Ext.alloc w2 (.cells #[] 33);clear e2;go_loopw [7,22] (fun ov iv wr => ∃ (i : Nat) (vs : List Value) (q : Option Addr) (cq : Nat),i ≤ n ∧ iv = .int .i64 i ∧ ov = .slice q i cq ∧ wr.ownsRow w2.heap.size 33 1 (.slice q i cq) i vs ∧ Hid (F32s vs (tab i (nD xs))) ∧ Ext w2 wr) (fun _ iv _ => n - (intOf iv).toNat)
 case atStart => exact ⟨0,[],_,_,by omega,rfl,rfl,hstart,F32s.nil,e9⟩
 case round =>
  clear hstart e9;obtain ⟨i,vs,q,cq,hi,rfl,rfl,own0,HF,he⟩ := hrel;have hB := he.size
  by_cases hlt : i < n
  · have k1 := hp.ext (e0.trans he)
    go_wp2_with (first | ((with_reducible show gx2);refine wl_ldF rfl rfl rfl rfl (fun _ => rfl) rfl rfl k1 hf X.out (by omega) (by omega) ?_;intro r2 g2;have G2 := hid g2;clear g2) | ((with_reducible show gx3);refine jcm rfl rfl rfl rfl rfl ?_;intro r3 w3 e3 g3;have G3 := hid g3;clear g3;replace own0 := jah own0 e3;replace he := he.trans e3;have hB := he.size) | ((with_reducible show gx6);refine ja9 (u := .float .f32 r3) rfl rfl rfl rfl rfl rfl rfl (fun _ => rfl) (fun _ => rfl) own0 (by unfold maxLen;omega) (by omega) (by omega) ?_;intro g c w4 own4 g4 hg4));have hv : cn .f32 r3 = nD xs i := by rw [G3.out,G2.out,HV.out,Int.toNat_natCast];rfl
    have HV3 := hid hv;clear hv;go_roundw
    case rel =>
     have own5 : w4.ownsRow w2.heap.size 33 1 (.slice (some ⟨g,0,none⟩) (i + 1) c) (i + 1) (vs ++ [.float .f32 r3]) := own4;exact ⟨i + 1,vs ++ [.float .f32 r3],_,_,by omega,by go_num,rfl,own5,by rw [Hid];exact HF.out.push HV3.out,he.grown g4 (fun k hk => jas own0 k hk)⟩
    case measure => simp [intOf];omega
  · obtain rfl : n = i := by omega
    go_wp2_with fail;refine (dot_any q q n cq n cq vs vs (tab n (nD xs)) (tab n (nD xs)) _ (tab_len _ _) (tab_len _ _) (Nat.le_refl _) (by unfold maxLen;omega) (jbt own0) HF.out (jbt own0) HF.out).mono ?_;rintro e w3 ⟨r3,rfl,g3,e3⟩
    have hv : cn .f32 r3 = dotG (nD xs) (nD xs) n := by rw [g3];exact dotG_congr (fun i hi => tab_get _ hi) (fun i hi => tab_get _ hi)
    have HV3 := hid hv;clear hv g3;replace own0 := jah own0 e3;replace he := he.trans e3;go_wp2_with ((with_reducible show gx3);refine jcm rfl rfl rfl rfl rfl ?_;first | (have zz := G4;intro r5 w5 e5 g5;have G5 := hid g5;clear g5 zz;replace own0 := jah own0 e5;replace he := he.trans e5) | (intro r4 w4 e4 g4;have G4 := hid g4;clear g4;replace own0 := jah own0 e4;replace he := he.trans e4));refine (RootNumber_any r5 _).mono ?_;rintro e w6 ⟨r6,rfl,g6,e6⟩
    have hv : cn .f32 r6 = nR xs := by rw [g6,G5.out,G4.out,HV3.out,cn_near32,cn_eps,HR.out]
    have HV6 := hid hv;clear hv g6;replace own0 := jah own0 e6;replace he := he.trans e6;go_wp2_with fail;go_loopw [42] (fun iv wr => ∃ (i : Nat) (vs : List Value),i ≤ n ∧ iv = .int .i64 i ∧ wr.ownsRow w2.heap.size 33 1 (.slice q n cq) n vs ∧ Hid (F32s vs (tab n (mix (nO ws bs xs) (nD xs) i))) ∧ Ext w2 wr) (fun iv _ => n - (intOf iv).toNat)
    case atStart => exact ⟨0,vs,by omega,rfl,own0,by rw [tab_mix0];exact HF.out,he⟩
    case round =>
     clear own0 he HF hB;obtain ⟨i,vs,hi,rfl,own0,HF,he⟩ := hrel;have hB := he.size
     by_cases hlt : i < n
     · have HL := hid (tab_len n (mix (nO ws bs xs) (nD xs) i))
       have hg : (tab n (mix (nO ws bs xs) (nD xs) i)).getD i 0 = nD xs i := by rw [tab_get _ hlt];unfold mix;rw [if_neg (by omega)]
       have HG := hid hg;have hsome := (jbt own0).isS (by have := own0.1;intro h;rw [h] at this;simp at this;omega);clear hg;go_wp2;replace own0 := jah own0 (Ext.drew _);replace he := he.trans (Ext.drew _);have k1 := jbt own0;have k3 := hpw.ext (e0.trans he);have k4 := hpb.ext (e0.trans he);have k5 := he.cell f3;have k6 := he.cell f4;refine jcj 21 (F := fun _ _ _ => True) (by kernel_rfl) (by kernel_rfl) (by kernel_rfl) (by kernel_rfl) (by kernel_rfl) ?_;intro wf hwf;simp only [pw1,pw2,pw3,pw4]
       repeat (first
        | ((first | (refine ja8 rfl ?_) | (refine x_mv rfl rfl rfl ?_) | (refine x_as rfl rfl rfl ?_) | ((with_reducible show gx0);first | (refine x_ldF rfl rfl (fun _ => rfl) rfl (fun _ => rfl) rfl rfl k1 HF.out HL.out (by omega) (by omega) ?_;intro r7 g7;have G7 := hid g7;clear g7) | (refine x_ldF rfl rfl (fun _ => rfl) rfl (fun _ => rfl) rfl rfl k3 hfw HW.out (by omega) (by omega) ?_;intro r8 g8;have G8 := hid g8;clear g8) | (refine x_ldF rfl rfl (fun _ => rfl) rfl (fun _ => rfl) rfl rfl k4 hfb HB.out (by omega) (by omega) ?_;intro r9 g9;have G9 := hid g9;clear g9)) | ((with_reducible show gx8);refine x_idx rfl rfl rfl rfl hsome (by omega) (by omega) ?_) | ((with_reducible show gx1);refine x_fop rfl rfl rfl rfl rfl ?_;first | (have zz := GB;intro rC gC;have GC := hid gC;clear gC zz) | (have zz := GA;intro rB gB;have GB := hid gB;clear gB zz) | (intro rA gA;have GA := hid gA;clear gA)));simp only [Act.put,jab,pu1,pu2,pu3,pu4,pu5])
        | (refine jbw rfl fun K hK w1 hw1 => ?_;have k0 := hw1.cell (k5);have k1 := hw1.cell (k6);go_simp;refine hK _ ?_;clear hK K k0 k1 hw1 w1))
       refine jbu ?_;replace own0 := jah own0 hwf;replace he := he.trans hwf;go_wp2_with ((with_reducible show gx9);refine wl_stP (u := .float .f32 rC) rfl rfl rfl rfl rfl own0 (by omega) ?_;intro w7 own7 g7);go_roundw
       case rel =>
        refine ⟨i + 1,_,by omega,by go_num,own7,?_,he.grown g7 (fun k hk => jas own0 k hk)⟩;have q7 := G7.out;have q8 := G8.out;have q9 := G9.out;rw [Int.toNat_natCast] at q7 q8 q9;rw [HG.out] at q7;simp only [Int.toNat_natCast,Nat.mul_one,Hid];exact HF.out.put hlt (by rw [GC.out,GB.out,GA.out,q7,q8,q9,HV6.out];rfl)
       case measure => simp [intOf];omega
     · obtain rfl : n = i := by omega
       rw [tab_mixn] at HF;go_wp2;go_ret;rw [HS.out];exact retFl_own (tab_len _ _) (jak own0 e0.size) HF.out rfl (e0.trans he)
end Go.Proofs.Ytmbckkcgiafagaa
