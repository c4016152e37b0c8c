/- A part of the proofs: Mod, App, Law, Open, Things, Par, Grow, Fwd4. -/
import Derived.Test.YtmbckkcgiafagaaZ06FnRows
import Derived.Test.YtmbckkcgiafagaaZ02FnRows
import Derived.ProofKit
import Derived.Deep.Slices
import Derived.WideShapes
import Derived.Laws.Cover2
import Derived.Test.YtmbckkcgiafagaaZ03FnRows
import Derived.Maps.AppendAt
set_option linter.unusedSimpArgs false
set_option linter.unusedVariables false
set_option maxRecDepth 100000
set_option maxHeartbeats 16000000
namespace Go.Proofs.Ytmbckkcgiafagaa
open Go.RowKit
def layD (d : jaa.T) : Bool := layB d.1 d.2.1 d.2.2.1 d.2.2.2.1.length d.2.2.2.2.1.length
def layO (d : jaa.T) : Int := d.2.2.1
def linkL : Option Int → Int → Bool
 | none,_ => true
 | some o,i => decide (i = o)
def modGo : Option Int → List jaa.T → Bool
 | _,[] => true
 | p,d :: l => layD d && (linkL p d.2.1 && modGo (some (layO d)) l)
def modB (l : List jaa.T) : Bool := decide (1 ≤ l.length) && (decide (l.length ≤ 6) && modGo none l)
def prevL (l : List jaa.T) : Nat → Option Int
 | 0 => none
 | i + 1 => l[i]?.map layO
theorem modGo_at {l : List jaa.T} {i : Nat} (hi : i < l.length) (p : Option Int) :
 modGo p (l.drop i) = (layD l[i] && (linkL p l[i].2.1 && modGo (prevL l (i + 1)) (l.drop (i + 1)))) := by
 rw [List.drop_eq_getElem_cons hi];simp [modGo,prevL,hi]
theorem lay_vals {w : World} {cs : List Value} {d : jaa.T} (h : Rep w jaa cs d) : ∃ pw cw pb cb,cs = [.int .i64 d.1,.int .i64 d.2.1,.int .i64 d.2.2.1,.slice pw d.2.2.2.1.length cw,.slice pb d.2.2.2.2.1.length cb] ∧ d.2.2.2.1.length ≤ maxLen ∧ d.2.2.2.2.1.length ≤ maxLen := by
 obtain ⟨a1,a2,a3,a4,a5,au⟩ := d;obtain ⟨_,_,rfl,rfl,_,_,rfl,rfl,_,_,rfl,rfl,_,_,rfl,h4,_,_,rfl,h5,rfl⟩ := h;obtain ⟨p4,c4,rfl,l4⟩ := rep_val h4;obtain ⟨p5,c5,rfl,l5⟩ := rep_val h5;exact ⟨p4,c4,p5,c5,rfl,l4,l5⟩
theorem l03Is_any {sp : Option Nat} (bl o' : Nat) (p : Option Addr) (n c : Nat) (l : List jaa.T) (css : List (List Value)) (w : World) (f0 : w.cell? ⟨bl,o',sp⟩ = some (.slice p n c)) (hn : l.length = n) (hm : n ≤ maxLen)
 (a2 : Cs w p css.flatten) (a5 : All2 (Rep w jaa) css l) (a6 : ∀ c ∈ css,c.length = jaa.sz) (a7 : css.length = n) :
 Calls Try.prog 75 #[.pointer (some ⟨bl,o',sp⟩)] w (RetB w (modB l)) := by
 unfold maxLen at hm;unfold modB;rw [hn]
 by_cases hn1 : 1 ≤ n
 rotate_left 1
 · rw [decide_eq_false hn1,Bool.false_and]
   clear a2 a5 a6 a7 hn;go_enter Try.func75,Try.ntmps75;go_wp2;go_ret;exact ⟨rfl,Ext.refl _⟩
 by_cases hn6 : n ≤ 6
 rotate_left 1
 · rw [decide_eq_false hn6,Bool.false_and,Bool.and_false]
   clear a2 a5 a6 a7 hn;go_enter Try.func75,Try.ntmps75;go_wp2;go_ret;exact ⟨rfl,Ext.refl _⟩
 rw [decide_eq_true hn1,decide_eq_true hn6,Bool.true_and,Bool.true_and];generalize hG : modGo none l = G;have HG := hid hG;have HL := hid hn;clear hG;go_enter Try.func75,Try.ntmps75;go_wp2;go_loopw [4] (fun iv wr => ∃ (i : Nat),i ≤ n ∧ iv = .int .i64 i ∧ Hid (modGo (prevL l i) (l.drop i) = G) ∧ Ext w wr) (fun iv _ => n - (intOf iv).toNat)
 case atStart => exact ⟨0,by omega,rfl,by simpa [Hid,prevL] using HG.out,Ext.refl w⟩
 case round =>
  obtain ⟨i,hi,rfl,HI,he⟩ := hrel;have g0 := he.cell f0
  by_cases hlt : i < n
  · have hil : i < l.length := by rw [HL.out];exact hlt
    obtain ⟨ci,hci,ri⟩ := a5.get i l[i] (by simp);obtain ⟨pw,cw,pb,cb,rfl,l1,l2⟩ := lay_vals ri;have hst := HI.out;rw [modGo_at hil] at hst;have hs1 := a2.some_of a6 (by decide) (show 0 < css.length by omega);have hp := a2.ext he;have C := hid (fun w1 (hw1 : Ext wr w1) => calls_retB (l03Layer_any (sp := (adr p (i * 5)).spot) (adr p (i * 5)).block (adr p (i * 5)).off _ _ _ pw pb _ cw _ cb w1 (fcell hp a6 a7 hlt hci 0 hw1 rfl) (fcell hp a6 a7 hlt hci 1 hw1 rfl) (fcell hp a6 a7 hlt hci 2 hw1 rfl) (fcell hp a6 a7 hlt hci 3 hw1 rfl) (fcell hp a6 a7 hlt hci 4 hw1 rfl) l1 l2));generalize hD : l[i] = d at *;have HD := hid hD;clear hD
    cases hb : layD d
    · have hG : G = false := by rw [← hst,hb];rfl
      subst hG;unfold layD at hb;rw [hb] at C;clear hb hst;obtain ⟨F,hF⟩ : ∃ F : Option Tmp → World → Value → Prop,F = fun _ _ u => u = .bool false := ⟨_,rfl⟩
      have HF := hid hF;have gd := (Ext.drew wr).cell g0;have hpd := hp.ext (Ext.drew wr);clear hF;go_wp2;refine jab (F := F) (by kernel_rfl) (by kernel_rfl) (by kernel_rfl) ?_;intro wf hwf
      repeat (first
       | ((first | (refine jal rfl ?_) | (refine x_mv rfl rfl rfl ?_) | (refine x_as rfl rfl rfl ?_) | ((with_reducible show gx5);refine x_idx (t := 36) (s := 5) (i := (i : Int)) rfl rfl rfl rfl hs1 (by omega) (by omega) ?_;rw [Int.toNat_natCast]) | ((with_reducible show gx6);refine jap (f := 119) (args := #[.pointer (some (adr p (i * 5)))]) rfl rfl Try.func119 rfl (by kernel_rfl) ?_ ?_ ?_;(focus (simp [Act.eval];done));(focus (intro w1 hw1;exact (by rw [HF.out];exact C.out w1 (((Ext.drew _).trans hw1)))));rintro u w3 e3 e4 hu;simp only [HF.out] at hu;subst hu));simp only [Act.put,jad,pu1,pu2,pu3,pu4,pu5])
       | (refine ja2 rfl fun K hK w1 hw1 => ?_;have k0 := hw1.cell (gd);go_simp;refine hK _ ?_;clear hK K k0 hw1 w1))
      refine ja1 ?_;go_wp2;go_ret;exact ⟨rfl,(he.trans (Ext.drew _)).trans hwf⟩
    have hb2 := hb;unfold layD at hb2;rw [hb2] at C;rw [hb,Bool.true_and] at hst;clear hb hb2;rcases Nat.eq_zero_or_pos i with h0 | h0
    · subst h0
      have hst2 : modGo (prevL l 1) (l.drop 1) = G := by rw [← hst];simp [linkL,prevL]
      have Hst := hid hst2;clear hst hst2;obtain ⟨F,hF⟩ : ∃ F : Option Tmp → World → Value → Prop,F = fun _ _ u => u = .bool true := ⟨_,rfl⟩
      have HF := hid hF;have gd := (Ext.drew wr).cell g0;have hpd := hp.ext (Ext.drew wr);clear hF;go_wp2;refine jab (F := F) (by kernel_rfl) (by kernel_rfl) (by kernel_rfl) ?_;intro wf hwf
      repeat (first
       | ((first | (refine jal rfl ?_) | (refine x_mv rfl rfl rfl ?_) | (refine x_as rfl rfl rfl ?_) | ((with_reducible show gx5);refine x_idx (t := 36) (s := 5) (i := ((0 : Nat) : Int)) rfl rfl rfl rfl hs1 (by omega) (by omega) ?_;rw [Int.toNat_natCast]) | ((with_reducible show gx6);refine jap (f := 119) (args := #[.pointer (some (adr p (0 * 5)))]) rfl rfl Try.func119 rfl (by kernel_rfl) ?_ ?_ ?_;(focus (simp [Act.eval];done));(focus (intro w1 hw1;exact (by rw [HF.out];exact C.out w1 (((Ext.drew _).trans hw1)))));rintro u w3 e3 e4 hu;simp only [HF.out] at hu;subst hu));simp only [Act.put,jad,pu1,pu2,pu3,pu4,pu5])
       | (refine ja2 rfl fun K hK w1 hw1 => ?_;have k0 := hw1.cell (gd);go_simp;refine hK _ ?_;clear hK K k0 hw1 w1))
      refine ja1 ?_;go_wp2;go_roundw
      case rel => exact ⟨1,by omega,by go_num,Hst.out,(he.trans (Ext.drew _)).trans hwf⟩
      case measure => simp [intOf];omega
    · obtain ⟨j,rfl⟩ : ∃ j,i = j + 1 := ⟨i - 1,by omega⟩
      obtain ⟨cj,hcj,rj⟩ := a5.get j l[j] (by simp);obtain ⟨qw,dw,qb,db,rfl,_,_⟩ := lay_vals rj;have hlk : linkL (prevL l (j + 1)) d.2.1 = decide (d.2.1 = layO l[j]) := by simp [prevL,linkL,show j < l.length by omega]
      rw [hlk] at hst;have hA : IntKind.i64.wrap (((j + 1 : Nat) : Int) - 1) = (j : Int) := by rw [show ((j + 1 : Nat) : Int) - 1 = (j : Int) by omega];exact jat _ (by omega) (by omega)
      have hB : IntKind.i64.wrap ((j : Int) + 1 - 1) = (j : Int) := by rw [show (j : Int) + 1 - 1 = (j : Int) by omega];exact jat _ (by omega) (by omega)
      have hC : IntKind.i64.wrap (j : Int) = (j : Int) := jat _ (by omega) (by omega);clear hlk
      by_cases hq : d.2.1 = layO l[j]
      · have hst2 : modGo (prevL l (j + 1 + 1)) (l.drop (j + 1 + 1)) = G := by rw [← hst];simp [hq]
        have Hst := hid hst2;have Q := bne_f hq.symm;unfold layO at Q;clear hst hst2 hq;obtain ⟨F,hF⟩ : ∃ F : Option Tmp → World → Value → Prop,F = fun _ _ u => u = .bool true := ⟨_,rfl⟩
        have HF := hid hF;have gd := (Ext.drew wr).cell g0;have hpd := hp.ext (Ext.drew wr);clear hF;go_wp2;refine jab (F := F) (by kernel_rfl) (by kernel_rfl) (by kernel_rfl) ?_;intro wf hwf
        repeat (first
         | ((first | (refine jal rfl ?_) | (refine x_mv rfl rfl rfl ?_) | (refine x_as rfl rfl rfl ?_) | ((with_reducible show gx7);first | (refine x_ldField (f := 2) (j := j) (off := 2) rfl rfl (fun _ => rfl) rfl (fun _ _ => rfl) rfl (fun _ => rfl) (fun _ _ => rfl) jaw rfl rfl (by omega) hpd a6 a7 (by omega) hs1 hcj rfl ?_) | (refine x_ldField (f := 1) (j := (j + 1)) (off := 1) rfl rfl (fun _ => rfl) rfl (fun _ _ => rfl) rfl (fun _ => rfl) (fun _ _ => rfl) jbc rfl rfl (by omega) hpd a6 a7 hlt hs1 hci rfl ?_)) | ((with_reducible show gx5);refine x_idx (t := 36) (s := 5) (i := ((j + 1 : Nat) : Int)) rfl rfl rfl rfl hs1 (by omega) (by omega) ?_;rw [Int.toNat_natCast]) | ((with_reducible show gx6);refine jap (f := 119) (args := #[.pointer (some (adr p ((j + 1) * 5)))]) rfl rfl Try.func119 rfl (by kernel_rfl) ?_ ?_ ?_;(focus (simp [Act.eval];done));(focus (intro w1 hw1;exact (by rw [HF.out];exact C.out w1 (((Ext.drew _).trans hw1)))));rintro u w3 e3 e4 hu;simp only [HF.out] at hu;subst hu));simp only [Act.put,jad,pu1,pu2,pu3,pu4,pu5])
         | (refine ja2 rfl fun K hK w1 hw1 => ?_;have k0 := hw1.cell (gd);go_simp;refine hK _ ?_;clear hK K k0 hw1 w1))
        refine ja1 ?_;go_wp2;go_roundw
        case rel => exact ⟨j + 1 + 1,by omega,by go_num,Hst.out,(he.trans (Ext.drew _)).trans hwf⟩
        case measure => simp [intOf];omega
      · have hG : G = false := by rw [← hst];simp [hq]
        subst hG;have Q := bne_t (fun h => hq h.symm);unfold layO at Q;clear hst hq;obtain ⟨F,hF⟩ : ∃ F : Option Tmp → World → Value → Prop,F = fun _ _ u => u = .bool true := ⟨_,rfl⟩
        have HF := hid hF;have gd := (Ext.drew wr).cell g0;have hpd := hp.ext (Ext.drew wr);clear hF;go_wp2;refine jab (F := F) (by kernel_rfl) (by kernel_rfl) (by kernel_rfl) ?_;intro wf hwf
        repeat (first
         | ((first | (refine jal rfl ?_) | (refine x_mv rfl rfl rfl ?_) | (refine x_as rfl rfl rfl ?_) | ((with_reducible show gx7);first | (refine x_ldField (f := 2) (j := j) (off := 2) rfl rfl (fun _ => rfl) rfl (fun _ _ => rfl) rfl (fun _ => rfl) (fun _ _ => rfl) jaw rfl rfl (by omega) hpd a6 a7 (by omega) hs1 hcj rfl ?_) | (refine x_ldField (f := 1) (j := (j + 1)) (off := 1) rfl rfl (fun _ => rfl) rfl (fun _ _ => rfl) rfl (fun _ => rfl) (fun _ _ => rfl) jbc rfl rfl (by omega) hpd a6 a7 hlt hs1 hci rfl ?_)) | ((with_reducible show gx5);refine x_idx (t := 36) (s := 5) (i := ((j + 1 : Nat) : Int)) rfl rfl rfl rfl hs1 (by omega) (by omega) ?_;rw [Int.toNat_natCast]) | ((with_reducible show gx6);refine jap (f := 119) (args := #[.pointer (some (adr p ((j + 1) * 5)))]) rfl rfl Try.func119 rfl (by kernel_rfl) ?_ ?_ ?_;(focus (simp [Act.eval];done));(focus (intro w1 hw1;exact (by rw [HF.out];exact C.out w1 (((Ext.drew _).trans hw1)))));rintro u w3 e3 e4 hu;simp only [HF.out] at hu;subst hu));simp only [Act.put,jad,pu1,pu2,pu3,pu4,pu5])
         | (refine ja2 rfl fun K hK w1 hw1 => ?_;have k0 := hw1.cell (gd);go_simp;refine hK _ ?_;clear hK K k0 hw1 w1))
        refine ja1 ?_;go_wp2;go_ret;exact ⟨rfl,(he.trans (Ext.drew _)).trans hwf⟩
  · obtain rfl : i = n := by omega
    have hst := HI.out;rw [List.drop_of_length_le (by rw [HL.out];exact Nat.le_refl _)] at hst;have hst2 : G = true := by rw [← hst];simp [modGo]
    subst hst2;go_wp2;go_ret;exact ⟨rfl,he⟩
section
variable {P : Program} {w : World} {ops : Array Oper} {rest : List Oper} {o : Oper} {a : Act} {Q : Exit → Act → World → Prop}
theorem run_append_none (base : Nat) (t ty e : TypeId) (i : TypeInfo) (size : Nat) (ht : P.underlying t = some (.slice e)) (hi : P.info? e = some i)
 (v : Value) (n c : Nat) (xs : List Value) (hown : w.ownsRow base e size v n xs) :
 (Builtin.append_ #[t,t] ty #[v,.slice none 0 c]).run P w = .ok v w := by
 rcases hown.2 with ⟨rfl,rfl⟩ | ⟨g,cap,cur,rfl,_,_,hnc,_⟩
 · simp [Builtin.append_,run_underlying ht,sizeOf,typeInfo,hi,Builtin.lenOf,Builtin.firstCells]
 · simp [Builtin.append_,run_underlying ht,sizeOf,typeInfo,hi,Builtin.lenOf,Builtin.firstCells,hnc,storeCells]
theorem wl_appz {t e s b : Nat} {z : Value} [T : SlTy P t e s z b] {x1 x2 : Operand} {v : Value} {B n m c : Nat} {vs us : List Value} {p : Option Addr}
 (hg : o.guard = none) (ho : o.op = .call { callee := .builtin .append,args := #[x1,x2],argTypes := #[t,t] })
 (hx1 : a.eval x1 = v) (hx2 : a.eval x2 = .slice p m c) (how : w.ownsRow B e s v n vs) (hc : Cs w p us) (hm : us.length = m * s) (hmc : m ≤ c) (h1 : ∀ u ∈ us,u.oneCell' = true)
 (hn : n + m ≤ maxLen) (hb : (n + m) * b ≤ 140737488355328) (hB : B ≤ w.heap.size)
 (h : ∀ v' w',w'.ownsRow B e s v' (n + m) (vs ++ us) → w.grownBy w' v.ownBlock → wpList P ops Q rest (a.put o.dst v') w') : wpList P ops Q (o :: rest) a w := by
 obtain ⟨ti,hi,hzz⟩ := Option.map_eq_some_iff.1 T.inf;simp only [Prod.mk.injEq] at hzz
 cases p with
 | some ad =>
   exact wpList_append_own _ hg x1 x2 t ho B e ti z s b T.und hi hzz.1 hzz.2.1 hzz.2.2 T.zs T.pos v n vs hx1 how ad m c us hx2 hm (fun j u hj => hc.cell j u hj) h1 hn hb hB (fun v' w' h1 h2 _ => h v' w' h1 h2)
 | none =>
   have hus : us = [] := Classical.byContradiction fun hn => by have := hc.isS hn;simp at this
   subst hus
   have hm0 : m = 0 := by
    rcases Nat.eq_zero_or_pos m with h | h
    · exact h
    · have := Nat.mul_pos h T.pos;simp at hm;omega
   subst hm0;refine wpList_plain hg fun K hK' => ?_
   have hrun := run_append_none (P := P) B t o.type e ti s T.und hi v n c vs how;unfold Oper.wp;simp [execOp,ho,resolve,invoke,builtin,hx1,hx2,hrun,Result.andThen];exact hK' _ _ (h v w (by simpa using how) (World.grownBy.refl _ _))
end
end Go.Proofs.Ytmbckkcgiafagaa
namespace Go.Proofs.Ytmbckkcgiafagaa
open Go.RowKit Go.ChangeShapes Go.WideShapes Go.ChangeAt
theorem own_knob : ownKnob Try.prog.godebug = none := by kernel_rfl
theorem laid_out : laidOutB Try.prog = true := by kernel_rfl
theorem post_true {H : Type} {enc : TypeId × Value → H} {P : Program} {f : Func} {s : ChangeSpec} {W W' : World} {args : Array Value} {ds : List (DataW H)} {before : List MemPlace} {tb : TypeId}
 (hl : laidOutB P = true) (hvs : s.vars = []) (hrt : f.resultTypes = #[tb]) (hb : P.underlying tb = some .bool)
 (hps : ∀ t ∈ f.params.toList,P.readableRec t = true ∧ t < P.types.size)
 (hfn : s.fn H (ds ++ []) = { results := [.lit (.bool true)],args := ds })
 (hW : DataW.Whole enc P f.params.toList s.vars false W args.toList ds [] before) (he : Ext W W') :
 s.post enc P f false true false false W args (.bool true) W' := by
 obtain ⟨p,q,hA,hV,hpq,hfz,hnd⟩ := hW;have hW' : DataW.Whole enc P f.params.toList s.vars false W args.toList ds [] before := ⟨p,q,hA,hV,hpq,hfz,hnd⟩
 have hq : q = [] := by
  rw [hvs] at hV;exact (trodVars_none hV).2
 subst hq;simp only [List.append_nil] at hpq;subst hpq;refine ⟨ds,[],before,[],before,[],hW',?_,?_,?_,?_,fun h => by cases h⟩
 · rw [hfn,hrt]
   exact trodAll_mk1 (shut_bool hb _)
 · rw [hfn]
   exact stays hl hps hA he.below (fun x hx => by have := hW'.lt x hx;simpa using this)
 · rw [hvs] at hV ⊢
   rw [hfn];exact hV0
 · exact he.below.frame _
where
 hV0 {H : Type} {enc : TypeId × Value → H} {P : Program} {W' : World} {sp : Nat → Bool} : DataW.TrodVars enc P W' sp [] [] [] := rfl
 stays {H : Type} {enc : TypeId × Value → H} {P : Program} {W W' : World} (hl : laidOutB P = true) : ∀ {ts : List TypeId} {vs : List Value} {ds : List (DataW H)} {ps : List MemPlace},
  (∀ t ∈ ts,P.readableRec t = true ∧ t < P.types.size) → DataW.TrodAll enc P W 0 (fun _ => true) true ts vs ds ps → Below W.heap.size W W' → (∀ x ∈ ps,x.block < W.heap.size) →
  DataW.TrodAll enc P W' 0 (fun b => decide (b < W.heap.size)) true ts vs ds ps := by
  intro ts
  induction ts with
  | nil => intro vs ds ps _ h _ _;obtain ⟨rfl,rfl,rfl⟩ := trodAll_nil h;exact trodAll_mk0
  | cons t ts ih =>
    intro vs ds ps hts h hb hlt;obtain ⟨v,vs',d,ds',p,q,rfl,rfl,rfl,h1,h2⟩ := trodAll_cons h;have ht := hts t (by simp);exact ⟨p,q,Below.trod hl ht.1 ht.2 h1 hb (fun x hx => hlt x (by simp [hx])),ih (fun t' ht' => hts t' (by simp [ht'])) h2 hb (fun x hx => hlt x (by simp [hx])),rfl⟩
end Go.Proofs.Ytmbckkcgiafagaa
namespace Go.Proofs.Ytmbckkcgiafagaa
open Go.RowKit Go.WideShapes Go.Deep Go.ChangeShapes
def Fit : (s : Sh) → s.T → Prop
 | .int,n => -9223372036854775808 ≤ n ∧ n ≤ 9223372036854775807
 | .flt,x => x < 4294967296
 | .str,s => s.size ≤ maxLen
 | .sl e,l => ∀ x ∈ l,Fit e x
 | .pr a b,x => Fit a x.1 ∧ Fit b x.2
 | _,_ => True
theorem choose_list {A : Type} {R : Nat → A → Prop} : ∀ (n : Nat),(∀ i,i < n → ∃ a,R i a) → ∃ l : List A,l.length = n ∧ ∀ i a,l[i]? = some a → R i a
 | 0,_ => ⟨[],rfl,fun i a h => by simp at h⟩
 | n + 1,h => by
   obtain ⟨l,h1,h2⟩ := choose_list n (fun i hi => h i (by omega));obtain ⟨a,ha⟩ := h n (by omega);refine ⟨l ++ [a],by simp [h1],fun i b hb => ?_⟩
   by_cases hi : i < n
   · rw [List.getElem?_append_left (by omega)] at hb;exact h2 i b hb
   · rw [List.getElem?_append_right (by omega),h1] at hb
     have : i = n := by
      have := (List.getElem?_eq_some_iff.1 hb).1;simp at this;omega
     subst this;simp at hb;subst hb;exact ha
theorem flat_len' : ∀ {css : List (List Value)} {s : Nat},(∀ c ∈ css,c.length = s) → css.flatten.length = css.length * s
 | [],s,_ => by simp
 | c :: css,s,h => by
   rw [List.flatten_cons,List.length_append,flat_len' (fun c hc => h c (by simp [hc])),h c (by simp),List.length_cons,Nat.add_mul,Nat.one_mul,Nat.add_comm]
theorem flat_get' : ∀ {css : List (List Value)} {s i j : Nat} (h : ∀ c ∈ css,c.length = s) (hi : i < css.length) (hj : j < s),css.flatten[i * s + j]? = css[i][j]?
 | [],_,_,_,_,hi,_ => by simp at hi
 | c :: css,s,0,j,h,_,hj => by
   rw [List.flatten_cons,Nat.zero_mul,Nat.zero_add,List.getElem?_append_left (by rw [h c (by simp)];exact hj)];rfl
 | c :: css,s,i + 1,j,h,hi,hj => by
   have hc := h c (by simp);rw [List.flatten_cons,Nat.add_mul,Nat.one_mul,List.getElem?_append_right (by omega),hc,show i * s + s + j - s = i * s + j by omega,flat_get' (fun c hc => h c (by simp [hc])) (by simpa using hi) hj];rfl
end Go.Proofs.Ytmbckkcgiafagaa
namespace Go.Proofs.Ytmbckkcgiafagaa
open Go.RowKit
def OutOk (w : World) (s : Sh) (r : s.T × Bool) (e : Ending) (w' : World) : Prop :=
 ∃ cs bs,e = .returned (.tuple #[ofCs s cs,.bool r.2]) ∧ Own w' s cs r.1 bs ∧ bs.Nodup ∧ (∀ b ∈ bs,w.heap.size ≤ b) ∧ Ext w w'
theorem own_nil {w : World} {e : Sh} : Own w (.sl e) [.slice none 0 0] [] [] :=
 own_sl.2 ⟨none,0,[],[],rfl,.inl ⟨rfl,rfl,rfl,rfl⟩,Nat.le_refl _,Nat.zero_le _,⟨rfl,rfl,fun i cs bs d h => by simp at h⟩,rfl⟩
theorem outOk_no {w : World} {e : Sh} {en : Ending} {w' : World} (h : en = .returned (.tuple #[.slice none 0 0,.bool false])) (hx : Ext w w') : OutOk w (.sl e) ([],false) en w' :=
 ⟨[.slice none 0 0],[],h,own_nil,by simp,by simp,hx⟩
def parF (l : List jaa.T) : List Nat := l.flatMap fun d => (d.2.2.2.1 : List Nat) ++ d.2.2.2.2.1
theorem parF_take {l : List jaa.T} {i : Nat} (h : i < l.length) : parF (l.take (i + 1)) = parF (l.take i) ++ ((l[i].2.2.2.1 : List Nat) ++ l[i].2.2.2.2.1) := by
 unfold parF;rw [List.take_add_one,List.getElem?_eq_getElem h,List.flatMap_append];simp
theorem parF_le (l : List jaa.T) (i : Nat) : (parF (l.take i)).length ≤ (parF l).length := by
 have : parF l = parF (l.take i) ++ parF (l.drop i) := by
  unfold parF;rw [← List.flatMap_append,List.take_append_drop]
 rw [this,List.length_append];omega
def RetFl (w : World) (xs : List Nat) (e : Ending) (w' : World) : Prop :=
 ∃ q c vs,e = .returned (.slice q xs.length c) ∧ w'.ownsRow w.heap.size 33 1 (.slice q xs.length c) xs.length vs ∧ F32s vs xs ∧ Ext w w'
theorem F32s.app {us vs : List Value} {xs ys : List Nat} (h : F32s us xs) (k : F32s vs ys) : F32s (us ++ vs) (xs ++ ys) := by
 refine ⟨by rw [List.length_append,List.length_append,h.1,k.1],fun i hi => ?_⟩
 by_cases hl : i < xs.length
 · obtain ⟨b,h1,h2⟩ := h.2 i hl
   exact ⟨b,by rw [List.getElem?_append_left (by rw [h.1];exact hl)];exact h1,by rw [h2];simp [List.getD_eq_getElem?_getD,List.getElem?_append_left hl]⟩
 · rw [List.length_append] at hi
   obtain ⟨b,h1,h2⟩ := k.2 (i - xs.length) (by omega);exact ⟨b,by rw [List.getElem?_append_right (by rw [h.1];omega),h.1];exact h1,by rw [h2];simp [List.getD_eq_getElem?_getD,List.getElem?_append_right (show xs.length ≤ i by omega)]⟩
theorem F32s.one {us : List Value} {xs : List Nat} (h : F32s us xs) : ∀ u ∈ us,u.oneCell' = true := by
 intro u hu;obtain ⟨i,hi,rfl⟩ := List.mem_iff_getElem.1 hu;obtain ⟨b,h1,_⟩ := h.2 i (by rw [← h.1];exact hi);rw [List.getElem?_eq_getElem hi] at h1;rw [Option.some.inj h1];rfl
theorem retFl_of {w w' : World} {xs : List Nat} {v : Value} {e : Ending} {vs : List Value} {n : Nat} (hl : xs.length = n) (h : w'.ownsRow w.heap.size 33 1 v n vs) (hf : F32s vs xs) (he : e = .returned v) (hx : Ext w w') : RetFl w xs e w' := by
 subst hl
 obtain ⟨q,c,rfl⟩ : ∃ q c,v = .slice q xs.length c := by
  rcases h.2 with ⟨h1,h2⟩ | ⟨g,cap,cur,h1,_⟩
  · exact ⟨none,0,by rw [h1,h2]⟩
  · exact ⟨_,_,h1⟩
 exact ⟨q,c,vs,he,h,hf,hx⟩
theorem lay_nums {w : World} {cs : List Value} {d : jaa.T} (h : Rep w jaa cs d) : ∃ pw cw pb cb us vs,cs = [.int .i64 d.1,.int .i64 d.2.1,.int .i64 d.2.2.1,.slice pw d.2.2.2.1.length cw,.slice pb d.2.2.2.2.1.length cb] ∧
 Cs w pw us ∧ F32s us d.2.2.2.1 ∧ d.2.2.2.1.length ≤ cw ∧ Cs w pb vs ∧ F32s vs d.2.2.2.2.1 ∧ d.2.2.2.2.1.length ≤ cb := by
 obtain ⟨a1,a2,a3,a4,a5,au⟩ := d;obtain ⟨_,_,rfl,rfl,_,_,rfl,rfl,_,_,rfl,rfl,_,_,rfl,h4,_,_,rfl,h5,rfl⟩ := h;obtain ⟨p4,c4,us,rfl,h1,h2,h3,_⟩ := ja8.1 h4;obtain ⟨p5,c5,vs,rfl,g1,g2,g3,_⟩ := ja8.1 h5;exact ⟨p4,c4,p5,c5,us,vs,rfl,h1,h2,h3,g1,g2,g3⟩
theorem params_any (p : Option Addr) (n c : Nat) (l : List jaa.T) (css : List (List Value)) (w : World) (hn : l.length = n) (hm : n ≤ maxLen)
 (a2 : Cs w p css.flatten) (a5 : All2 (Rep w jaa) css l) (a6 : ∀ c ∈ css,c.length = jaa.sz) (a7 : css.length = n) (hT : (parF l).length ≤ 1073741824) :
 Calls Try.prog 61 #[.agg #[.slice p n c]] w (RetFl w (parF l)) := by
 unfold maxLen at hm;have HL := hid hn;have HP := hid (parF_le l);clear hn;have hstart : ((w.alloc (.cells #[.slice p n c] 38)).alloc (.cells #[] 33)).ownsRow w.heap.size 33 1 (.slice (some ⟨(w.alloc (.cells #[.slice p n c] 38)).heap.size,0,none⟩) 0 0) 0 [] := World.ownsRow_made (w.alloc (.cells #[.slice p n c] 38)) #[] 0 (by simp) (by decide) rfl;have e0 := (Ext.alloc w (.cells #[.slice p n c] 38)).trans (Ext.alloc _ (.cells #[] 33));simp only [World.size_alloc] at hstart;go_enter Try.func61,Try.ntmps61;go_wp2;go_loopw [3,10] (fun bv iv wr => ∃ (i : Nat) (vs : List Value),i ≤ n ∧ iv = .int .i64 i ∧ wr.ownsRow w.heap.size 33 1 bv (parF (l.take i)).length vs ∧ Hid (F32s vs (parF (l.take i))) ∧ Ext w wr) (fun _ iv _ => n - (intOf iv).toNat)
 case atStart => exact ⟨0,[],by omega,rfl,by simpa [parF] using hstart,by simp [Hid,parF,F32s.nil],e0⟩
 case round =>
  rename_i bv _
  clear hstart e0;obtain ⟨i,vs,hi,rfl,own0,HF,he⟩ := hrel;have hB := he.size
  by_cases hlt : i < n
  · have hil : i < l.length := by rw [HL.out];exact hlt
    obtain ⟨ci,hci,ri⟩ := a5.get i l[i] (by simp);obtain ⟨pw,cw,pb,cb,us,ws,rfl,k1,k2,k3,k4,k5,k6⟩ := lay_nums ri;have hpl := HP.out (i + 1);have hpt := parF_take hil;rw [hpt,List.length_append,List.length_append] at hpl;have hs1 := a2.some_of a6 (by decide) (show 0 < css.length by omega);have hp := a2.ext he;generalize hx : parF (l.take i) = xs at *;generalize l[i] = d at *;have Hpt := hid hpt;have u1 := k2.1;have u2 := k5.1;have o1 := hid k2.one;have o2 := hid k5.one;clear hpt hx ri a5 HP
    go_wp2_with (first
     | ((with_reducible show gx2);refine ja9 (s := jaa) (j := i) rfl rfl rfl rfl (fun _ => rfl) rfl rfl rfl hp a6 a7 hlt hs1 hci ?_;simp only [ofCs,Sh.agg,if_true])
     | ((with_reducible show gx8);refine wl_appz rfl rfl rfl rfl (jaj own0 (Ext.alloc _ _)) ((k1.ext he).ext (Ext.alloc _ _)) (by rw [u1,Nat.mul_one]) k3 o1.out (by unfold maxLen;omega) (by omega) (by simp;omega) ?_;intro v1 w1 own1 g1;have e1 := (he.trans (Ext.alloc _ _)).grown g1 (fun k hk => jaf own0 k hk);have x1 := (Chg.of_grown g1).cellOf (b := wr.heap.size) (by simp) (fun h => by have := own_lt own0 _ h.symm;omega);have hB1 := e1.size)
     | ((with_reducible show gx8);refine wl_appz rfl rfl rfl rfl own1 (k4.ext e1) (by rw [u2,Nat.mul_one]) k6 o2.out (by unfold maxLen;omega) (by omega) hB1 ?_;intro v2 w2 own2 g2))
    go_roundw
    case rel =>
     refine ⟨i + 1,(vs ++ us) ++ ws,by omega,by go_num,?_,?_,e1.grown g2 (fun k hk => jaf own1 k hk)⟩
     · rw [Hpt.out,List.length_append,List.length_append,← Nat.add_assoc];exact own2
     · rw [Hid,Hpt.out,← List.append_assoc];exact (HF.out.app k2).app k5
    case measure => simp [intOf];omega
  · obtain rfl : i = n := by omega
    have ht : l.take i = l := List.take_of_length_le (by rw [HL.out];exact Nat.le_refl _);rw [ht] at own0 HF;go_wp2;go_ret;exact retFl_of rfl own0 HF.out rfl he
section
variable {P : Program} {w : World} {ops : Array Oper} {rest : List Oper} {o o1 o2 : Oper} {a : Act} {Q : Exit → Act → World → Prop}
theorem ja3 {t e s b : Nat} {z : Value} [T : SlTy P t e s z b] {x1 s2 : Operand} {d1 : Tmp} {u : Value} {v : Value} {B n : Nat} {vs : List Value}
 (hg1 : o1.guard = none) (ho1 : o1.op = .buildSlice t 1 #[(0,x1)]) (hg2 : o2.guard = none) (ho2 : o2.op = .call { callee := .builtin .append,args := #[s2,.tmp d1],argTypes := #[t,t] })
 (hx : a.eval x1 = u) (hu : u.cells.size = s) (hu1 : u.cells.toList.all (fun y => y.oneCell') = true) (hd : ∀ y,(a.put o1.dst y).eval (.tmp d1) = y) (hs : ∀ y,(a.put o1.dst y).eval s2 = v)
 (how : w.ownsRow B e s v n vs) (hn : n + 1 ≤ maxLen) (hb : (n + 1) * b ≤ 140737488355328) (hB : B ≤ w.heap.size)
 (h : ∀ g c w',w'.ownsRow B e s (.slice (some ⟨g,0,none⟩) (n + 1) c) (n + 1) (vs ++ u.cells.toList) → w.grownBy w' v.ownBlock → (v.ownBlock = some g ∨ g = w.heap.size + 1) →
  wpList P ops Q rest ((a.put o1.dst (.slice (some ⟨w.heap.size,0,none⟩) 1 1)).put o2.dst (.slice (some ⟨g,0,none⟩) (n + 1) c)) w') : wpList P ops Q (o1 :: o2 :: rest) a w := by
 obtain ⟨ti,hi,hzz⟩ := Option.map_eq_some_iff.1 T.inf;simp only [Prod.mk.injEq] at hzz;have hund := T.und;have hpos := T.pos;have hs24 := T.few
 have hrun : (execOp a.eval o1).run P w = .ok (.value (.slice (some ⟨w.heap.size,0,none⟩) 1 1)) (w.alloc (.cells u.cells e)) := by
  have hfill : Instr.fill (fun i => some (i * s,s)) ((Array.range (1 * s)).map (z.cells[· % z.cells.size]!)) [(0,u)] = some u.cells := by
   simp only [Instr.fill,hu,Array.size_map,Array.size_range,Nat.zero_mul,Nat.zero_add,Nat.one_mul,Nat.lt_irrefl,ne_eq,not_true_eq_false,decide_false,Bool.or_self,gt_iff_lt,Bool.false_eq_true,if_false]
   congr 1
   exact wl_app1.fill_all (w := w) (s := s) (b := b) (u := u) (B := B) (n := n) _ _ (by simp [hu])
  simp [execOp,ho1,hx,Instr.buildSlice,run_underlying hund,sizeOf,typeInfo,hi,hzz.2.1,zeroValue,hzz.1,show ¬ 16777216 < s by omega,show ¬ s = 0 by omega,newRow];rw [show (Array.map (fun x => z.cells[x % z.cells.size]!) (Array.range s)) = (Array.range (1 * s)).map (z.cells[· % z.cells.size]!) by rw [Nat.one_mul],hfill];simp
 refine ja7 hg1 hrun ?_;have how' := how.alloc (Obj.cells u.cells e);refine wpList_append_own_at _ hg2 s2 (.tmp d1) t ho2 B e ti z s b hund hi hzz.1 hzz.2.1 hzz.2.2 T.zs hpos v n vs (hs _) how' ⟨w.heap.size,0,none⟩ 1 1 u.cells.toList (hd _) (by simp [hu]) ?_ (List.all_eq_true.1 hu1) hn hb (by simp;omega) ?_
 · intro j y hj
   rw [Addr.add_lit,Nat.zero_add];have hnew : (w.alloc (.cells u.cells e)).heap[w.heap.size]? = some (.cells u.cells e) := heap_alloc_new w _;unfold World.cell?;rw [hnew]
   simpa using hj
 · intro v' w' h1 h2 h3 h4
   rcases h1.2 with ⟨_,h5⟩ | ⟨g,cap,cur,rfl,_⟩
   · omega
   · refine h g cap w' h1 (@wl_app1.grown_alloc w s b u B n _ _ _ _ h2) ?_
     rcases h4 with h4 | h4
     · left;rw [← h4];rfl
     · right;simp [Value.ownBlock] at h4;exact h4
end
structure GrowOwn (w : World) (B : Nat) (te : TypeId) (E : Sh) (v : Value) (l : List E.T) (css : List (List Value)) (bss : List (List Nat)) : Prop where
 row : w.ownsRow B te E.sz v l.length css.flatten
 els : OwnEs w E css bss l
 nodup : bss.flatten.Nodup
 lo : ∀ b ∈ bss.flatten,B ≤ b ∧ v.ownBlock ≠ some b
theorem OwnEs.lt {w : World} {E : Sh} {css : List (List Value)} {bss : List (List Nat)} {l : List E.T} (h : OwnEs w E css bss l) : ∀ b ∈ bss.flatten,b < w.heap.size := by
 intro b hb;obtain ⟨bj,hm,hbj⟩ := List.mem_flatten.1 hb;obtain ⟨j,hj,rfl⟩ := List.mem_iff_getElem.1 hm;have k1 := h.1;have k2 := h.2.1;exact (h.2.2 j (css[j]'(by omega)) bss[j] (l[j]'(by omega)) (by simp) (by simp) (by simp)).lt b hbj
theorem GrowOwn.ext {w w' : World} {B : Nat} {te : TypeId} {E : Sh} {v : Value} {l : List E.T} {css : List (List Value)} {bss : List (List Nat)} (h : GrowOwn w B te E v l css bss) (e : Ext w w') : GrowOwn w' B te E v l css bss :=
 ⟨jaj h.row e,h.els.chg (.of_ext e) (S := fun _ => False) (fun _ _ h => h),h.nodup,h.lo⟩
theorem GrowOwn.empty {w : World} {B : Nat} {te : TypeId} {E : Sh} {v : Value} (h : w.ownsRow B te E.sz v 0 []) : GrowOwn w B te E v [] [] [] :=
 ⟨h,⟨rfl,rfl,fun i cs bs d h => by simp at h⟩,by simp,by simp⟩
theorem GrowOwn.snoc {w0 w w' : World} {B : Nat} {te : TypeId} {E : Sh} {v : Value} {l : List E.T} {css : List (List Value)} {bss : List (List Nat)} (h : GrowOwn w0 B te E v l css bss) (hx : Ext w0 w) {cs : List Value} {d : E.T} {bs : List Nat}
 (ho : Own w E cs d bs) (hn : bs.Nodup) (hf : ∀ b ∈ bs,w0.heap.size ≤ b) (hB : B ≤ w0.heap.size) {g c n : Nat} (hln : l.length = n) (hr : w'.ownsRow B te E.sz (.slice (some ⟨g,0,none⟩) (n + 1) c) (n + 1) (css.flatten ++ cs)) (hg : w.grownBy w' v.ownBlock) (hw : v.ownBlock = some g ∨ g = w.heap.size + 1) :
 GrowOwn w' B te E (.slice (some ⟨g,0,none⟩) (n + 1) c) (l ++ [d]) (css ++ [cs]) (bss ++ [bs]) := by
 subst hln;have lt0 := h.els.lt;have hv : ∀ k,v.ownBlock = some k → k < w0.heap.size := own_lt h.row;have hsz := hx.size;have ch : Chg (fun k => some k = v.ownBlock) w w' := Chg.of_grown hg;refine ⟨by simpa [List.flatten_append] using hr,?_,?_,?_⟩
 · refine OwnEs.snoc ((h.els.chg (.of_ext hx) (S := fun _ => False) (fun _ _ h => h)).chg ch (fun b hb hk => (h.lo b hb).2 hk.symm)) (ho.chg ch fun b hb hk => ?_)
   have := hv b hk.symm;have := hf b hb;omega
 · rw [List.flatten_append,List.flatten_cons,List.flatten_nil,List.append_nil]
   exact nodup_app h.nodup hn lt0 hf
 · intro b hb
   rw [List.flatten_append,List.flatten_cons,List.flatten_nil,List.append_nil,List.mem_append] at hb
   have hlb : b < w.heap.size := by
    rcases hb with hb | hb
    · have := lt0 b hb;omega
    · exact ho.lt b hb
   refine ⟨?_,fun hk => ?_⟩
   · rcases hb with hb | hb
     · exact (h.lo b hb).1
     · have := hf b hb;omega
   · simp [Value.ownBlock] at hk;subst hk
     rcases hw with hw | hw
     · rcases hb with hb | hb
       · exact (h.lo _ hb).2 hw
       · have := hv _ hw;have := hf _ hb;omega
     · omega
theorem GrowOwn.own {w : World} {B : Nat} {te : TypeId} {E : Sh} {v : Value} {l : List E.T} {css : List (List Value)} {bss : List (List Nat)} (h : GrowOwn w B te E v l css bss) : ∃ bs,Own w (.sl E) [v] l bs ∧ bs.Nodup ∧ ∀ b ∈ bs,B ≤ b := by
 obtain ⟨h1,h2,h3,h4⟩ := h;have hrow := h1;obtain ⟨hl,hr⟩ := h1;rcases hr with ⟨rfl,h0⟩ | ⟨g,cap,cur,rfl,hg,hh,hnc,hm,hsz,ht⟩
 · have hl0 : l = [] := List.eq_nil_of_length_eq_zero h0
   subst hl0;have hb0 : bss = [] := List.eq_nil_of_length_eq_zero h2.2.1;have hc0 : css = [] := List.eq_nil_of_length_eq_zero h2.1;subst hb0;subst hc0;exact ⟨[],own_sl.2 ⟨none,0,[],[],rfl,.inl ⟨rfl,rfl,rfl,rfl⟩,Nat.le_refl _,Nat.zero_le _,h2,rfl⟩,by simp,by simp⟩
 · refine ⟨g :: bss.flatten,own_sl.2 ⟨some ⟨g,0,none⟩,cap,css,bss,rfl,ownRow_of hrow,hnc,hm,h2,rfl⟩,?_,?_⟩
   · rw [List.nodup_cons];exact ⟨fun hb => (h4 g hb).2 rfl,h3⟩
   · intro b hb
     rcases List.mem_cons.1 hb with rfl | hb
     · exact hg
     · exact (h4 b hb).1
end Go.Proofs.Ytmbckkcgiafagaa
namespace Go.Proofs.Ytmbckkcgiafagaa
open Go.RowKit Rnd
def rootF (x : Nat) : Nat := jba .f64 (fsqrt .f64 (jba .f32 x .f64)) .f32
theorem RootNumber_any (b : Nat) (w : World) : Calls Try.prog 154 #[.float .f32 b] w (RF .f32 w (rootF (cn .f32 b))) := by
 have H := hid (sqrt_over (cn .f32 b));go_enter Try.func154,Try.ntmps154;go_wp2_with (first | ((with_reducible show gx4);refine wl_conv rfl rfl rfl (by kernel_rfl) underlying_f64 (fover_widen _) ?_;intro r0 w0 e0 g0;have G0 := hid g0;clear g0) | ((with_reducible show gx8);fail));refine (Sqrt_any r0 _).mono ?_;rintro e w1 ⟨b1,rfl,g1,e1⟩
 have G1 := hid g1;clear g1;go_wp2_with ((with_reducible show gx4);refine wl_conv rfl rfl rfl (by kernel_rfl) underlying_f32 (by rw [G1.out,G0.out];exact H.out) ?_;intro r2 w2 e2 g2;have G2 := hid g2;clear g2);go_ret;exact ⟨r2,rfl,by rw [G2.out,G1.out,G0.out];rfl,(e0.trans e1).trans e2⟩
/-! Greatest numbers. -/
def rk (x : Nat) : Int := match FloatKind.f32.decode x with
 | .infinity s => sg s (pw 5000)
 | .number s m e => sg s (cnt m e)
 | .nan _ _ => 0
theorem rk_lt {s : Bool} {m : Nat} {e : Int} {x : Nat} (h : Ieee.single.read x = .number s m e) : cnt m e < pw 5000 := by
 obtain ⟨h1,h2,h3⟩ := sgl_read h;unfold cnt
 calc m * 2 ^ (e + 4000).toNat < 2 ^ 24 * 2 ^ (e + 4000).toNat := Nat.mul_lt_mul_of_pos_right (by omega) (Nat.two_pow_pos _)
  _ = 2 ^ (24 + (e + 4000).toNat) := by rw [← Nat.pow_add]
  _ ≤ pw 5000 := pw_le (by omega)
theorem sg_lt (s : Bool) {v P : Nat} (h : v < P) : - (P : Int) < sg s v ∧ sg s v < P := by unfold sg;cases s <;> simp <;> omega
theorem order_rk {x y : Nat} (hx : (FloatKind.f32.decode x).isNaN = false) (hy : (FloatKind.f32.decode y).isNaN = false) : FloatKind.f32.format.order x y = some (compare (rk x) (rk y)) := by
 have hp : (0 : Int) < ((pw 5000 : Nat) : Int) := Int.natCast_pos.2 (pw_pos _)
 cases ex : FloatKind.f32.decode x with
 | nan s f => rw [ex] at hx;cases hx
 | infinity s =>
   have rx : rk x = sg s (pw 5000) := by unfold rk;rw [ex]
   cases ey : FloatKind.f32.decode y with
   | nan s f => rw [ey] at hy;cases hy
   | infinity t =>
     have ry : rk y = sg t (pw 5000) := by unfold rk;rw [ey]
     show (FloatKind.f32.decode x).order (FloatKind.f32.decode y) = _;rw [ex,ey,rx,ry];generalize pw 5000 = P at *;unfold sg
     cases s <;> cases t
     · exact congrArg some (Eq.trans (b := .eq) rfl (Int.compare_eq_eq.2 rfl).symm)
     · exact congrArg some (Eq.trans (b := .gt) rfl (Int.compare_eq_gt.2 (by simp;omega)).symm)
     · exact congrArg some (Eq.trans (b := .lt) rfl (Int.compare_eq_lt.2 (by simp;omega)).symm)
     · exact congrArg some (Eq.trans (b := .eq) rfl (Int.compare_eq_eq.2 rfl).symm)
   | number t m e =>
     have ry : rk y = sg t (cnt m e) := by unfold rk;rw [ey]
     have hb := sg_lt t (rk_lt (x := y) ey);show (FloatKind.f32.decode x).order (FloatKind.f32.decode y) = _;rw [ex,ey,rx,ry];generalize sg t (cnt m e) = Y at *;generalize pw 5000 = P at *;show some (if s then _ else _) = _
     congr 1
     unfold sg
     cases s
     · exact (Int.compare_eq_gt.2 (by simp;omega)).symm
     · exact (Int.compare_eq_lt.2 (by simp;omega)).symm
 | number s m e =>
   have rx : rk x = sg s (cnt m e) := by unfold rk;rw [ex]
   have fx : Fin Ieee.single x s (cnt m e) := ⟨m,e,ex,by have := (sgl_read (x := x) ex).2.1;rw [show (Ieee.single).leastPlace = -149 from by decide];omega,rfl⟩
   cases ey : FloatKind.f32.decode y with
   | nan s f => rw [ey] at hy;cases hy
   | infinity t =>
     have ry : rk y = sg t (pw 5000) := by unfold rk;rw [ey]
     have hb := sg_lt s (rk_lt (x := x) ex);show (FloatKind.f32.decode x).order (FloatKind.f32.decode y) = _;rw [ex,ey,rx,ry];generalize sg s (cnt m e) = X at *;generalize pw 5000 = P at *;show some (if t then _ else _) = _
     congr 1
     unfold sg
     cases t
     · exact (Int.compare_eq_lt.2 (by simp;omega)).symm
     · exact (Int.compare_eq_gt.2 (by simp;omega)).symm
   | number t m' e' =>
     have ry : rk y = sg t (cnt m' e') := by unfold rk;rw [ey]
     have fy : Fin Ieee.single y t (cnt m' e') := ⟨m',e',ey,by have := (sgl_read (x := y) ey).2.1;rw [show (Ieee.single).leastPlace = -149 from by decide];omega,rfl⟩;rw [rx,ry];exact fin_order ok_single fx fy
theorem fgt_nan_l {x y : Nat} (h : (FloatKind.f32.decode x).isNaN = true) : fgt .f32 x y = false := by
 unfold fgt;rw [order_nan h];rfl
theorem fgt_nan_r {x y : Nat} (h : (FloatKind.f32.decode y).isNaN = true) : fgt .f32 x y = false := by
 have : FloatKind.f32.format.order x y = none := by
  show (FloatKind.f32.decode x).order (FloatKind.f32.decode y) = _;exact order_nan_r h
 unfold fgt;rw [this];rfl
theorem fgt_rk {x y : Nat} (hx : (FloatKind.f32.decode x).isNaN = false) (hy : (FloatKind.f32.decode y).isNaN = false) : fgt .f32 x y = decide (rk y < rk x) := by
 unfold fgt;rw [order_rk hx hy]
 by_cases h : rk y < rk x
 · rw [Int.compare_eq_gt.2 h,decide_eq_true h];rfl
 · rw [decide_eq_false h]
   rcases Int.lt_or_eq_of_le (Int.not_lt.1 h) with h' | h'
   · rw [Int.compare_eq_lt.2 h'];rfl
   · rw [Int.compare_eq_eq.2 h'];rfl
theorem fgt_trans {x y z : Nat} (h : fgt .f32 x y = true) (k : fgt .f32 y z = true) : fgt .f32 x z = true := by
 cases hx : (FloatKind.f32.decode x).isNaN
 · cases hy : (FloatKind.f32.decode y).isNaN
   · cases hz : (FloatKind.f32.decode z).isNaN
     · rw [fgt_rk hx hy] at h
       rw [fgt_rk hy hz] at k;rw [fgt_rk hx hz];have h := of_decide_eq_true h;have k := of_decide_eq_true k;exact decide_eq_true (by omega)
     · rw [fgt_nan_r hz] at k;cases k
   · rw [fgt_nan_r hy] at h;cases h
 · rw [fgt_nan_l hx] at h;cases h
theorem fgt_self (x : Nat) : fgt .f32 x x = false := by
 cases hx : (FloatKind.f32.decode x).isNaN
 · rw [fgt_rk hx hx];exact decide_eq_false (Int.lt_irrefl _)
 · exact fgt_nan_l hx
def gi (xs : List Nat) : Nat → Nat
 | 0 => 0
 | j + 1 => if fgt .f32 (xs.getD j 0) (xs.getD (gi xs j) 0) then j else gi xs j
theorem gi_lt (xs : List Nat) : ∀ {j : Nat},0 < j → gi xs j < j
 | 1,_ => by
   show (if fgt .f32 (xs.getD 0 0) (xs.getD 0 0) then 0 else 0) < 1
   split <;> omega
 | j + 2,_ => by
   have := gi_lt xs (j := j + 1) (by omega);have e : gi xs (j + 1 + 1) = if fgt .f32 (xs.getD (j + 1) 0) (xs.getD (gi xs (j + 1)) 0) then j + 1 else gi xs (j + 1) := rfl;rw [e]
   split <;> omega
theorem gi_max (xs : List Nat) : ∀ (j i : Nat),i < j → fgt .f32 (xs.getD i 0) (xs.getD (gi xs j) 0) = false
 | 0,_,h => by omega
 | j + 1,i,h => by
   have e : gi xs (j + 1) = if fgt .f32 (xs.getD j 0) (xs.getD (gi xs j) 0) then j else gi xs j := rfl
   cases hc : fgt .f32 (xs.getD j 0) (xs.getD (gi xs j) 0)
   · rw [e,hc]
     by_cases hij : i = j
     · subst hij;exact hc
     · exact gi_max xs j i (by omega)
   · rw [e,hc,if_pos rfl]
     by_cases hij : i = j
     · subst hij;exact fgt_self _
     · cases h2 : fgt .f32 (xs.getD i 0) (xs.getD j 0)
       · rfl
       · have := fgt_trans h2 hc
         rw [gi_max xs j i (by omega)] at this;cases this
theorem gt_eq (a b : Nat) : (FloatKind.f32.format.order a b == some .gt) = fgt .f32 (cn .f32 a) (cn .f32 b) := by rw [fgt_cn];rfl
theorem greatestOf_any (p : Option Addr) (n c : Nat) (us : List Value) (xs : List Nat) (w : World) (hx : xs.length = n) (h1 : 1 ≤ n) (hn : n ≤ maxLen) (hp : Cs w p us) (hf : F32s us xs) :
 Calls Try.prog 167 #[.slice p n c] w fun e w' => e = .returned (.int .i64 (gi xs n)) ∧ Ext w w' := by
 unfold maxLen at hn;have X := hid hx;clear hx;go_enter Try.func167,Try.ntmps167;go_wp2;go_loopw [3,8] (fun kv iv wr => ∃ (i : Nat),i ≤ n ∧ iv = .int .i64 i ∧ kv = .int .i64 (gi xs i) ∧ Ext w wr) (fun _ iv _ => n - (intOf iv).toNat)
 case atStart => exact ⟨0,by omega,rfl,rfl,Ext.refl _⟩
 case round =>
  obtain ⟨i,hi,rfl,rfl,he⟩ := hrel
  by_cases hlt : i < n
  · have k1 := hp.ext he
    have hg : gi xs i < n := by
     rcases Nat.eq_zero_or_pos i with h | h
     · subst h;show 0 < n;omega
     · have := gi_lt xs h;omega
    have hs : gi xs (i + 1) = if fgt .f32 (xs.getD i 0) (xs.getD (gi xs i) 0) then i else gi xs i := rfl;have HS := hid hs;clear hs;generalize gi xs i = k at *;go_wp2_with ((with_reducible show gx2);refine wl_ldF rfl rfl rfl rfl (fun _ => rfl) rfl rfl k1 hf X.out (by omega) (by omega) ?_;first | (have zz := G1;intro r2 g2;have G2 := hid g2;clear g2 zz) | (intro r1 g1;have G1 := hid g1;clear g1))
    all_goals go_roundw
    all_goals first
     | (case rel =>
      refine ⟨i + 1,by omega,by go_num,?_,he⟩
      rename_i hc
      have q1 := G1.out;have q2 := G2.out;simp only [Int.toNat_natCast] at q1 q2;have hh := gt_eq r1 r2;rw [q1,q2] at hh;rw [HS.out]
      first
       | (rw [hc] at hh;rw [← hh];rfl)
       | (rw [decide_eq_true hc] at hh;rw [← hh];rfl))
     | (case measure => simp [intOf];omega)
  · obtain rfl : i = n := by omega
    go_wp2;go_ret;exact ⟨rfl,he⟩
end Go.Proofs.Ytmbckkcgiafagaa
