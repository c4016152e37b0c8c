/- A part of the proofs: Mem2, Har, Fwd, Elem, Mk. -/
import Derived.Lib.AppendStr
import Derived.Test.YtlimabbeaimdgaaGreatZ02Evalua
import Derived.Test.YtlimabbeaimdgaaGreatZ01Evalua
set_option linter.unusedSimpArgs false
set_option linter.unusedVariables false
namespace Go.Proofs.YtlimabbeaimdgaaGreat
open Go.RowKit
section
variable {P : Program} {w : World} {ops : Array Oper} {rest : List Oper} {o o1 o2 : Oper} {a : Act} {Q : Exit → Act → World → Prop}
def subp (p : Option Addr) (s l c : Nat) : Option Addr := if c = l then p else p.map (·.add (l * s))
theorem Cs.sub {w : World} {p : Option Addr} {vs : List Value} (h : Cs w p vs) {s l hi c : Nat} (h1 : l ≤ hi) (h2 : hi ≤ c) : Cs w (subp p s l c) ((vs.take (hi * s)).drop (l * s)) := by
 unfold subp
 by_cases hc : c = l
 · subst hc
   have : hi = c := by omega
   subst this
   rw [if_pos rfl, List.drop_eq_nil_of_le (by simp; omega)]
   exact Cs.nil w p
 · rw [if_neg hc]
   cases p with
   | none =>
     have : vs = [] := Classical.byContradiction fun hn => by have := h.isS hn; simp at this
     subst this
     simpa using Cs.nil w none
   | some a => exact (h.take _).drop _
theorem run_slice {t e s b : Nat} {z : Value} [T : SlTy P t e s z b] {p : Option Addr} {n c l hi : Nat} {k1 k2 : IntKind} (h1 : l ≤ hi) (h2 : hi ≤ c) :
 (Instr.sliceAt t (.slice p n c) (some (.int k1 (l : Int))) (some (.int k2 (hi : Int))) none).run P w = .ok (.slice (subp p s l c) (hi - l) (c - l)) w := by
 obtain ⟨ti, hi', hzz⟩ := Option.map_eq_some_iff.1 T.inf
 simp only [Prod.mk.injEq] at hzz
 have hu := T.und
 simp [Instr.sliceAt, Instr.slice, Instr.sliceBounds, Instr.sliceBound, asIntOf, run_underlying hu, sizeOf, typeInfo, hi', hzz.2.1, subp, h1, h2]
theorem wl_slice {t e s b : Nat} {z : Value} [T : SlTy P t e s z b] {x lo hi : Operand} (hg : o.guard = none) (ho : o.op = .slice t x (some lo) (some hi) none) {p : Option Addr} {n c : Nat} {k1 k2 : IntKind} {li ui : Int} {l u : Nat}
 (hx : a.eval x = .slice p n c) (hlo : a.eval lo = .int k1 li) (hhi : a.eval hi = .int k2 ui) (h1 : li = l) (h2 : ui = u) (h3 : l ≤ u) (h4 : u ≤ c)
 (h : wpList P ops Q rest (a.put o.dst (.slice (subp p s l c) (u - l) (c - l))) w) : wpList P ops Q (o :: rest) a w := by
 subst h1; subst h2
 exact wl_value hg (by simp [execOp, ho, hx, hlo, hhi, run_slice h3 h4]) h
@[go_sem] theorem run_eql_nil {t e s b : Nat} {z : Value} [T : SlTy P t e s z b] (p : Option Addr) (n c : Nat) : (binOp .eql t (.slice p n c) (.slice none 0 0)).run P w = .ok (.bool p.isNone) w :=
 Lib.run_eql_slice_nil w t e p n c 0 0 T.und
end
def tot : (s : Sh) → s.T → Nat
 | .sl e, l => l.length + (l.map (tot e)).sum
 | .str, s => s.size
 | .pr a b, x => tot a x.1 + tot b x.2
 | _, _ => 0
def Sh.agg : Sh → Bool
 | .pr _ _ => true
 | .un => true
 | _ => false
def ofCs (s : Sh) (cs : List Value) : Value := if s.agg then .agg cs.toArray else cs.headD undef
def RetOwn (w : World) (s : Sh) (d : s.T) (e : Ending) (w' : World) : Prop :=
 ∃ cs bs, e = .returned (ofCs s cs) ∧ Own w' s cs d bs ∧ bs.Nodup ∧ (∀ b ∈ bs, w.heap.size ≤ b) ∧ Ext w w'
def RetTrue (w : World) (e : Ending) (w' : World) : Prop := e = .returned (.bool true) ∧ Ext w w'
def ToOk (f : Nat) (s : Sh) : Prop := ∀ (cs : List Value) (d : s.T) (w : World), Rep w s cs d → tot s d ≤ 1048576 → Calls Tryz.prog f #[ofCs s cs] w (RetOwn w s d)
def EqOk (f : Nat) (s : Sh) : Prop := ∀ (cs cs' : List Value) (d : s.T) (w : World), Rep w s cs d → Rep w s cs' d → tot s d ≤ 1048576 → Calls Tryz.prog f #[ofCs s cs, ofCs s cs'] w (RetTrue w)
def SzOk (f : Nat) (s : Sh) : Prop := ∀ (cs : List Value) (d : s.T) (left : Int) (w : World), Rep w s cs d → 0 ≤ left → left ≤ 1048576 → Calls Tryz.prog f #[ofCs s cs, .int .i64 left] w fun e w' => Left left (tot s d) e ∧ Ext w w'
theorem rep_val {w : World} {e : Sh} {cs : List Value} {l : List e.T} (h : Rep w (.sl e) cs l) : ∃ p c, cs = [.slice p l.length c] ∧ l.length ≤ maxLen := by
 obtain ⟨p, c, _, h1, _, h3, h4, _⟩ := h; exact ⟨p, c, h1, Nat.le_trans h3 h4⟩
theorem tot_flts (xs : List Nat) : tot (.sl .flt) xs = xs.length := by
 have : ∀ l : List Nat, (l.map (tot .flt)).sum = 0 := fun l => by induction l with | nil => rfl | cons x l ih => simpa [tot] using ih
 show xs.length + (xs.map (tot .flt)).sum = _
 rw [this]; rfl
theorem toFloat32S_ok : ToOk 34 (.sl .flt) := by
 intro cs xs w h hn
 rw [tot_flts] at hn
 obtain ⟨p, c, vs, rfl, h2, h3, h4, h5⟩ := rep_flts.1 h
 refine (toFloat32S_any p _ c vs xs w rfl (by omega) h2 h3).mono ?_
 rintro e w' ⟨g, rfl, own, he⟩
 exact ⟨_, [g], rfl, own_flts.2 ⟨_, _, vs, rfl, ownRow_of own, h3, (own_cap own).1, (own_cap own).2, rfl⟩, by simp, by simpa using own_le own g rfl, he⟩
theorem eqFloat32S_ok : EqOk 13 (.sl .flt) := by
 intro cs cs' xs w hu hv hn
 rw [tot_flts] at hn
 obtain ⟨p, c, us, rfl, h2, h3, h4, h5⟩ := rep_flts.1 hu
 obtain ⟨q, d, vs, rfl, g2, g3, g4, g5⟩ := rep_flts.1 hv
 exact eqFloat32S_true p q _ c d us vs xs w rfl (by omega) h2 g2 h3 g3
theorem szFloat32S_ok : SzOk 31 (.sl .flt) := by
 intro cs xs left w h h0 h1
 obtain ⟨p, c, rfl, hl⟩ := rep_val h
 rw [tot_flts]
 exact szFloat32S_any p _ c left w hl h0 h1
theorem Ext.cellOf {W w1 : World} (h : Ext W w1) {b : Nat} (hb : b < W.heap.size) : (∀ o, w1.cell? ⟨b, o, none⟩ = W.cell? ⟨b, o, none⟩) ∧ (∀ o, w1.frozen? ⟨b, o, none⟩ = W.frozen? ⟨b, o, none⟩) :=
 ⟨fun o => World.cell?_of_block (h.block b hb), fun o => World.frozen?_of_block (h.block b hb)⟩
theorem Chg.cellOf {S : Nat → Prop} {W w1 : World} (h : Chg S W w1) {b : Nat} (hb : b < W.heap.size) (hn : ¬ S b) : (∀ o, w1.cell? ⟨b, o, none⟩ = W.cell? ⟨b, o, none⟩) ∧ (∀ o, w1.frozen? ⟨b, o, none⟩ = W.frozen? ⟨b, o, none⟩) :=
 ⟨fun o => World.cell?_of_block (h.block b hb hn), fun o => World.frozen?_of_block (h.block b hb hn)⟩
theorem Chg.setCell {S : Nat → Prop} {w0 w : World} (h : Chg S w0 w) {p : Addr} (hp : S p.block) (u : Value) : Chg S w0 (w.setCell p u) :=
 h.trans ⟨rfl, rfl, rfl, by simp [World.setCell], fun k hk hn => Below.heap_setCell _ _ _ _ (fun he => hn (he ▸ hp))⟩
theorem Chg.alloc {S : Nat → Prop} {w0 w : World} (h : Chg S w0 w) (o : Obj) : Chg S w0 (w.alloc o) := h.trans (.of_ext (Ext.alloc w o))
theorem Chg.drew {S : Nat → Prop} {w0 w : World} (h : Chg S w0 w) : Chg S w0 w.drew := h.trans (.of_ext (Ext.drew w))
theorem nodup_app2 {a b : List Nat} (B : Nat) (h1 : a.Nodup) (h2 : b.Nodup) (l1 : ∀ x ∈ a, x < B) (l2 : ∀ x ∈ b, B ≤ x) : (a ++ b).Nodup := by
 rw [List.nodup_append]
 exact ⟨h1, h2, fun x hx y hy h => by have := l1 x hx; have := l2 y hy; omega⟩
def RF (k : FloatKind) (w : World) (r : Nat) (e : Ending) (w' : World) : Prop := ∃ b, e = .returned (.float k b) ∧ cn k b = r ∧ Ext w w'
def dotG (f g : Nat → Nat) : Nat → Nat
 | 0 => 0
 | i + 1 => fop .add .f32 (dotG f g i) (fop .mul .f32 (f i) (g i))
def sumG (f : Nat → Nat) : Nat → Nat
 | 0 => 0
 | i + 1 => fop .add .f32 (sumG f i) (f i)
theorem cn0 : cn .f32 0 = 0 := by decide +kernel
theorem dotG_congr {f f' g g' : Nat → Nat} : ∀ {n : Nat}, (∀ i, i < n → f i = f' i) → (∀ i, i < n → g i = g' i) → dotG f g n = dotG f' g' n
 | 0, _, _ => rfl
 | n + 1, h, h' => by unfold dotG; rw [dotG_congr (fun i hi => h i (by omega)) (fun i hi => h' i (by omega)), h n (by omega), h' n (by omega)]
set_option maxRecDepth 100000 in
set_option maxHeartbeats 1000000 in
theorem dot_any (p q : Option Addr) (n c m d : Nat) (us vs : List Value) (xs ys : List Nat) (w : World) (hx : xs.length = n) (hy : ys.length = m) (hm : n ≤ m) (hn : m ≤ maxLen) (hp : Cs w p us) (hf : F32s us xs) (hq : Cs w q vs) (hg : F32s vs ys) :
 Calls Tryz.prog 123 #[.slice p n c, .slice q m d] w (RF .f32 w (dotG (fun j => xs.getD j 0) (fun j => ys.getD j 0) n)) := by
 unfold maxLen at hn
 have X := hid hx
 have Y := hid hy
 clear hx hy
 go_enter Tryz.func123, Tryz.ntmps123
 go_wp2
 go_loopw [5, 9] (fun sv iv wr => ∃ (i b : Nat), i ≤ n ∧ iv = .int .i64 i ∧ sv = .float .f32 b ∧ Hid (cn .f32 b = dotG (fun j => xs.getD j 0) (fun j => ys.getD j 0) i) ∧ Ext w wr) (fun _ iv _ => n - (intOf iv).toNat)
 case atStart => exact ⟨0, 0, by omega, rfl, rfl, cn0, Ext.refl _⟩
 case round =>
  obtain ⟨i, b, hi, rfl, rfl, HB, he⟩ := hrel
  by_cases hlt : i < n
  · have k1 := hp.ext he
    have k2 := hq.ext he
    go_wp2
    replace k1 := k1.ext (Ext.drew _)
    replace k2 := k2.ext (Ext.drew _)
    refine wp_region_xall (F := fun _ _ _ => False) (by kernel_rfl) (by kernel_rfl) (by kernel_rfl) ?_
    intro wf hwf
    repeat (first
     | (refine x_skip rfl ?_; simp only [Act.put, ev_tmp, pu1, pu2, pu3, pu4, pu5])
     | (refine x_mv rfl rfl rfl ?_; simp only [Act.put, ev_tmp, pu1, pu2, pu3, pu4, pu5])
     | (refine x_as rfl rfl rfl ?_; simp only [Act.put, ev_tmp, pu1, pu2, pu3, pu4, pu5])
     | ((with_reducible show wpX _ _ _ _ _ _ (Oper.mk _ (Op.indexAddr _ _ _) _ _ _ _ :: Oper.mk _ (Op.load _ _) _ _ _ _ :: _) _); refine x_ldF rfl rfl (fun _ => rfl) rfl (fun _ => rfl) rfl rfl k1 hf X.out (by omega) (by omega) ?_; intro r1 g1; have G1 := hid g1; clear g1; simp only [Act.put, ev_tmp, pu1, pu2, pu3, pu4, pu5])
     | ((with_reducible show wpX _ _ _ _ _ _ (Oper.mk _ (Op.indexAddr _ _ _) _ _ _ _ :: Oper.mk _ (Op.load _ _) _ _ _ _ :: _) _); refine x_ldF rfl rfl (fun _ => rfl) rfl (fun _ => rfl) rfl rfl k2 hg Y.out (by omega) (by omega) ?_; intro r2 g2; have G2 := hid g2; clear g2; simp only [Act.put, ev_tmp, pu1, pu2, pu3, pu4, pu5])
     | ((with_reducible show wpX _ _ _ _ _ _ (Oper.mk _ (Op.binOp _ _ _ _ _) _ _ _ _ :: _) _); refine x_fop rfl rfl rfl rfl rfl ?_; first | (have zz := G3; intro r4 g4; have G4 := hid g4; clear g4 zz) | (intro r3 g3; have G3 := hid g3; clear g3); simp only [Act.put, ev_tmp, pu1, pu2, pu3, pu4, pu5])
     | (refine x_run rfl fun K hK w1 hw1 => ?_; go_simp; refine hK _ ?_; clear hK K  hw1 w1))
    refine x_nil ?_
    go_wp2
    go_roundw
    case rel =>
     refine ⟨i + 1, _, by omega, by go_num, rfl, ?_, (he.trans (Ext.drew _)).trans hwf⟩
     have q1 := G1.out
     have q2 := G2.out
     simp only [Int.toNat_natCast] at q1 q2
     rw [Hid, G4.out, HB.out, G3.out, q1, q2]; rfl
    case measure => simp [intOf]; omega
  · obtain rfl : i = n := by omega
    go_wp2
    go_ret
    exact ⟨b, rfl, HB.out, he⟩
set_option maxRecDepth 100000 in
set_option maxHeartbeats 1000000 in
theorem sumOf_any (p : Option Addr) (n c : Nat) (us : List Value) (xs : List Nat) (w : World) (hx : xs.length = n) (hn : n ≤ maxLen) (hp : Cs w p us) (hf : F32s us xs) :
 Calls Tryz.prog 111 #[.slice p n c] w (RF .f32 w (sumG (fun j => xs.getD j 0) n)) := by
 unfold maxLen at hn
 have X := hid hx
 clear hx
 go_enter Tryz.func111, Tryz.ntmps111
 go_wp2
 go_loopw [3, 8] (fun sv iv wr => ∃ (i b : Nat), i ≤ n ∧ iv = .int .i64 i ∧ sv = .float .f32 b ∧ Hid (cn .f32 b = sumG (fun j => xs.getD j 0) i) ∧ Ext w wr) (fun _ iv _ => n - (intOf iv).toNat)
 case atStart => exact ⟨0, 0, by omega, rfl, rfl, cn0, Ext.refl _⟩
 case round =>
  obtain ⟨i, b, hi, rfl, rfl, HB, he⟩ := hrel
  by_cases hlt : i < n
  · have k1 := hp.ext he
    go_wp2_with (first | ((with_reducible show wpList _ _ _ (Oper.mk _ (Op.indexAddr _ _ _) _ _ _ _ :: Oper.mk _ (Op.load _ _) _ _ _ _ :: _) _ _); refine wl_ldF rfl rfl rfl rfl (fun _ => rfl) rfl rfl k1 hf X.out (by omega) (by omega) ?_; intro r1 g1; have G1 := hid g1; clear g1) | ((with_reducible show wpList _ _ _ (Oper.mk _ (Op.binOp _ _ _ _ _) _ _ _ _ :: _) _ _); refine wl_fop rfl rfl rfl rfl rfl ?_; intro r3 w3 e3 g3; have G3 := hid g3; clear g3))
    go_roundw
    case rel =>
     refine ⟨i + 1, _, by omega, by go_num, rfl, ?_, he.trans (by with_reducible assumption)⟩
     have q1 := G1.out
     simp only [Int.toNat_natCast] at q1
     rw [Hid, G3.out, HB.out, q1]; rfl
    case measure => simp [intOf]; omega
  · obtain rfl : i = n := by omega
    go_wp2
    go_ret
    exact ⟨b, rfl, HB.out, he⟩
set_option maxRecDepth 100000 in
set_option maxHeartbeats 1000000 in
theorem l01Sum_any (p : Option Addr) (n c : Nat) (us : List Value) (xs : List Nat) (w : World) (hx : xs.length = n) (hn : n ≤ maxLen) (hp : Cs w p us) (hf : F32s us xs) :
 Calls Tryz.prog 100 #[.slice p n c] w (RF .f32 w (sumG (fun j => xs.getD j 0) n)) := by
 unfold maxLen at hn
 have X := hid hx
 clear hx
 go_enter Tryz.func100, Tryz.ntmps100
 go_wp2
 go_loopw [3, 4] (fun sv iv wr => ∃ (i b : Nat), i ≤ n ∧ iv = .int .i64 i ∧ sv = .float .f32 b ∧ Hid (cn .f32 b = sumG (fun j => xs.getD j 0) i) ∧ Ext w wr) (fun _ iv _ => n - (intOf iv).toNat)
 case atStart => exact ⟨0, 0, by omega, rfl, rfl, cn0, Ext.refl _⟩
 case round =>
  obtain ⟨i, b, hi, rfl, rfl, HB, he⟩ := hrel
  by_cases hlt : i < n
  · have k1 := hp.ext he
    go_wp2_with (first | ((with_reducible show wpList _ _ _ (Oper.mk _ (Op.indexAddr _ _ _) _ _ _ _ :: Oper.mk _ (Op.load _ _) _ _ _ _ :: _) _ _); refine wl_ldF rfl rfl rfl rfl (fun _ => rfl) rfl rfl k1 hf X.out (by omega) (by omega) ?_; intro r1 g1; have G1 := hid g1; clear g1) | ((with_reducible show wpList _ _ _ (Oper.mk _ (Op.binOp _ _ _ _ _) _ _ _ _ :: _) _ _); refine wl_fop rfl rfl rfl rfl rfl ?_; intro r3 w3 e3 g3; have G3 := hid g3; clear g3))
    go_roundw
    case rel =>
     refine ⟨i + 1, _, by omega, by go_num, rfl, ?_, he.trans (by with_reducible assumption)⟩
     have q1 := G1.out
     simp only [Int.toNat_natCast] at q1
     rw [Hid, G3.out, HB.out, q1]; rfl
    case measure => simp [intOf]; omega
  · obtain rfl : i = n := by omega
    go_wp2
    go_ret
    exact ⟨b, rfl, HB.out, he⟩
def reluF (x : Nat) : Nat := if fgt .f32 x 0 || !(feq .f32 x x) then x else 0
set_option maxRecDepth 100000 in
set_option maxHeartbeats 1000000 in
theorem relu_any (b : Nat) (w : World) : Calls Tryz.prog 126 #[.float .f32 b] w (RF .f32 w (reluF (cn .f32 b))) := by
 have h0 : cn .f32 0 = 0 := by decide +kernel
 have f1 := fgt_cn .f32 b 0
 have f2 := feq_cn .f32 b b
 rw [h0] at f1
 have hr : reluF (cn .f32 b) = if fgt .f32 b 0 || !(feq .f32 b b) then cn .f32 b else 0 := by unfold reluF; rw [f1, f2]
 cases ha : fgt .f32 b 0
 · cases hb : feq .f32 b b
   · have a1 : (FloatKind.f32.format.order b 0 == some .gt) = false := ha
     have a2 : (FloatKind.f32.format.order b b != some .eq) = true := by unfold feq at hb; unfold bne; rw [hb]; rfl
     rw [ha, hb] at hr
     go_enter Tryz.func126, Tryz.ntmps126
     go_wp2
     go_ret
     exact ⟨b, rfl, by rw [hr]; rfl, Ext.refl _⟩
   · have a1 : (FloatKind.f32.format.order b 0 == some .gt) = false := ha
     have a2 : (FloatKind.f32.format.order b b != some .eq) = false := by unfold feq at hb; unfold bne; rw [hb]; rfl
     rw [ha, hb] at hr
     go_enter Tryz.func126, Tryz.ntmps126
     go_wp2
     go_ret
     exact ⟨0, rfl, by rw [hr, h0]; rfl, Ext.refl _⟩
 · have a1 : (FloatKind.f32.format.order b 0 == some .gt) = true := ha
   rw [ha] at hr
   go_enter Tryz.func126, Tryz.ntmps126
   go_wp2
   go_ret
   exact ⟨b, rfl, by rw [hr]; rfl, Ext.refl _⟩
class ElTy (P : Program) (t : TypeId) (s : Sh) : Prop where
 und : (P.underlying t).map notAgg = some (!s.agg)
 inf : (P.info? t).map (fun i => i.size) = some s.sz
theorem Rep.one {w : World} : ∀ {s : Sh} {cs : List Value} {d : s.T}, Rep w s cs d → ∀ u ∈ cs, u.oneCell' = true
 | .int, _, _, r, u, hu => by cases r; simp at hu; subst hu; rfl
 | .flt, _, _, ⟨b, r, _⟩, u, hu => by cases r; simp at hu; subst hu; rfl
 | .bool, _, _, r, u, hu => by cases r; simp at hu; subst hu; rfl
 | .str, _, _, r, u, hu => by cases r; simp at hu; subst hu; rfl
 | .un, _, _, r, u, hu => by cases r; simp at hu
 | .sl e, _, _, ⟨p, c, css, r, _⟩, u, hu => by cases r; simp at hu; subst hu; rfl
 | .pr a b, _, _, ⟨ca, cb, r, h1, h2⟩, u, hu => by
   subst r
   rcases List.mem_append.1 hu with hu | hu
   · exact h1.one u hu
   · exact h2.one u hu
section
variable {P : Program} {w : World} {ops : Array Oper} {rest : List Oper} {o o1 o2 o3 : Oper} {a : Act} {Q : Exit → Act → World → Prop}
theorem single_of {s : Sh} (hs : s.agg = false) {cs : List Value} (hl : cs.length = s.sz) : ∃ v, cs = [v] := by
 cases s <;> first | (simp [Sh.agg] at hs; done) | (match cs, hl with | [v], _ => exact ⟨v, rfl⟩)
theorem run_loadE {t : TypeId} {s : Sh} [T : ElTy P t s] {q : Addr} {cs : List Value} (hc : Cs w (some q) cs) (hl : cs.length = s.sz) : (Instr.loadAt t (.pointer (some q))).run P w = .ok (ofCs s cs) w := by
 obtain ⟨d, hd, hk⟩ := Option.map_eq_some_iff.1 T.und
 obtain ⟨i, hi, hz⟩ := Option.map_eq_some_iff.1 T.inf
 by_cases hs : s.agg = true
 · rw [hs] at hk
   have hld : (loadCells q s.sz).run P w = .ok cs.toArray w := by
    rw [← hl]
    exact run_loadCells_list w q cs (fun j v hv => by have := hc.cell j v hv; rwa [adr_some] at this)
   cases d <;> first | (cases hk; done) | simp [Instr.loadAt, Instr.sureAddr, loadVar, isAgg, run_underlying hd, sizeOf, typeInfo, hi, hz, hld, ofCs, hs]
 · have hs' : s.agg = false := by simpa using hs
   rw [hs'] at hk
   obtain ⟨v, rfl⟩ := single_of hs' hl
   have h0 : w.cell? q = some v := by have := hc.cell 0 v rfl; rwa [adr_some, show q.add 0 = q by simp [Addr.add]] at this
   cases d <;> first | (cases hk; done) | simp [Instr.loadAt, Instr.sureAddr, loadVar, isAgg, run_underlying hd, load, Sem.run, h0, ofCs, hs']
theorem ofCs_cells {s : Sh} {cs : List Value} (hl : cs.length = s.sz) (h1 : ∀ u ∈ cs, u.oneCell' = true) : (ofCs s cs).cells = cs.toArray := by
 unfold ofCs
 by_cases hs : s.agg = true
 · rw [if_pos hs]; rfl
 · have hs' : s.agg = false := by simpa using hs
   obtain ⟨v, rfl⟩ := single_of hs' hl
   rw [if_neg hs]
   have := h1 v (by simp)
   cases v <;> first | rfl | (simp [Value.oneCell'] at this)
def splice (vs : List Value) (j : Nat) (cs : List Value) : List Value := vs.take j ++ cs ++ vs.drop (j + cs.length)
theorem length_splice {vs : List Value} {j : Nat} {cs : List Value} (h : j + cs.length ≤ vs.length) : (splice vs j cs).length = vs.length := by
 simp [splice]; omega
theorem OwnRow.splice {p : Option Addr} {n c : Nat} {vs : List Value} (h : OwnRow w p n c vs) (j : Nat) (cs : List Value) (hj : j + cs.length ≤ vs.length) (h1 : ∀ u ∈ cs, u.oneCell' = true) (hp : 0 < vs.length) :
 ∃ g, p = some ⟨g, 0, none⟩ ∧ (storeCells (adr p j) cs).run P w = .ok () (w.setCells g j cs) ∧ OwnRow (w.setCells g j cs) p n c (splice vs j cs) ∧ Chg (fun b => b ∈ blocksOf p) w (w.setCells g j cs) := by
 rcases h with ⟨_, _, _, rfl⟩ | ⟨g, cur, e, rfl, hg, ht⟩
 · simp at hp
 · have hsz : vs.length ≤ cur.size := by
    have : (cur.toList.take vs.length).length = vs.length := by rw [ht]
    rw [List.length_take] at this; simp at this; omega
   have hcell : ∀ k, k < cs.length → (w.cell? ⟨g, j + 0 + k, none⟩).isSome = true := fun k hk => by
    simp [World.cell?, hg, show j + k < cur.size by omega]
   have hfr : ∀ k, k < cs.length → w.frozen? ⟨g, j + 0 + k, none⟩ = false := fun k hk => by simp [World.frozen?, hg]
   have hrun := run_storeCells_cells (P := P) g j cs 0 w hcell hfr h1
   obtain ⟨hheap, hch⟩ := big cs j w cur e hg (by omega)
   refine ⟨g, rfl, ?_, .inr ⟨g, _, e, rfl, hheap, ?_⟩, hch⟩
   · rw [adr_row]; exact hrun
   · rw [length_splice hj]
     generalize hN : vs.length = N at *
     generalize hm : cs.length = m at *
     have hlj : (cur.toList.take j).length = j := by rw [List.length_take]; simp; omega
     have e1 : ((cur.toList.take j ++ cs ++ cur.toList.drop (j + m))).take N = cur.toList.take j ++ cs ++ (cur.toList.drop (j + m)).take (N - (j + m)) := by
      rw [List.take_append, List.take_of_length_le (by rw [List.length_append, hlj, hm]; omega), List.length_append, hlj, hm]
     show (cur.toList.take j ++ cs ++ cur.toList.drop (j + m)).take N = vs.take j ++ cs ++ vs.drop (j + cs.length)
     rw [e1, hm, ← ht, List.take_take, List.drop_take, show min j N = j by omega]
where
 big : ∀ (cs : List Value) (j : Nat) (w : World) (cur : Array Value) (e : TypeId) {g : Nat}, w.heap[g]? = some (.cells cur e (0, 0)) → j + cs.length ≤ cur.size →
     (w.setCells g j cs).heap[g]? = some (.cells (cur.toList.take j ++ cs ++ cur.toList.drop (j + cs.length)).toArray e (0, 0)) ∧ Chg (fun b => b ∈ blocksOf (some ⟨g, 0, none⟩)) w (w.setCells g j cs)
  | [], j, w, cur, e, g, hg, hj => ⟨by simp [World.setCells, hg], Chg.refl _ _⟩
  | v :: cs, j, w, cur, e, g, hg, hj => by
    have h1 : (w.setCell ⟨g, j, none⟩ v).heap[g]? = some (.cells (cur.setIfInBounds j v) e (0, 0)) := by simp [World.setCell, Array.getElem?_modify, hg]
    simp only [List.length_cons] at hj
    obtain ⟨h2, h3⟩ := big cs (j + 1) _ _ e h1 (by simp; omega)
    refine ⟨?_, Chg.trans (b := w.setCell ⟨g, j, none⟩ v) ⟨rfl, rfl, rfl, by simp [World.setCell], fun k hk hn => Below.heap_setCell _ _ _ _ (fun h => hn (by simp [blocksOf, h]))⟩ h3⟩
    simp only [World.setCells]
    rw [h2]
    congr 3
    rw [Array.toList_setIfInBounds]
    have hl : j < cur.toList.length := by simp; omega
    simp only [List.length_cons]
    rw [List.take_add_one, List.take_set_of_le (by omega), List.getElem?_set_self hl, List.drop_set_of_lt (by omega)]
    simp [Nat.add_assoc, Nat.add_comm 1]
/-! ### Elements in a row -/
theorem flat_len : ∀ {css : List (List Value)} {s : Nat}, (∀ c ∈ css, c.length = s) → css.flatten.length = css.length * s
 | [], s, _ => by simp
 | c :: css, s, h => by
   rw [List.flatten_cons, List.length_append, flat_len (fun c hc => h c (by simp [hc])), h c (by simp), List.length_cons, Nat.add_mul, Nat.one_mul, Nat.add_comm]
theorem flat_parts : ∀ {css : List (List Value)} {s i : Nat}, (∀ c ∈ css, c.length = s) → (hi : i < css.length) → css.flatten = (css.take i).flatten ++ css[i] ++ (css.drop (i + 1)).flatten ∧ (css.take i).flatten.length = i * s
 | [], s, i, _, hi => by simp at hi
 | c :: css, s, 0, h, hi => by simp
 | c :: css, s, i + 1, h, hi => by
   obtain ⟨h1, h2⟩ := flat_parts (css := css) (s := s) (i := i) (fun c hc => h c (by simp [hc])) (by simpa using hi)
   refine ⟨?_, ?_⟩
   · have hi' : i < css.length := by simpa using hi
     simp only [List.flatten_cons, List.take_succ_cons, List.getElem_cons_succ, List.drop_succ_cons]
     conv => lhs; rw [h1]
     simp only [List.append_assoc]
   · rw [List.take_succ_cons, List.flatten_cons, List.length_append, h2, h c (by simp), Nat.add_mul, Nat.one_mul, Nat.add_comm]
theorem flat_get {css : List (List Value)} {s i j : Nat} (h : ∀ c ∈ css, c.length = s) (hi : i < css.length) (hj : j < s) : css.flatten[i * s + j]? = css[i][j]? := by
 obtain ⟨h1, h2⟩ := flat_parts h hi
 have h3 : css[i].length = s := h _ (List.getElem_mem hi)
 rw [h1, List.append_assoc, List.getElem?_append_right (by omega), h2, Nat.add_sub_cancel_left, List.getElem?_append_left (by omega)]
theorem flat_splice {css : List (List Value)} {s i : Nat} {cs : List Value} (h : ∀ c ∈ css, c.length = s) (hi : i < css.length) (hc : cs.length = s) : splice css.flatten (i * s) cs = (css.set i cs).flatten := by
 obtain ⟨h1, h2⟩ := flat_parts h hi
 have h3 : css[i].length = s := h _ (List.getElem_mem hi)
 unfold splice
 rw [List.set_eq_take_append_cons_drop, if_pos hi, List.flatten_append, List.flatten_cons, h1, hc]
 have e1 : ((css.take i).flatten ++ css[i] ++ (css.drop (i + 1)).flatten).take (i * s) = (css.take i).flatten := by
  rw [List.append_assoc, ← h2, List.take_left]
 have e2 : ((css.take i).flatten ++ css[i] ++ (css.drop (i + 1)).flatten).drop (i * s + s) = (css.drop (i + 1)).flatten := by
  have : ((css.take i).flatten ++ css[i]).length = i * s + s := by rw [List.length_append, h2, h3]
  rw [← this, List.drop_left]
 rw [e1, e2, List.append_assoc]
theorem all_set {css : List (List Value)} {s i : Nat} {cs : List Value} (h : ∀ c ∈ css, c.length = s) (hc : cs.length = s) : ∀ c ∈ css.set i cs, c.length = s := by
 intro c hm
 rcases List.mem_or_eq_of_mem_set hm with h1 | rfl
 · exact h c h1
 · exact hc
theorem Cs.elem {w : World} {p : Option Addr} {css : List (List Value)} {s i : Nat} (hc : Cs w p css.flatten) (h : ∀ c ∈ css, c.length = s) (hi : i < css.length) : Cs w (some (adr p (i * s))) css[i] := by
 refine ⟨fun j u hu => ?_, fun _ => rfl⟩
 have hj : j < s := by have := (List.getElem?_eq_some_iff.1 hu).1; rwa [h _ (List.getElem_mem hi)] at this
 rw [adr_some]
 have h1 := hc.cell (i * s + j) u (by rw [flat_get h hi hj]; exact hu)
 unfold adr at h1 ⊢
 rw [add_add]; exact h1
theorem wl_idxloadE {t e b : Nat} {z : Value} {s : Sh} [SlTy P t e s.sz z b] [ElTy P e s] {x ix : Operand} {d : Tmp} (hg1 : o1.guard = none) (ho1 : o1.op = .indexAddr t x ix) (hg2 : o2.guard = none) (ho2 : o2.op = .load e (.tmp d))
 {p : Option Addr} {n c : Nat} {k : IntKind} {i : Int} {j : Nat} (hd : ∀ y, (a.put o1.dst y).eval (.tmp d) = y)
 (hx : a.eval x = .slice p n c) (hi : a.eval ix = .int k i) (hij : i = j) {css : List (List Value)} (hc : Cs w p css.flatten) (hall : ∀ c ∈ css, c.length = s.sz) (hvn : css.length = n) (hn : j < n) (hp : p.isSome = true) {cs : List Value} (hcs : css[j]? = some cs)
 (h : wpList P ops Q rest ((a.put o1.dst (.pointer (some (adr p (j * s.sz))))).put o2.dst (ofCs s cs)) w) : wpList P ops Q (o1 :: o2 :: rest) a w := by
 subst hij
 refine wl_idx hg1 ho1 hx hi hp (by omega) (by omega) ?_
 rw [Int.toNat_natCast]
 have hj : j < css.length := by omega
 have hce := hc.elem hall hj
 obtain ⟨_, rfl⟩ := List.getElem?_eq_some_iff.1 hcs
 exact wl_value hg2 (by simp [execOp, ho2, hd, run_loadE (P := P) (t := e) (s := s) hce (hall _ (List.getElem_mem hj))]) h
theorem wl_ldField {t e b : Nat} {z : Value} {s : Nat} {tf : TypeId} [SlTy P t e s z b] [Cell1 P tf] {x ix : Operand} {d d' : Tmp} {f off : Nat} (hg1 : o1.guard = none) (ho1 : o1.op = .indexAddr t x ix) (hg2 : o2.guard = none) (ho2 : o2.op = .fieldAddr e (.tmp d) f) (hg3 : o3.guard = none) (ho3 : o3.op = .load tf (.tmp d'))
 {p : Option Addr} {n c : Nat} {k : IntKind} {i : Int} {j : Nat} (hd : ∀ y, (a.put o1.dst y).eval (.tmp d) = y) (hd' : ∀ y u, ((a.put o1.dst y).put o2.dst u).eval (.tmp d') = u)
 (hfo : ∀ (q : Addr) (w : World), (Instr.fieldAt e (.pointer (some q)) f).run P w = .ok (.pointer (some (q.add off))) w)
 (hx : a.eval x = .slice p n c) (hi : a.eval ix = .int k i) (hij : i = j) {css : List (List Value)} (hc : Cs w p css.flatten) (hall : ∀ c ∈ css, c.length = s) (hvn : css.length = n) (hn : j < n) (hp : p.isSome = true) {cs : List Value} (hcs : css[j]? = some cs) {u : Value} (hu : cs[off]? = some u)
 (h : wpList P ops Q rest (((a.put o1.dst (.pointer (some (adr p (j * s))))).put o2.dst (.pointer (some (adr p (j * s + off))))).put o3.dst u) w) : wpList P ops Q (o1 :: o2 :: o3 :: rest) a w := by
 subst hij
 refine wl_idx hg1 ho1 hx hi hp (by omega) (by omega) ?_
 rw [Int.toNat_natCast]
 have hj : j < css.length := by omega
 obtain ⟨_, rfl⟩ := List.getElem?_eq_some_iff.1 hcs
 have hadd : (adr p (j * s)).add off = adr p (j * s + off) := by unfold adr; rw [add_add]
 refine wl_value hg2 (w' := w) (v := .pointer (some (adr p (j * s + off)))) (by simp [execOp, ho2, hd, hfo, hadd]) ?_
 have hoff : off < s := by have := (List.getElem?_eq_some_iff.1 hu).1; rwa [hall _ (List.getElem_mem hj)] at this
 have hcell : w.cell? (adr p (j * s + off)) = some u := hc.cell _ _ (by rw [flat_get hall hj hoff]; exact hu)
 exact wl_value hg3 (by simp [execOp, ho3, hd', run_load1 hcell]) h
theorem run_storeE {t : TypeId} {s : Sh} [T : ElTy P t s] {p : Option Addr} {n c j : Nat} {css : List (List Value)} {cs : List Value} (hc : OwnRow w p n c css.flatten) (hall : ∀ c ∈ css, c.length = s.sz) (hj : j < css.length) (hl : cs.length = s.sz) (hs : 0 < s.sz) (h1 : ∀ u ∈ cs, u.oneCell' = true) :
 ∃ w', (Instr.storeAt t (.pointer (some (adr p (j * s.sz)))) (ofCs s cs)).run P w = .ok () w' ∧ OwnRow w' p n c (css.set j cs).flatten ∧ Chg (fun b => b ∈ blocksOf p) w w' := by
 have hlen := flat_len hall
 have hlt : j * s.sz + cs.length ≤ css.flatten.length := by
  rw [hlen, hl]
  have : (j + 1) * s.sz ≤ css.length * s.sz := Nat.mul_le_mul_right s.sz hj
  rw [Nat.add_mul] at this; omega
 obtain ⟨g, rfl, h2, h3, h4⟩ := hc.splice (P := P) (j * s.sz) cs hlt h1 (by omega)
 rw [flat_splice hall hj hl] at h3
 obtain ⟨i, hi, hz⟩ := Option.map_eq_some_iff.1 T.inf
 have hcells := ofCs_cells hl h1
 refine ⟨_, ?_, h3, h4⟩
 simp [Instr.storeAt, Instr.sureAddr, storeVar, sizeOf, typeInfo, hi, hz, hcells, hl, h2]
theorem wl_idxE {t e b : Nat} {z : Value} {s : Nat} [SlTy P t e s z b] {x ix : Operand} (hg : o.guard = none) (ho : o.op = .indexAddr t x ix) {p : Option Addr} {n c : Nat} {k : IntKind} {i : Int} {j : Nat}
 (hx : a.eval x = .slice p n c) (hi : a.eval ix = .int k i) (hij : i = j) (hp : p.isSome = true) (hn : j < n)
 (h : wpList P ops Q rest (a.put o.dst (.pointer (some (adr p (j * s))))) w) : wpList P ops Q (o :: rest) a w := by
 subst hij
 exact wl_idx hg ho hx hi hp (by omega) (by omega) (by rw [Int.toNat_natCast]; exact h)
theorem wl_storeE {t : TypeId} {s : Sh} [T : ElTy P t s] {x y : Operand} (hg : o.guard = none) (ho : o.op = .store t x y) {p : Option Addr} {n c j : Nat} {css : List (List Value)} {cs : List Value}
 (hx : a.eval x = .pointer (some (adr p (j * s.sz)))) (hy : a.eval y = ofCs s cs) (hc : OwnRow w p n c css.flatten) (hall : ∀ c ∈ css, c.length = s.sz) (hj : j < css.length) (hl : cs.length = s.sz) (hs : 0 < s.sz) (h1 : ∀ u ∈ cs, u.oneCell' = true)
 (h : ∀ w', OwnRow w' p n c (css.set j cs).flatten → Chg (fun b => b ∈ blocksOf p) w w' → wpList P ops Q rest (a.put o.dst undef) w') : wpList P ops Q (o :: rest) a w := by
 obtain ⟨w', h2, h3, h4⟩ := run_storeE (P := P) (t := t) hc hall hj hl hs h1
 exact wl_skip hg (by simp [execOp, ho, hx, hy, h2]) (h w' h3 h4)
end
section
variable {P : Program} {w wf : World} {ops : Array Oper} {rest : List Oper} {o o1 o2 : Oper} {a : Act} {Q : Act → Prop} {F : Option Tmp → World → World → Value → Prop}
theorem x_idxloadE {t e b : Nat} {z : Value} {s : Sh} [SlTy P t e s.sz z b] [ElTy P e s] {x ix : Operand} {d : Tmp} (hw1 : Region.wanted o1 (yielded ops a.tmps) = true) (ho1 : o1.op = .indexAddr t x ix) (hw2 : ∀ y, Region.wanted o2 (yielded ops (a.put o1.dst y).tmps) = true) (ho2 : o2.op = .load e (.tmp d))
 {p : Option Addr} {n c : Nat} {k : IntKind} {i : Int} {j : Nat} (hd : ∀ y, (a.put o1.dst y).eval (.tmp d) = y)
 (hx : a.eval x = .slice p n c) (hi : a.eval ix = .int k i) (hij : i = j) {css : List (List Value)} (hc : Cs w p css.flatten) (hall : ∀ c ∈ css, c.length = s.sz) (hvn : css.length = n) (hn : j < n) (hp : p.isSome = true) {cs : List Value} (hcs : css[j]? = some cs)
 (h : wpX P ops F w wf Q rest ((a.put o1.dst (.pointer (some (adr p (j * s.sz))))).put o2.dst (ofCs s cs))) : wpX P ops F w wf Q (o1 :: o2 :: rest) a := by
 subst hij
 refine x_idx hw1 ho1 hx hi hp (by omega) (by omega) ?_
 rw [Int.toNat_natCast]
 have hj : j < css.length := by omega
 have hce := hc.elem hall hj
 obtain ⟨_, rfl⟩ := List.getElem?_eq_some_iff.1 hcs
 exact x_pure (hw2 _) (fun w1 h1 => by simp [execOp, ho2, hd, run_loadE (P := P) (t := e) (s := s) (hce.ext h1) (hall _ (List.getElem_mem hj))]) h
end
section
variable {P : Program} {w wf : World} {ops : Array Oper} {rest : List Oper} {o o1 o2 o3 : Oper} {a : Act} {Q : Act → Prop} {F : Option Tmp → World → World → Value → Prop}
theorem x_ldField {t e b : Nat} {z : Value} {s : Nat} {tf : TypeId} [SlTy P t e s z b] [Cell1 P tf] {x ix : Operand} {d d' : Tmp} {f off : Nat} (hw1 : Region.wanted o1 (yielded ops a.tmps) = true) (ho1 : o1.op = .indexAddr t x ix) (hw2 : ∀ y, Region.wanted o2 (yielded ops (a.put o1.dst y).tmps) = true) (ho2 : o2.op = .fieldAddr e (.tmp d) f)
 (hw3 : ∀ y u, Region.wanted o3 (yielded ops ((a.put o1.dst y).put o2.dst u).tmps) = true) (ho3 : o3.op = .load tf (.tmp d'))
 {p : Option Addr} {n c : Nat} {k : IntKind} {i : Int} {j : Nat} (hd : ∀ y, (a.put o1.dst y).eval (.tmp d) = y) (hd' : ∀ y u, ((a.put o1.dst y).put o2.dst u).eval (.tmp d') = u)
 (hfo : ∀ (q : Addr) (w : World), (Instr.fieldAt e (.pointer (some q)) f).run P w = .ok (.pointer (some (q.add off))) w)
 (hx : a.eval x = .slice p n c) (hi : a.eval ix = .int k i) (hij : i = j) {css : List (List Value)} (hc : Cs w p css.flatten) (hall : ∀ c ∈ css, c.length = s) (hvn : css.length = n) (hn : j < n) (hp : p.isSome = true) {cs : List Value} (hcs : css[j]? = some cs) {u : Value} (hu : cs[off]? = some u)
 (h : wpX P ops F w wf Q rest (((a.put o1.dst (.pointer (some (adr p (j * s))))).put o2.dst (.pointer (some (adr p (j * s + off))))).put o3.dst u)) : wpX P ops F w wf Q (o1 :: o2 :: o3 :: rest) a := by
 subst hij
 refine x_idx hw1 ho1 hx hi hp (by omega) (by omega) ?_
 rw [Int.toNat_natCast]
 have hj : j < css.length := by omega
 obtain ⟨_, rfl⟩ := List.getElem?_eq_some_iff.1 hcs
 have hadd : (adr p (j * s)).add off = adr p (j * s + off) := by unfold adr; rw [add_add]
 refine x_pure (hw2 _) (v := .pointer (some (adr p (j * s + off)))) (fun w1 _ => by simp [execOp, ho2, hd, hfo, hadd]) ?_
 have hoff : off < s := by have := (List.getElem?_eq_some_iff.1 hu).1; rwa [hall _ (List.getElem_mem hj)] at this
 have hcell : w.cell? (adr p (j * s + off)) = some u := hc.cell _ _ (by rw [flat_get hall hj hoff]; exact hu)
 exact x_load1 (hw3 _ _) ho3 (hd' _ _) hcell h
end
/-! ### Elements of a slice that is read -/
theorem rep_sl {w : World} {e : Sh} {cs : List Value} {l : List e.T} (h : Rep w (.sl e) cs l) : ∃ p c css, cs = [.slice p l.length c] ∧ Cs w p (List.flatten css) ∧ l.length ≤ c ∧ c ≤ maxLen ∧ All2 (Rep w e) css l ∧ (∀ c ∈ css, c.length = e.sz) ∧ css.length = l.length := by
 obtain ⟨p, c, css, h1, h2, h3, h4, h5⟩ := h
 refine ⟨p, c, css, h1, h2, h3, h4, h5, ?_, h5.length⟩
 intro cs hm
 obtain ⟨i, hi, rfl⟩ := List.mem_iff_getElem.1 hm
 obtain ⟨_, h6⟩ := h5.get' i (by rw [← h5.length]; exact hi)
 exact h6.size
theorem Cs.some_of {w : World} {p : Option Addr} {css : List (List Value)} {s i : Nat} (hc : Cs w p css.flatten) (h : ∀ c ∈ css, c.length = s) (hs : 0 < s) (hi : i < css.length) : p.isSome = true := by
 refine hc.isS fun h0 => ?_
 have := flat_len h
 rw [h0, List.length_nil] at this
 have : css.length * s ≠ 0 := Nat.mul_ne_zero (by omega) (by omega)
 omega
theorem tot_sl {e : Sh} (l : List e.T) : tot (.sl e) l = l.length + (l.map (tot e)).sum := rfl
theorem sum_take_le (f : Nat → Nat) : ∀ (l : List Nat) (i : Nat) (hi : i < l.length), (l.take i).sum + l[i] ≤ l.sum
 | [], _, hi => by simp at hi
 | x :: l, 0, _ => by simp
 | x :: l, i + 1, hi => by
   have := sum_take_le f l i (by simpa using hi)
   simp only [List.take_succ_cons, List.sum_cons, List.getElem_cons_succ]; omega
theorem tot_get {e : Sh} (l : List e.T) (i : Nat) (hi : i < l.length) : tot e l[i] + l.length ≤ tot (.sl e) l := by
 have h3 := sum_take_le id (l.map (tot e)) i (by simpa using hi)
 rw [List.getElem_map] at h3
 rw [tot_sl]; omega
theorem tot_len {e : Sh} (l : List e.T) : l.length ≤ tot (.sl e) l := by rw [tot_sl]; omega
def OwnEs (w : World) (e : Sh) (css : List (List Value)) (bss : List (List Nat)) (l : List e.T) : Prop :=
 css.length = l.length ∧ bss.length = l.length ∧ ∀ (i : Nat) (cs : List Value) (bs : List Nat) (d : e.T), css[i]? = some cs → bss[i]? = some bs → l[i]? = some d → Own w e cs d bs
theorem All2.toGet {A B : Type} {R : A → B → Prop} {us : List A} {bs : List B} (h : All2 R us bs) : ∀ (i : Nat) (a : A) (b : B), us[i]? = some a → bs[i]? = some b → R a b := by
 induction h with
 | nil => intro i a b h; simp at h
 | cons h _ ih =>
   intro i a b h1 h2
   cases i with
   | zero => simp at h1 h2; subst h1; subst h2; exact h
   | succ i => exact ih i a b (by simpa using h1) (by simpa using h2)
theorem own_sl {w : World} {e : Sh} {cs : List Value} {l : List e.T} {bs : List Nat} : Own w (.sl e) cs l bs ↔ ∃ p c css bss, cs = [.slice p l.length c] ∧ OwnRow w p l.length c (List.flatten css) ∧ l.length ≤ c ∧ c ≤ maxLen ∧ OwnEs w e css bss l ∧ bs = blocksOf p ++ bss.flatten := by
 constructor
 · rintro ⟨p, c, css, bss, h1, h2, h3, h4, h5, h6, h7, h8⟩
   refine ⟨p, c, css, bss, h1, h2, h3, h4, ⟨h6, h7, fun i a b d ha hb hd => ?_⟩, h8⟩
   exact h5.toGet i (a, b) d (by rw [List.getElem?_zip_eq_some]; exact ⟨ha, hb⟩) hd
 · rintro ⟨p, c, css, bss, h1, h2, h3, h4, ⟨h6, h7, h5⟩, h8⟩
   refine ⟨p, c, css, bss, h1, h2, h3, h4, All2.of_get (by rw [List.length_zip]; omega) (fun i a b ha hb => ?_), h6, h7, h8⟩
   obtain ⟨h9, h10⟩ := List.getElem?_zip_eq_some.1 ha
   exact h5 i _ _ _ h9 h10 hb
theorem OwnEs.chg {S : Nat → Prop} {w w' : World} {e : Sh} {css : List (List Value)} {bss : List (List Nat)} {l : List e.T} (h : OwnEs w e css bss l) (k : Chg S w w') (hS : ∀ b ∈ bss.flatten, ¬ S b) : OwnEs w' e css bss l :=
 ⟨h.1, h.2.1, fun i cs bs d h1 h2 h3 => (h.2.2 i cs bs d h1 h2 h3).chg k fun b hb => hS b (List.mem_flatten.2 ⟨bs, List.mem_of_getElem? h2, hb⟩)⟩
theorem OwnEs.all {w : World} {e : Sh} {css : List (List Value)} {bss : List (List Nat)} {l : List e.T} (h : OwnEs w e css bss l) : ∀ c ∈ css, c.length = e.sz := by
 intro cs hm
 obtain ⟨i, hi, rfl⟩ := List.mem_iff_getElem.1 hm
 have h1 := h.1; have h2 := h.2.1
 exact (h.2.2 i css[i] bss[i] l[i] (by simp) (by simp) (by simp)).rep.size
theorem nodup_split {a b : List Nat} (h : (a ++ b).Nodup) : a.Nodup ∧ b.Nodup ∧ (∀ x ∈ a, x ∉ b) ∧ (∀ x ∈ b, x ∉ a) := by
 rw [List.nodup_append] at h
 exact ⟨h.1, h.2.1, fun x hx hy => h.2.2 x hx x hy rfl, fun x hx hy => h.2.2 x hy x hx rfl⟩
theorem nodup_app {a b : List Nat} {B : Nat} (h1 : a.Nodup) (h2 : b.Nodup) (l1 : ∀ x ∈ a, x < B) (l2 : ∀ x ∈ b, B ≤ x) : (a ++ b).Nodup := by
 rw [List.nodup_append]
 exact ⟨h1, h2, fun x hx y hy h => by have := l1 x hx; have := l2 y hy; omega⟩
theorem OwnEs.snoc {w : World} {e : Sh} {css : List (List Value)} {bss : List (List Nat)} {l : List e.T} (h : OwnEs w e css bss l) {cs : List Value} {bs : List Nat} {d : e.T} (ho : Own w e cs d bs) : OwnEs w e (css ++ [cs]) (bss ++ [bs]) (l ++ [d]) := by
 obtain ⟨h1, h2, h3⟩ := h
 refine ⟨by simp [h1], by simp [h2], fun i cs' bs' d' g1 g2 g3 => ?_⟩
 by_cases hi : i < l.length
 · rw [List.getElem?_append_left (by omega)] at g1 g2 g3
   exact h3 i _ _ _ g1 g2 g3
 · rw [List.getElem?_append_right (by omega)] at g1 g2 g3
   rw [h1] at g1; rw [h2] at g2
   generalize i - l.length = j at *
   cases j with
   | zero => simp at g1 g2 g3; subst g1; subst g2; subst g3; exact ho
   | succ j => simp at g1
theorem take_set_succ {A : Type} {us : List A} {i : Nat} {x : A} (h : i < us.length) : (us.set i x).take (i + 1) = us.take i ++ [x] := by
 rw [List.take_add_one, List.take_set_of_le (Nat.le_refl _), List.getElem?_set_self h]; rfl
theorem made_rows {z : Value} {s : Nat} (n : Nat) (hz : z.cells.size = s) : ∃ us : List (List Value), us.flatten = (madeCells z.cells (n * s)).toList ∧ us.length = n ∧ ∀ c ∈ us, c.length = s := by
 subst hz
 generalize hV : (madeCells z.cells (n * z.cells.size)).toList = V
 have hV' : V.length = n * z.cells.size := by rw [← hV]; simp [madeCells]
 clear hV
 generalize z.cells.size = s at *
 induction n generalizing V with
 | zero => exact ⟨[], by simpa using (List.eq_nil_of_length_eq_zero (by simpa using hV')).symm, rfl, by simp⟩
 | succ n ih =>
   rw [Nat.add_mul, Nat.one_mul] at hV'
   obtain ⟨us, h1, h2, h3⟩ := ih (V.drop s) (by simp; omega)
   refine ⟨V.take s :: us, by rw [List.flatten_cons, h1, List.take_append_drop], by simp [h2], ?_⟩
   intro c hc
   rcases List.mem_cons.1 hc with rfl | hc
   · simp; omega
   · exact h3 c hc
end Go.Proofs.YtlimabbeaimdgaaGreat
