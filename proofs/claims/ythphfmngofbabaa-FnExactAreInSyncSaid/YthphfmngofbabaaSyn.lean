/- Models that are in sync: the reference's comparison of two models. -/
import Derived.Test.YthphfmngofbabaaMod2
import Derived.Test.YthphfmngofbabaaPar
import Derived.Test.YthphfmngofbabaaLays
import Derived.Test.YthphfmngofbabaaSto
namespace Go.Proofs.Ythphfmngofbabaa
set_option linter.unusedSimpArgs false
set_option linter.unusedVariables false
open Go.RowKit

def kio (x y : shLayer.T) : Bool := decide ((x.1 : Int) = y.1) && (decide ((x.2.1 : Int) = y.2.1) && decide ((x.2.2.1 : Int) = y.2.2.1))
theorem kio_iff {x y : shLayer.T} : kio x y = true ↔ (x.1 : Int) = y.1 ∧ (x.2.1 : Int) = y.2.1 ∧ (x.2.2.1 : Int) = y.2.2.1 := by
  unfold kio; simp only [Bool.and_eq_true, decide_eq_true_eq]
/-- What l10Same says. -/
def sameM (a b : List shLayer.T) : Bool := decide (a.length = b.length) && (!anyTo (fun i => !atB kio a b i) a.length && decide (parF a = parF b))
theorem lay_eq {x y : shLayer.T} (hx : layD x = true) (hy : layD y = true) (h : kio x y = true) {p q : List Nat} (he : ((x.2.2.2.1 : List Nat) ++ x.2.2.2.2.1) ++ p = ((y.2.2.2.1 : List Nat) ++ y.2.2.2.2.1) ++ q) : x = y ∧ p = q := by
  obtain ⟨k, i, o, a, b, u⟩ := x
  obtain ⟨k', i', o', a', b', u'⟩ := y
  obtain ⟨h1, h2, h3⟩ := kio_iff.1 h
  dsimp only at h1 h2 h3 he
  unfold layD layB at hx hy
  dsimp only at hx hy
  simp only [Bool.and_eq_true, decide_eq_true_eq] at hx hy
  have a1 := hx.2.2.2.2.1
  have a2 := hx.2.2.2.2.2
  have b1 := hy.2.2.2.2.1
  have b2 := hy.2.2.2.2.2
  have e1 : a.length = a'.length := by
    have : (a.length : Int) = a'.length := by rw [a1, b1, h1, h2, h3]
    omega
  have e2 : b.length = b'.length := by
    have : (b.length : Int) = b'.length := by rw [a2, b2, h1, h2, h3]
    omega
  have e3 : ((a : List Nat) ++ b).length = ((a' : List Nat) ++ b').length := by rw [List.length_append, List.length_append, e1, e2]
  obtain ⟨h4, h5⟩ := List.append_inj he e3
  obtain ⟨h6, h7⟩ := List.append_inj h4 e1
  subst h6 h7
  refine ⟨?_, h5⟩
  have : u = u' := by cases u; cases u'; rfl
  subst this
  exact Prod.ext h1 (Prod.ext h2 (Prod.ext h3 rfl))
theorem par_eq : ∀ {a b : List shLayer.T}, (∀ d ∈ a, layD d = true) → (∀ d ∈ b, layD d = true) → a.length = b.length → (∀ i, i < a.length → atB kio a b i = true) → parF a = parF b → a = b
  | [], [], _, _, _, _, _ => rfl
  | [], _ :: _, _, _, h, _, _ => by simp at h
  | _ :: _, [], _, _, h, _, _ => by simp at h
  | x :: a, y :: b, ha, hb, hl, hk, hp => by
    have e1 : parF (x :: a) = ((x.2.2.2.1 : List Nat) ++ x.2.2.2.2.1) ++ parF a := by simp [parF]
    have e2 : parF (y :: b) = ((y.2.2.2.1 : List Nat) ++ y.2.2.2.2.1) ++ parF b := by simp [parF]
    rw [e1, e2] at hp
    have h0 : kio x y = true := by have := hk 0 (by simp); rwa [atB_in (x := x) (y := y) rfl rfl] at this
    obtain ⟨rfl, h2⟩ := lay_eq (ha x (by simp)) (hb y (by simp)) h0 hp
    have := par_eq (a := a) (b := b) (fun d hd => ha d (by simp [hd])) (fun d hd => hb d (by simp [hd])) (by simpa using hl) (fun i hi => by
      have := hk (i + 1) (by simpa using hi)
      unfold atB at this ⊢
      simpa using this) h2
    rw [this]
theorem sameM_eq {a b : List shLayer.T} (ha : modB a = true) (hb : modB b = true) : sameM a b = eqT (.sl shLayer) b a := by
  unfold modB at ha hb
  simp only [Bool.and_eq_true, decide_eq_true_eq] at ha hb
  have h1 := modGo_all ha.2.2
  have h2 := modGo_all hb.2.2
  rw [Bool.eq_iff_iff, eqT_iff]
  unfold sameM
  simp only [Bool.and_eq_true, decide_eq_true_eq]
  constructor
  · rintro ⟨h3, h4, h5⟩
    refine (par_eq h1 h2 h3 (fun i hi => ?_) h5).symm
    cases hc : atB kio a b i
    · have := (anyTo_true (q := fun i => !atB kio a b i)).2 ⟨i, hi, by rw [hc]; rfl⟩
      rw [this] at h4; cases h4
    · rfl
  · rintro rfl
    refine ⟨rfl, ?_, rfl⟩
    rw [anyTo_false fun i hi => ?_]; · rfl
    have hx : b[i]? = some b[i] := by simp
    rw [atB_in hx hx]
    have : kio b[i] b[i] = true := kio_iff.2 ⟨rfl, rfl, rfl⟩
    rw [this]; rfl
theorem parF_in32 {l : List shLayer.T} (h : ∀ x ∈ l, Fit shLayer x) : In32 (parF l) := by
  intro z hz
  unfold parF at hz
  rw [List.mem_flatMap] at hz
  obtain ⟨d, hd, hz⟩ := hz
  have hf := h d hd
  obtain ⟨k, i, o, a, b, u⟩ := d
  obtain ⟨_, _, _, f1, f2, _⟩ := hf
  rcases List.mem_append.1 hz with hz | hz
  · exact f1 _ hz
  · exact f2 _ hz
set_option maxRecDepth 100000 in
set_option maxHeartbeats 4000000 in
theorem l10Same_any {sa sb : Option Nat} (b1 o1 b2 o2 : Nat) (p q : Option Addr) (n m c d : Nat) (css dss : List (List Value)) (l l2 : List shLayer.T) (w : World) (L1 : Lays w p n css l) (L2 : Lays w q m dss l2) (hn : (parF l).length ≤ 1048576) (hm : (parF l2).length ≤ 1048576)
    (g0 : w.cell? ⟨b1, o1, sa⟩ = some (.slice p n c)) (h0 : w.cell? ⟨b2, o2, sb⟩ = some (.slice q m d)) :
    Calls Try.prog 88 #[.pointer (some ⟨b1, o1, sa⟩), .pointer (some ⟨b2, o2, sb⟩)] w (RetB w (sameM l l2)) := by
  have Le1 := L1.le
  have Le2 := L2.le
  unfold maxLen at Le1 Le2
  have gd := (Ext.drew w).cell g0
  have hd := (Ext.drew w).cell h0
  have Cp := hid (fun W (h : Ext w W) => l03Params_any (sp := sa) b1 o1 p n c l css W (h.cell g0) L1.len L1.le (L1.cs.ext h) (L1.ext h).all L1.size L1.cnt (Nat.le_trans hn (by decide)))
  have Cq := hid (fun W (h : Ext w W) => l03Params_any (sp := sb) b2 o2 q m d l2 dss W (h.cell h0) L2.len L2.le (L2.cs.ext h) (L2.ext h).all L2.size L2.cnt (Nat.le_trans hm (by decide)))
  have I1 := hid (parF_in32 L1.fit)
  have I2 := hid (parF_in32 L2.fit)
  have hl1 := L1.len
  have hl2 := L2.len
  unfold sameM
  rw [hl1, hl2]
  by_cases e0 : n = m
  rotate_left 1
  · rw [decide_eq_false e0, Bool.false_and]
    have Q0 := bne_t (show ¬ (n : Int) = m by omega)
    clear e0 hn hm hl1 hl2
    go_enter Try.func88, Try.ntmps88
    go_wp2
    refine wp_region_xall (F := fun _ _ _ => True) (by kernel_rfl) (by kernel_rfl) (by kernel_rfl) ?_
    intro wf hwf
    repeat (first
      | (refine x_skip rfl ?_; simp only [Act.put, ev_tmp, List.setIfInBounds_toArray, List.set_cons_succ, List.set_cons_zero, List.getD_cons_succ, List.getD_cons_zero])
      | (refine x_mv rfl rfl rfl ?_; simp only [Act.put, ev_tmp, List.setIfInBounds_toArray, List.set_cons_succ, List.set_cons_zero, List.getD_cons_succ, List.getD_cons_zero])
      | (refine x_as rfl rfl rfl ?_; simp only [Act.put, ev_tmp, List.setIfInBounds_toArray, List.set_cons_succ, List.set_cons_zero, List.getD_cons_succ, List.getD_cons_zero])
      | (refine x_run rfl fun K hK w1 hw1 => ?_; have k0 := hw1.cell (gd); have k1 := hw1.cell (hd); go_simp; refine hK _ ?_; clear hK K k0 k1 hw1 w1))
    refine x_nil ?_
    go_wp2
    go_ret
    exact ⟨rfl, (Ext.drew _).trans hwf⟩
  rw [decide_eq_true e0, Bool.true_and]
  subst e0
  have Q0 := bne_f (Eq.refl (n : Int))
  have Hl1 := hid hl1
  have Hl2 := hid hl2
  clear hl1 hl2
  have Hn := hid hn
  have Hm := hid hm
  clear hn hm
  go_enter Try.func88, Try.ntmps88
  go_wp2
  refine wp_region_xall (F := fun _ _ _ => True) (by kernel_rfl) (by kernel_rfl) (by kernel_rfl) ?_
  intro wf hwf
  repeat (first
    | (refine x_skip rfl ?_; simp only [Act.put, ev_tmp, List.setIfInBounds_toArray, List.set_cons_succ, List.set_cons_zero, List.getD_cons_succ, List.getD_cons_zero])
    | (refine x_mv rfl rfl rfl ?_; simp only [Act.put, ev_tmp, List.setIfInBounds_toArray, List.set_cons_succ, List.set_cons_zero, List.getD_cons_succ, List.getD_cons_zero])
    | (refine x_as rfl rfl rfl ?_; simp only [Act.put, ev_tmp, List.setIfInBounds_toArray, List.set_cons_succ, List.set_cons_zero, List.getD_cons_succ, List.getD_cons_zero])
    | (refine x_run rfl fun K hK w1 hw1 => ?_; have k0 := hw1.cell (gd); have k1 := hw1.cell (hd); go_simp; refine hK _ ?_; clear hK K k0 k1 hw1 w1))
  refine x_nil ?_
  have he0 := (Ext.drew w).trans hwf
  clear hwf gd hd Q0
  go_wp2
  go_loopw [5] (fun iv wr => ∃ i : Nat, i ≤ n ∧ iv = .int .i64 i ∧ Hid (∀ j, j < i → atB kio l l2 j = true) ∧ Ext w wr) (fun iv _ => n - (intOf iv).toNat)
  case atStart => exact ⟨0, by omega, rfl, hid (fun j hj => absurd hj (Nat.not_lt_zero j)), he0⟩
  case round =>
    clear he0
    obtain ⟨i, hi, rfl, Hall, he⟩ := hrel
    have a0 := he.cell g0
    have a1 := he.cell h0
    by_cases hlt : i < n
    · have hp' := L1.cs.ext he
      have hq' := L2.cs.ext he
      obtain ⟨ci, e1, r1⟩ := L1.all.get i (l[i]'(by rw [L1.len]; exact hlt)) (by simp)
      obtain ⟨di, e2, r2⟩ := L2.all.get i (l2[i]'(by rw [L2.len]; exact hlt)) (by simp)
      have hb := atB_in (f := kio) (l := l) (m := l2) (i := i) (x := l[i]'(by rw [L1.len]; exact hlt)) (y := l2[i]'(by rw [L2.len]; exact hlt)) (by simp) (by simp)
      generalize l[i]'(by rw [L1.len]; exact hlt) = d at *
      generalize l2[i]'(by rw [L2.len]; exact hlt) = e at *
      obtain ⟨pw, cw, pb, cb, rfl, _, _⟩ := lay_vals r1
      obtain ⟨qw, dw, qb, db, rfl, _, _⟩ := lay_vals r2
      obtain ⟨x1, x2, x3, x4, x5, xu⟩ := d
      obtain ⟨y1, y2, y3, y4, y5, yu⟩ := e
      dsimp only at *
      have hs1 := L1.cs.some_of L1.size (by decide) (show 0 < css.length by rw [L1.cnt]; omega)
      have hs2 := L2.cs.some_of L2.size (by decide) (show 0 < dss.length by rw [L2.cnt]; omega)
      have hk : kio (x1, x2, x3, x4, x5, xu) (y1, y2, y3, y4, y5, yu) = (decide ((x1 : Int) = y1) && (decide ((x2 : Int) = y2) && decide ((x3 : Int) = y3))) := rfl
      rw [hk] at hb
      clear hk r1 r2
      have z1 := L1.size
      have z2 := L2.size
      have n1 := L1.cnt
      have n2 := L2.cnt
      have ad := (Ext.drew wr).cell a0
      have bd := (Ext.drew wr).cell a1
      have hpd := hp'.ext (Ext.drew wr)
      have hqd := hq'.ext (Ext.drew wr)
      by_cases k1 : (x1 : Int) = y1
      · rw [decide_eq_true k1, Bool.true_and] at hb
        have Q1 := bne_f k1
        clear k1
        by_cases k2 : (x2 : Int) = y2
        · rw [decide_eq_true k2, Bool.true_and] at hb
          have Q2 := bne_f k2
          clear k2
          by_cases k3 : (x3 : Int) = y3
          · rw [decide_eq_true k3] at hb
            have Q3 := bne_f k3
            clear k3
            go_wp2
            refine wp_region_xall (F := fun _ _ _ => True) (by kernel_rfl) (by kernel_rfl) (by kernel_rfl) ?_
            intro wf hwf
            repeat (first
              | (refine x_skip rfl ?_; simp only [Act.put, ev_tmp, List.setIfInBounds_toArray, List.set_cons_succ, List.set_cons_zero, List.getD_cons_succ, List.getD_cons_zero])
              | (refine x_mv rfl rfl rfl ?_; simp only [Act.put, ev_tmp, List.setIfInBounds_toArray, List.set_cons_succ, List.set_cons_zero, List.getD_cons_succ, List.getD_cons_zero])
              | (refine x_as rfl rfl rfl ?_; simp only [Act.put, ev_tmp, List.setIfInBounds_toArray, List.set_cons_succ, List.set_cons_zero, List.getD_cons_succ, List.getD_cons_zero])
              | ((with_reducible show wpX _ _ _ _ _ _ (Oper.mk _ (Op.indexAddr _ _ _) _ _ _ _ :: Oper.mk _ (Op.fieldAddr _ _ _) _ _ _ _ :: Oper.mk _ (Op.load _ _) _ _ _ _ :: _) _); refine x_ldField (f := 0) (j := i) (off := 0) rfl rfl (fun _ => rfl) rfl (fun _ _ => rfl) rfl (fun _ => rfl) (fun _ _ => rfl) fo_implLayer_0 rfl rfl rfl hpd z1 n1 hlt hs1 e1 rfl ?_; simp only [Act.put, ev_tmp, List.setIfInBounds_toArray, List.set_cons_succ, List.set_cons_zero, List.getD_cons_succ, List.getD_cons_zero])
              | ((with_reducible show wpX _ _ _ _ _ _ (Oper.mk _ (Op.indexAddr _ _ _) _ _ _ _ :: Oper.mk _ (Op.fieldAddr _ _ _) _ _ _ _ :: Oper.mk _ (Op.load _ _) _ _ _ _ :: _) _); refine x_ldField (f := 0) (j := i) (off := 0) rfl rfl (fun _ => rfl) rfl (fun _ _ => rfl) rfl (fun _ => rfl) (fun _ _ => rfl) fo_implLayer_0 rfl rfl rfl hqd z2 n2 hlt hs2 e2 rfl ?_; simp only [Act.put, ev_tmp, List.setIfInBounds_toArray, List.set_cons_succ, List.set_cons_zero, List.getD_cons_succ, List.getD_cons_zero])
              | ((with_reducible show wpX _ _ _ _ _ _ (Oper.mk _ (Op.indexAddr _ _ _) _ _ _ _ :: Oper.mk _ (Op.fieldAddr _ _ _) _ _ _ _ :: Oper.mk _ (Op.load _ _) _ _ _ _ :: _) _); refine x_ldField (f := 1) (j := i) (off := 1) rfl rfl (fun _ => rfl) rfl (fun _ _ => rfl) rfl (fun _ => rfl) (fun _ _ => rfl) fo_implLayer_1 rfl rfl rfl hpd z1 n1 hlt hs1 e1 rfl ?_; simp only [Act.put, ev_tmp, List.setIfInBounds_toArray, List.set_cons_succ, List.set_cons_zero, List.getD_cons_succ, List.getD_cons_zero])
              | ((with_reducible show wpX _ _ _ _ _ _ (Oper.mk _ (Op.indexAddr _ _ _) _ _ _ _ :: Oper.mk _ (Op.fieldAddr _ _ _) _ _ _ _ :: Oper.mk _ (Op.load _ _) _ _ _ _ :: _) _); refine x_ldField (f := 1) (j := i) (off := 1) rfl rfl (fun _ => rfl) rfl (fun _ _ => rfl) rfl (fun _ => rfl) (fun _ _ => rfl) fo_implLayer_1 rfl rfl rfl hqd z2 n2 hlt hs2 e2 rfl ?_; simp only [Act.put, ev_tmp, List.setIfInBounds_toArray, List.set_cons_succ, List.set_cons_zero, List.getD_cons_succ, List.getD_cons_zero])
              | ((with_reducible show wpX _ _ _ _ _ _ (Oper.mk _ (Op.indexAddr _ _ _) _ _ _ _ :: Oper.mk _ (Op.fieldAddr _ _ _) _ _ _ _ :: Oper.mk _ (Op.load _ _) _ _ _ _ :: _) _); refine x_ldField (f := 2) (j := i) (off := 2) rfl rfl (fun _ => rfl) rfl (fun _ _ => rfl) rfl (fun _ => rfl) (fun _ _ => rfl) fo_implLayer_2 rfl rfl rfl hpd z1 n1 hlt hs1 e1 rfl ?_; simp only [Act.put, ev_tmp, List.setIfInBounds_toArray, List.set_cons_succ, List.set_cons_zero, List.getD_cons_succ, List.getD_cons_zero])
              | ((with_reducible show wpX _ _ _ _ _ _ (Oper.mk _ (Op.indexAddr _ _ _) _ _ _ _ :: Oper.mk _ (Op.fieldAddr _ _ _) _ _ _ _ :: Oper.mk _ (Op.load _ _) _ _ _ _ :: _) _); refine x_ldField (f := 2) (j := i) (off := 2) rfl rfl (fun _ => rfl) rfl (fun _ _ => rfl) rfl (fun _ => rfl) (fun _ _ => rfl) fo_implLayer_2 rfl rfl rfl hqd z2 n2 hlt hs2 e2 rfl ?_; simp only [Act.put, ev_tmp, List.setIfInBounds_toArray, List.set_cons_succ, List.set_cons_zero, List.getD_cons_succ, List.getD_cons_zero])
              | (refine x_run rfl fun K hK w1 hw1 => ?_; have k0 := hw1.cell (ad); have k1 := hw1.cell (bd); go_simp; refine hK _ ?_; clear hK K k0 k1 hw1 w1))
            refine x_nil ?_
            have he' := (he.trans (Ext.drew wr)).trans hwf
            have Hb := hid hb
            clear hwf hb
            go_wp2
            go_roundw
            case rel => exact ⟨i + 1, by omega, by go_num, hid fun j hj => (if hji : j = i then hji ▸ Hb.out else Hall.out j (by omega)), he'⟩
            case measure => simp [intOf]; omega
          · rw [decide_eq_false k3] at hb
            have Q3 := bne_t k3
            clear k3
            go_wp2
            refine wp_region_xall (F := fun _ _ _ => True) (by kernel_rfl) (by kernel_rfl) (by kernel_rfl) ?_
            intro wf hwf
            repeat (first
              | (refine x_skip rfl ?_; simp only [Act.put, ev_tmp, List.setIfInBounds_toArray, List.set_cons_succ, List.set_cons_zero, List.getD_cons_succ, List.getD_cons_zero])
              | (refine x_mv rfl rfl rfl ?_; simp only [Act.put, ev_tmp, List.setIfInBounds_toArray, List.set_cons_succ, List.set_cons_zero, List.getD_cons_succ, List.getD_cons_zero])
              | (refine x_as rfl rfl rfl ?_; simp only [Act.put, ev_tmp, List.setIfInBounds_toArray, List.set_cons_succ, List.set_cons_zero, List.getD_cons_succ, List.getD_cons_zero])
              | ((with_reducible show wpX _ _ _ _ _ _ (Oper.mk _ (Op.indexAddr _ _ _) _ _ _ _ :: Oper.mk _ (Op.fieldAddr _ _ _) _ _ _ _ :: Oper.mk _ (Op.load _ _) _ _ _ _ :: _) _); refine x_ldField (f := 0) (j := i) (off := 0) rfl rfl (fun _ => rfl) rfl (fun _ _ => rfl) rfl (fun _ => rfl) (fun _ _ => rfl) fo_implLayer_0 rfl rfl rfl hpd z1 n1 hlt hs1 e1 rfl ?_; simp only [Act.put, ev_tmp, List.setIfInBounds_toArray, List.set_cons_succ, List.set_cons_zero, List.getD_cons_succ, List.getD_cons_zero])
              | ((with_reducible show wpX _ _ _ _ _ _ (Oper.mk _ (Op.indexAddr _ _ _) _ _ _ _ :: Oper.mk _ (Op.fieldAddr _ _ _) _ _ _ _ :: Oper.mk _ (Op.load _ _) _ _ _ _ :: _) _); refine x_ldField (f := 0) (j := i) (off := 0) rfl rfl (fun _ => rfl) rfl (fun _ _ => rfl) rfl (fun _ => rfl) (fun _ _ => rfl) fo_implLayer_0 rfl rfl rfl hqd z2 n2 hlt hs2 e2 rfl ?_; simp only [Act.put, ev_tmp, List.setIfInBounds_toArray, List.set_cons_succ, List.set_cons_zero, List.getD_cons_succ, List.getD_cons_zero])
              | ((with_reducible show wpX _ _ _ _ _ _ (Oper.mk _ (Op.indexAddr _ _ _) _ _ _ _ :: Oper.mk _ (Op.fieldAddr _ _ _) _ _ _ _ :: Oper.mk _ (Op.load _ _) _ _ _ _ :: _) _); refine x_ldField (f := 1) (j := i) (off := 1) rfl rfl (fun _ => rfl) rfl (fun _ _ => rfl) rfl (fun _ => rfl) (fun _ _ => rfl) fo_implLayer_1 rfl rfl rfl hpd z1 n1 hlt hs1 e1 rfl ?_; simp only [Act.put, ev_tmp, List.setIfInBounds_toArray, List.set_cons_succ, List.set_cons_zero, List.getD_cons_succ, List.getD_cons_zero])
              | ((with_reducible show wpX _ _ _ _ _ _ (Oper.mk _ (Op.indexAddr _ _ _) _ _ _ _ :: Oper.mk _ (Op.fieldAddr _ _ _) _ _ _ _ :: Oper.mk _ (Op.load _ _) _ _ _ _ :: _) _); refine x_ldField (f := 1) (j := i) (off := 1) rfl rfl (fun _ => rfl) rfl (fun _ _ => rfl) rfl (fun _ => rfl) (fun _ _ => rfl) fo_implLayer_1 rfl rfl rfl hqd z2 n2 hlt hs2 e2 rfl ?_; simp only [Act.put, ev_tmp, List.setIfInBounds_toArray, List.set_cons_succ, List.set_cons_zero, List.getD_cons_succ, List.getD_cons_zero])
              | ((with_reducible show wpX _ _ _ _ _ _ (Oper.mk _ (Op.indexAddr _ _ _) _ _ _ _ :: Oper.mk _ (Op.fieldAddr _ _ _) _ _ _ _ :: Oper.mk _ (Op.load _ _) _ _ _ _ :: _) _); refine x_ldField (f := 2) (j := i) (off := 2) rfl rfl (fun _ => rfl) rfl (fun _ _ => rfl) rfl (fun _ => rfl) (fun _ _ => rfl) fo_implLayer_2 rfl rfl rfl hpd z1 n1 hlt hs1 e1 rfl ?_; simp only [Act.put, ev_tmp, List.setIfInBounds_toArray, List.set_cons_succ, List.set_cons_zero, List.getD_cons_succ, List.getD_cons_zero])
              | ((with_reducible show wpX _ _ _ _ _ _ (Oper.mk _ (Op.indexAddr _ _ _) _ _ _ _ :: Oper.mk _ (Op.fieldAddr _ _ _) _ _ _ _ :: Oper.mk _ (Op.load _ _) _ _ _ _ :: _) _); refine x_ldField (f := 2) (j := i) (off := 2) rfl rfl (fun _ => rfl) rfl (fun _ _ => rfl) rfl (fun _ => rfl) (fun _ _ => rfl) fo_implLayer_2 rfl rfl rfl hqd z2 n2 hlt hs2 e2 rfl ?_; simp only [Act.put, ev_tmp, List.setIfInBounds_toArray, List.set_cons_succ, List.set_cons_zero, List.getD_cons_succ, List.getD_cons_zero])
              | (refine x_run rfl fun K hK w1 hw1 => ?_; have k0 := hw1.cell (ad); have k1 := hw1.cell (bd); go_simp; refine hK _ ?_; clear hK K k0 k1 hw1 w1))
            refine x_nil ?_
            go_wp2
            go_ret
            have ha : anyTo (fun i => !atB kio l l2 i) n = true := (anyTo_true (q := fun i => !atB kio l l2 i)).2 ⟨i, hlt, by rw [hb]; rfl⟩
            exact ⟨ret_bool (by rw [ha]; rfl), (he.trans (Ext.drew wr)).trans hwf⟩
        · rw [decide_eq_false k2, Bool.false_and] at hb
          have Q2 := bne_t k2
          clear k2
          go_wp2
          refine wp_region_xall (F := fun _ _ _ => True) (by kernel_rfl) (by kernel_rfl) (by kernel_rfl) ?_
          intro wf hwf
          repeat (first
            | (refine x_skip rfl ?_; simp only [Act.put, ev_tmp, List.setIfInBounds_toArray, List.set_cons_succ, List.set_cons_zero, List.getD_cons_succ, List.getD_cons_zero])
            | (refine x_mv rfl rfl rfl ?_; simp only [Act.put, ev_tmp, List.setIfInBounds_toArray, List.set_cons_succ, List.set_cons_zero, List.getD_cons_succ, List.getD_cons_zero])
            | (refine x_as rfl rfl rfl ?_; simp only [Act.put, ev_tmp, List.setIfInBounds_toArray, List.set_cons_succ, List.set_cons_zero, List.getD_cons_succ, List.getD_cons_zero])
            | ((with_reducible show wpX _ _ _ _ _ _ (Oper.mk _ (Op.indexAddr _ _ _) _ _ _ _ :: Oper.mk _ (Op.fieldAddr _ _ _) _ _ _ _ :: Oper.mk _ (Op.load _ _) _ _ _ _ :: _) _); refine x_ldField (f := 0) (j := i) (off := 0) rfl rfl (fun _ => rfl) rfl (fun _ _ => rfl) rfl (fun _ => rfl) (fun _ _ => rfl) fo_implLayer_0 rfl rfl rfl hpd z1 n1 hlt hs1 e1 rfl ?_; simp only [Act.put, ev_tmp, List.setIfInBounds_toArray, List.set_cons_succ, List.set_cons_zero, List.getD_cons_succ, List.getD_cons_zero])
            | ((with_reducible show wpX _ _ _ _ _ _ (Oper.mk _ (Op.indexAddr _ _ _) _ _ _ _ :: Oper.mk _ (Op.fieldAddr _ _ _) _ _ _ _ :: Oper.mk _ (Op.load _ _) _ _ _ _ :: _) _); refine x_ldField (f := 0) (j := i) (off := 0) rfl rfl (fun _ => rfl) rfl (fun _ _ => rfl) rfl (fun _ => rfl) (fun _ _ => rfl) fo_implLayer_0 rfl rfl rfl hqd z2 n2 hlt hs2 e2 rfl ?_; simp only [Act.put, ev_tmp, List.setIfInBounds_toArray, List.set_cons_succ, List.set_cons_zero, List.getD_cons_succ, List.getD_cons_zero])
            | ((with_reducible show wpX _ _ _ _ _ _ (Oper.mk _ (Op.indexAddr _ _ _) _ _ _ _ :: Oper.mk _ (Op.fieldAddr _ _ _) _ _ _ _ :: Oper.mk _ (Op.load _ _) _ _ _ _ :: _) _); refine x_ldField (f := 1) (j := i) (off := 1) rfl rfl (fun _ => rfl) rfl (fun _ _ => rfl) rfl (fun _ => rfl) (fun _ _ => rfl) fo_implLayer_1 rfl rfl rfl hpd z1 n1 hlt hs1 e1 rfl ?_; simp only [Act.put, ev_tmp, List.setIfInBounds_toArray, List.set_cons_succ, List.set_cons_zero, List.getD_cons_succ, List.getD_cons_zero])
            | ((with_reducible show wpX _ _ _ _ _ _ (Oper.mk _ (Op.indexAddr _ _ _) _ _ _ _ :: Oper.mk _ (Op.fieldAddr _ _ _) _ _ _ _ :: Oper.mk _ (Op.load _ _) _ _ _ _ :: _) _); refine x_ldField (f := 1) (j := i) (off := 1) rfl rfl (fun _ => rfl) rfl (fun _ _ => rfl) rfl (fun _ => rfl) (fun _ _ => rfl) fo_implLayer_1 rfl rfl rfl hqd z2 n2 hlt hs2 e2 rfl ?_; simp only [Act.put, ev_tmp, List.setIfInBounds_toArray, List.set_cons_succ, List.set_cons_zero, List.getD_cons_succ, List.getD_cons_zero])
            | ((with_reducible show wpX _ _ _ _ _ _ (Oper.mk _ (Op.indexAddr _ _ _) _ _ _ _ :: Oper.mk _ (Op.fieldAddr _ _ _) _ _ _ _ :: Oper.mk _ (Op.load _ _) _ _ _ _ :: _) _); refine x_ldField (f := 2) (j := i) (off := 2) rfl rfl (fun _ => rfl) rfl (fun _ _ => rfl) rfl (fun _ => rfl) (fun _ _ => rfl) fo_implLayer_2 rfl rfl rfl hpd z1 n1 hlt hs1 e1 rfl ?_; simp only [Act.put, ev_tmp, List.setIfInBounds_toArray, List.set_cons_succ, List.set_cons_zero, List.getD_cons_succ, List.getD_cons_zero])
            | ((with_reducible show wpX _ _ _ _ _ _ (Oper.mk _ (Op.indexAddr _ _ _) _ _ _ _ :: Oper.mk _ (Op.fieldAddr _ _ _) _ _ _ _ :: Oper.mk _ (Op.load _ _) _ _ _ _ :: _) _); refine x_ldField (f := 2) (j := i) (off := 2) rfl rfl (fun _ => rfl) rfl (fun _ _ => rfl) rfl (fun _ => rfl) (fun _ _ => rfl) fo_implLayer_2 rfl rfl rfl hqd z2 n2 hlt hs2 e2 rfl ?_; simp only [Act.put, ev_tmp, List.setIfInBounds_toArray, List.set_cons_succ, List.set_cons_zero, List.getD_cons_succ, List.getD_cons_zero])
            | (refine x_run rfl fun K hK w1 hw1 => ?_; have k0 := hw1.cell (ad); have k1 := hw1.cell (bd); go_simp; refine hK _ ?_; clear hK K k0 k1 hw1 w1))
          refine x_nil ?_
          go_wp2
          go_ret
          have ha : anyTo (fun i => !atB kio l l2 i) n = true := (anyTo_true (q := fun i => !atB kio l l2 i)).2 ⟨i, hlt, by rw [hb]; rfl⟩
          exact ⟨ret_bool (by rw [ha]; rfl), (he.trans (Ext.drew wr)).trans hwf⟩
      · rw [decide_eq_false k1, Bool.false_and] at hb
        have Q1 := bne_t k1
        clear k1
        go_wp2
        refine wp_region_xall (F := fun _ _ _ => True) (by kernel_rfl) (by kernel_rfl) (by kernel_rfl) ?_
        intro wf hwf
        repeat (first
          | (refine x_skip rfl ?_; simp only [Act.put, ev_tmp, List.setIfInBounds_toArray, List.set_cons_succ, List.set_cons_zero, List.getD_cons_succ, List.getD_cons_zero])
          | (refine x_mv rfl rfl rfl ?_; simp only [Act.put, ev_tmp, List.setIfInBounds_toArray, List.set_cons_succ, List.set_cons_zero, List.getD_cons_succ, List.getD_cons_zero])
          | (refine x_as rfl rfl rfl ?_; simp only [Act.put, ev_tmp, List.setIfInBounds_toArray, List.set_cons_succ, List.set_cons_zero, List.getD_cons_succ, List.getD_cons_zero])
          | ((with_reducible show wpX _ _ _ _ _ _ (Oper.mk _ (Op.indexAddr _ _ _) _ _ _ _ :: Oper.mk _ (Op.fieldAddr _ _ _) _ _ _ _ :: Oper.mk _ (Op.load _ _) _ _ _ _ :: _) _); refine x_ldField (f := 0) (j := i) (off := 0) rfl rfl (fun _ => rfl) rfl (fun _ _ => rfl) rfl (fun _ => rfl) (fun _ _ => rfl) fo_implLayer_0 rfl rfl rfl hpd z1 n1 hlt hs1 e1 rfl ?_; simp only [Act.put, ev_tmp, List.setIfInBounds_toArray, List.set_cons_succ, List.set_cons_zero, List.getD_cons_succ, List.getD_cons_zero])
          | ((with_reducible show wpX _ _ _ _ _ _ (Oper.mk _ (Op.indexAddr _ _ _) _ _ _ _ :: Oper.mk _ (Op.fieldAddr _ _ _) _ _ _ _ :: Oper.mk _ (Op.load _ _) _ _ _ _ :: _) _); refine x_ldField (f := 0) (j := i) (off := 0) rfl rfl (fun _ => rfl) rfl (fun _ _ => rfl) rfl (fun _ => rfl) (fun _ _ => rfl) fo_implLayer_0 rfl rfl rfl hqd z2 n2 hlt hs2 e2 rfl ?_; simp only [Act.put, ev_tmp, List.setIfInBounds_toArray, List.set_cons_succ, List.set_cons_zero, List.getD_cons_succ, List.getD_cons_zero])
          | ((with_reducible show wpX _ _ _ _ _ _ (Oper.mk _ (Op.indexAddr _ _ _) _ _ _ _ :: Oper.mk _ (Op.fieldAddr _ _ _) _ _ _ _ :: Oper.mk _ (Op.load _ _) _ _ _ _ :: _) _); refine x_ldField (f := 1) (j := i) (off := 1) rfl rfl (fun _ => rfl) rfl (fun _ _ => rfl) rfl (fun _ => rfl) (fun _ _ => rfl) fo_implLayer_1 rfl rfl rfl hpd z1 n1 hlt hs1 e1 rfl ?_; simp only [Act.put, ev_tmp, List.setIfInBounds_toArray, List.set_cons_succ, List.set_cons_zero, List.getD_cons_succ, List.getD_cons_zero])
          | ((with_reducible show wpX _ _ _ _ _ _ (Oper.mk _ (Op.indexAddr _ _ _) _ _ _ _ :: Oper.mk _ (Op.fieldAddr _ _ _) _ _ _ _ :: Oper.mk _ (Op.load _ _) _ _ _ _ :: _) _); refine x_ldField (f := 1) (j := i) (off := 1) rfl rfl (fun _ => rfl) rfl (fun _ _ => rfl) rfl (fun _ => rfl) (fun _ _ => rfl) fo_implLayer_1 rfl rfl rfl hqd z2 n2 hlt hs2 e2 rfl ?_; simp only [Act.put, ev_tmp, List.setIfInBounds_toArray, List.set_cons_succ, List.set_cons_zero, List.getD_cons_succ, List.getD_cons_zero])
          | ((with_reducible show wpX _ _ _ _ _ _ (Oper.mk _ (Op.indexAddr _ _ _) _ _ _ _ :: Oper.mk _ (Op.fieldAddr _ _ _) _ _ _ _ :: Oper.mk _ (Op.load _ _) _ _ _ _ :: _) _); refine x_ldField (f := 2) (j := i) (off := 2) rfl rfl (fun _ => rfl) rfl (fun _ _ => rfl) rfl (fun _ => rfl) (fun _ _ => rfl) fo_implLayer_2 rfl rfl rfl hpd z1 n1 hlt hs1 e1 rfl ?_; simp only [Act.put, ev_tmp, List.setIfInBounds_toArray, List.set_cons_succ, List.set_cons_zero, List.getD_cons_succ, List.getD_cons_zero])
          | ((with_reducible show wpX _ _ _ _ _ _ (Oper.mk _ (Op.indexAddr _ _ _) _ _ _ _ :: Oper.mk _ (Op.fieldAddr _ _ _) _ _ _ _ :: Oper.mk _ (Op.load _ _) _ _ _ _ :: _) _); refine x_ldField (f := 2) (j := i) (off := 2) rfl rfl (fun _ => rfl) rfl (fun _ _ => rfl) rfl (fun _ => rfl) (fun _ _ => rfl) fo_implLayer_2 rfl rfl rfl hqd z2 n2 hlt hs2 e2 rfl ?_; simp only [Act.put, ev_tmp, List.setIfInBounds_toArray, List.set_cons_succ, List.set_cons_zero, List.getD_cons_succ, List.getD_cons_zero])
          | (refine x_run rfl fun K hK w1 hw1 => ?_; have k0 := hw1.cell (ad); have k1 := hw1.cell (bd); go_simp; refine hK _ ?_; clear hK K k0 k1 hw1 w1))
        refine x_nil ?_
        go_wp2
        go_ret
        have ha : anyTo (fun i => !atB kio l l2 i) n = true := (anyTo_true (q := fun i => !atB kio l l2 i)).2 ⟨i, hlt, by rw [hb]; rfl⟩
        exact ⟨ret_bool (by rw [ha]; rfl), (he.trans (Ext.drew wr)).trans hwf⟩
    · obtain rfl : i = n := by omega
      have ha : anyTo (fun i => !atB kio l l2 i) i = false := anyTo_false fun j hj => by rw [Hall.out j hj]; rfl
      have HA := hid ha
      clear ha hlt
      go_wp2_with fail
      refine (Cp.out _ he).mono ?_
      rintro e w1 ⟨q1, c1, vs1, rfl, own1, fl1, e1⟩
      go_wp2_with fail
      refine (Cq.out _ (he.trans e1)).mono ?_
      rintro e w2 ⟨q2, c2, vs2, rfl, own2, fl2, e2⟩
      go_wp2_with fail
      refine (l01SameAll_any q1 q2 _ _ c1 c2 vs1 vs2 _ _ w2 rfl rfl (Nat.le_trans Hn.out (by decide)) ((own_Cs own1).ext e2) (own_Cs own2) fl1 fl2 I1.out I2.out).mono ?_
      rintro e w3 ⟨rfl, e3⟩
      go_wp2
      go_ret
      exact ⟨ret_bool (by rw [HA.out]; rfl), ((he.trans e1).trans e2).trans e3⟩
end Go.Proofs.Ythphfmngofbabaa
