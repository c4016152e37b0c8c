/- A part of the proofs: TnO, RgU. -/
import Derived.Test.YtlimabbeaimdgaaGreatZ18Evalua
import Derived.Test.YtlimabbeaimdgaaGreatZ11Evalua
set_option linter.unusedSimpArgs false
set_option linter.unusedVariables false
namespace Go.Proofs.YtlimabbeaimdgaaGreat
open Go.RowKit
def memG (ops : List shOp.T) (gs : List (Option shTensor.T)) (lo : Nat) : List shTensor.T := (List.range ops.length).map fun j => match gs.getD j none with | some t => t | none => if lo ≤ j then zeroT ops j else t0
def hasG (gs : List (Option shTensor.T)) : List Bool := gs.map Option.isSome
theorem memG_len (ops : List shOp.T) (gs : List (Option shTensor.T)) (lo : Nat) : (memG ops gs lo).length = ops.length := by simp [memG]
theorem hasG_len (gs : List (Option shTensor.T)) : (hasG gs).length = gs.length := by simp [hasG]
theorem memG_get {ops : List shOp.T} (gs : List (Option shTensor.T)) (lo : Nat) {j : Nat} (h : j < ops.length) : (memG ops gs lo).getD j t0 = match gs.getD j none with | some t => t | none => if lo ≤ j then zeroT ops j else t0 := by
 unfold memG
 rw [List.getD_eq_getElem?_getD, List.getElem?_map, List.getElem?_range h]
 rfl
theorem hasG_get (gs : List (Option shTensor.T)) {j : Nat} (h : j < gs.length) : (hasG gs).getD j false = (gs.getD j none).isSome := by
 unfold hasG
 simp [List.getD_eq_getElem?_getD, h]
theorem getD_ext {A : Type} {l k : List A} (d : A) (hl : l.length = k.length) (h : ∀ j, j < l.length → l.getD j d = k.getD j d) : l = k := by
 refine List.ext_getElem hl fun i h1 h2 => ?_
 have := h i h1
 simpa [List.getD_eq_getElem?_getD, h1, h2] using this
theorem getD_set {A : Type} (l : List A) (d x : A) {i j : Nat} (hi : i < l.length) : (l.set i x).getD j d = if j = i then x else l.getD j d := by
 by_cases h : j = i
 · subst h; simp [hi]
 · rw [if_neg h]; simp [List.getD_eq_getElem?_getD, List.getElem?_set, Ne.symm h]
theorem hasG_give (gs : List (Option shTensor.T)) (to : Nat) (p : shTensor.T) (hto : to < gs.length) : hasG (giveG gs to p) = (hasG gs).set to true := by
 refine getD_ext false ((hasG_len _).trans ((giveG_len _ _ _).trans (by rw [List.length_set]; exact (hasG_len _).symm))) fun j hj => ?_
 have hj' : j < gs.length := by rw [hasG_len, giveG_len] at hj; exact hj
 rw [hasG_get _ (by rw [giveG_len]; exact hj'), giveG_get gs to p hto j, getD_set _ _ _ (by rw [hasG_len]; exact hto)]
 by_cases e : j = to
 · subst e; rw [if_pos rfl, if_pos rfl]; rfl
 · rw [if_neg e, if_neg e, hasG_get _ hj']
theorem memG_give {ops : List shOp.T} (gs : List (Option shTensor.T)) (lo to : Nat) (p : shTensor.T) (hl : gs.length = ops.length) (hto : to < ops.length) : memG ops (giveG gs to p) lo = (memG ops gs lo).set to (if (hasG gs).getD to false then tAdd ((memG ops gs lo).getD to t0) p else p) := by
 refine getD_ext t0 ((memG_len _ _ _).trans (by rw [List.length_set]; exact (memG_len _ _ _).symm)) fun j hj => ?_
 have hj' : j < ops.length := by rw [memG_len] at hj; exact hj
 rw [memG_get _ _ hj', giveG_get gs to p (by omega) j, getD_set _ _ _ (by rw [memG_len]; exact hto)]
 by_cases e : j = to
 · subst e
   rw [if_pos rfl, if_pos rfl, hasG_get _ (by omega), memG_get _ _ hj']
   cases gs.getD j none <;> simp
 · rw [if_neg e, if_neg e, memG_get _ _ hj']
theorem memG_some {ops : List shOp.T} {gs : List (Option shTensor.T)} {i : Nat} {g : shTensor.T} (hg : gs.getD i none = some g) : memG ops gs (i + 1) = memG ops gs i := by
 refine getD_ext t0 ((memG_len _ _ _).trans (memG_len _ _ _).symm) fun j hj => ?_
 have hj' : j < ops.length := by rw [memG_len] at hj; exact hj
 rw [memG_get _ _ hj', memG_get _ _ hj']
 by_cases e : j = i
 · subst e; rw [hg]
 · cases gs.getD j none with
   | some t => rfl
   | none =>
     show (if i + 1 ≤ j then zeroT ops j else t0) = if i ≤ j then zeroT ops j else t0
     by_cases h : i + 1 ≤ j
     · rw [if_pos h, if_pos (by omega)]
     · rw [if_neg h, if_neg (by omega)]
theorem memG_none {ops : List shOp.T} {gs : List (Option shTensor.T)} {i : Nat} (hi : i < ops.length) (hg : gs.getD i none = none) : memG ops gs i = (memG ops gs (i + 1)).set i (zeroT ops i) := by
 refine getD_ext t0 ((memG_len _ _ _).trans (by rw [List.length_set]; exact (memG_len _ _ _).symm)) fun j hj => ?_
 have hj' : j < ops.length := by rw [memG_len] at hj; exact hj
 rw [memG_get _ _ hj', getD_set _ _ _ (by rw [memG_len]; exact hi), memG_get _ _ hj']
 by_cases e : j = i
 · subst e; rw [if_pos rfl, hg]; simp
 · rw [if_neg e]
   cases gs.getD j none with
   | some t => rfl
   | none =>
     show (if i ≤ j then zeroT ops j else t0) = if i + 1 ≤ j then zeroT ops j else t0
     by_cases h : i + 1 ≤ j
     · rw [if_pos h, if_pos (by omega)]
     · rw [if_neg h, if_neg (by omega)]
theorem memG_done (ops : List shOp.T) : memG ops (gradT ops ops.length) 0 = gradsT ops := by
 unfold memG gradsT
 refine List.map_congr_left fun j _ => ?_
 unfold gAt
 cases (gradT ops ops.length).getD j none <;> simp
def seedT (ops : List shOp.T) : shTensor.T := tFill (vAt ops (ops.length - 1)).1.toNat (vAt ops (ops.length - 1)).2.1.toNat oneB32
theorem gradT_zero (ops : List shOp.T) (h : 1 ≤ ops.length) : hasG (gradT ops 0) = (List.replicate ops.length false).set (ops.length - 1) true ∧ memG ops (gradT ops 0) ops.length = (List.replicate ops.length t0).set (ops.length - 1) (seedT ops) := by
 have e : gradT ops 0 = giveG (List.replicate ops.length none) (ops.length - 1) (seedT ops) := by
  unfold gradT giveG seedT
  simp [show ops.length - 1 < ops.length by omega]
 rw [e]
 constructor
 · rw [hasG_give _ _ _ (by simp; omega)]
   simp [hasG]
 · rw [memG_give _ _ _ _ (by simp) (by omega)]
   have h1 : (hasG (List.replicate ops.length none)).getD (ops.length - 1) false = false := by
    rw [hasG_get _ (by rw [List.length_replicate]; omega)]
    simp [List.getD_eq_getElem?_getD, show ops.length - 1 < ops.length by omega]
   rw [h1]
   have h2 : memG ops (List.replicate ops.length none) ops.length = List.replicate ops.length t0 := by
    refine getD_ext t0 ((memG_len _ _ _).trans (by rw [List.length_replicate])) fun j hj => ?_
    have hj' : j < ops.length := by rw [memG_len] at hj; exact hj
    rw [memG_get _ _ hj']
    simp [hj', show ¬ ops.length ≤ j by omega]
   rw [h2]; rfl
theorem step_none {ops : List shOp.T} {m : Nat} (h : (gradT ops m).getD (ops.length - 1 - m) none = none) : gradT ops (m + 1) = gradT ops m := by
 show stepG ops (ops.length - 1 - m) (gradT ops m) = _
 unfold stepG
 rw [h]
theorem step_inp {ops : List shOp.T} {m : Nat} (h : (ops.getD (ops.length - 1 - m) o0).1 = 0) : gradT ops (m + 1) = gradT ops m := by
 show stepG ops (ops.length - 1 - m) (gradT ops m) = _
 unfold stepG
 cases (gradT ops m).getD (ops.length - 1 - m) none with
 | none => rfl
 | some g => simp only; rw [if_pos h]
theorem step_op {ops : List shOp.T} {m : Nat} {g : shTensor.T} {o : shOp.T} (ho : ops.getD (ops.length - 1 - m) o0 = o) (h : (gradT ops m).getD (ops.length - 1 - m) none = some g) (hk : o.1 ≠ 0) :
 gradT ops (m + 1) = if twoK o.1.toNat then giveG (giveG (gradT ops m) o.2.1.toNat (partA o.1.toNat o.2.2.2.1 g (vAt ops o.2.1.toNat) (vAt ops o.2.2.1.toNat))) o.2.2.1.toNat (partB o.1.toNat g (vAt ops o.2.1.toNat) (vAt ops o.2.2.1.toNat)) else giveG (gradT ops m) o.2.1.toNat (partA o.1.toNat o.2.2.2.1 g (vAt ops o.2.1.toNat) (vAt ops o.2.2.1.toNat)) := by
 subst ho
 show stepG ops (ops.length - 1 - m) (gradT ops m) = _
 unfold stepG
 rw [h]
 simp only
 rw [if_neg hk]
theorem made_tens (n : Nat) : (madeCells (Value.agg #[.int .i64 0, .int .i64 0, .slice none 0 0]).cells (n * 3)).toList = (List.replicate n [Value.int .i64 0, .int .i64 0, .slice none 0 0]).flatten := by
 induction n with
 | zero => simp [madeCells]
 | succ n ih =>
   rw [List.replicate_succ', List.flatten_append, ← ih]
   simp only [madeCells, List.flatten_cons, List.flatten_nil, List.append_nil, Value.cells, Nat.add_mul, Nat.one_mul, Array.toList_map, Array.toList_range]
   rw [List.range_add, List.map_append]
   congr 1
   simp [List.range_succ, Nat.add_mod, Nat.mul_mod]
theorem made_bools (n : Nat) : (madeCells (Value.bool false).cells (n * 1)).toList = (List.replicate n false).map Value.bool := by
 refine List.ext_getElem ?_ fun i h1 h2 => ?_
 · simp [madeCells]
 · simp [madeCells] at h1 h2 ⊢
   simp [Value.cells, Nat.mod_one]
section
variable {P : Program} {ops : Array Oper} {Q : Exit → Act → World → Prop} {S : World → Prop} {a : Act} {w : World}
theorem hs_fa {n k : Nat} {listed : Array Bool} {o : Oper} {e : TypeId} {f off : Nat} {x : Operand} {p : Option Addr} {i : Nat} (hB : takeB ops listed k = true) (ho : ops[k]? = some o) (hg : o.guard = none) (hQ : ∀ c a w, Q (.panic c) (a.put o.dst (.pointer (some (adr p (i + off))))) w → Q (.panic c) a w) (hS : S w)
 (hop : o.op = .fieldAddr e x f) (hx : a.eval x = .pointer (some (adr p i))) (hfo : ∀ (q : Addr) (w : World), (Instr.fieldAt e (.pointer (some q)) f).run P w = .ok (.pointer (some (q.add off))) w)
 (h : wpT P ops Q S n (listed.setIfInBounds k true) (a.put o.dst (.pointer (some (adr p (i + off))))) w) : wpT P ops Q S (n + 1) listed a w :=
 hs_take _ hB ho hg hQ hS (fun W _ => by
  have hadd : (adr p i).add off = adr p (i + off) := by unfold adr; rw [add_add]
  simp [execOp, hop, hx, hfo, hadd]) h
theorem hs_ld1 {n k : Nat} {listed : Array Bool} {o : Oper} {t : TypeId} [Cell1 P t] {x : Operand} {q : Addr} {u : Value} (hB : takeB ops listed k = true) (ho : ops[k]? = some o) (hg : o.guard = none) (hQ : ∀ c a w, Q (.panic c) (a.put o.dst u) w → Q (.panic c) a w) (hS : S w)
 (hop : o.op = .load t x) (hx : a.eval x = .pointer (some q)) (hc : ∀ W, S W → W.cell? q = some u)
 (h : wpT P ops Q S n (listed.setIfInBounds k true) (a.put o.dst u) w) : wpT P ops Q S (n + 1) listed a w :=
 hs_take _ hB ho hg hQ hS (fun W hW => by simp [execOp, hop, hx, run_load1 (hc W hW)]) h
def readyB (ops : Array Oper) (listed : Array Bool) (l : List Nat) : Bool := Region.ready .any ops listed == l && l.all fun x => x != ops.size - 1
theorem hs_three {n x y z : Nat} {listed : Array Bool} (hB : readyB ops listed [x, y, z] = true) (hx : wpOp P ops Q x (fun a' w' => S w' ∧ wpT P ops Q S n (listed.setIfInBounds x true) a' w') a w)
 (hy : wpOp P ops Q y (fun a' w' => S w' ∧ wpT P ops Q S n (listed.setIfInBounds y true) a' w') a w) (hz : wpOp P ops Q z (fun a' w' => S w' ∧ wpT P ops Q S n (listed.setIfInBounds z true) a' w') a w) : wpT P ops Q S (n + 1) listed a w := by
 simp only [readyB, Bool.and_eq_true, beq_iff_eq, List.all_eq_true, bne_iff_ne] at hB
 obtain ⟨h1, h2⟩ := hB
 refine ⟨by rw [h1]; simp, fun i hi => ?_⟩
 rw [h1] at hi
 refine ⟨h2 i hi, ?_⟩
 simp only [List.mem_cons, List.not_mem_nil, or_false] at hi
 rcases hi with rfl | rfl | rfl
 · exact hx
 · exact hy
 · exact hz
theorem hs_pair {n x y : Nat} {listed : Array Bool} (hB : readyB ops listed [x, y] = true) (hx : wpOp P ops Q x (fun a' w' => S w' ∧ wpT P ops Q S n (listed.setIfInBounds x true) a' w') a w)
 (hy : wpOp P ops Q y (fun a' w' => S w' ∧ wpT P ops Q S n (listed.setIfInBounds y true) a' w') a w) : wpT P ops Q S (n + 1) listed a w := by
 simp only [readyB, Bool.and_eq_true, beq_iff_eq, List.all_eq_true, bne_iff_ne] at hB
 obtain ⟨h1, h2⟩ := hB
 refine ⟨by rw [h1]; simp, fun i hi => ?_⟩
 rw [h1] at hi
 refine ⟨h2 i hi, ?_⟩
 simp only [List.mem_cons, List.not_mem_nil, or_false] at hi
 rcases hi with rfl | rfl
 · exact hx
 · exact hy
theorem wp_cut {c : Code} (F : Value → Value → Nat → Nat → World → Prop) (upd : Value → Value → Nat → Nat → Act → Act)
 (h1 : c.wp P (fun ex a' w' => ∃ ua ub b1 b2, ex = .normal ∧ a' = upd ua ub b1 b2 a ∧ F ua ub b1 b2 w') a w) (h2 : ∀ ua ub b1 b2 w', F ua ub b1 b2 w' → Q .normal (upd ua ub b1 b2 a) w') : c.wp P Q a w := by
 refine Code.wp_mono (fun ex a' w' h => ?_) h1
 obtain ⟨ua, ub, b1, b2, rfl, rfl, hF⟩ := h
 exact h2 ua ub b1 b2 w' hF
end
end Go.Proofs.YtlimabbeaimdgaaGreat
