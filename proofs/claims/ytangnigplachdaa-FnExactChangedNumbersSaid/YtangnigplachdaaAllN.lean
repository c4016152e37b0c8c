/- AllNumbers of the program and of the reference. -/
import Derived.Test.YtangnigplachdaaSto2
import Derived.Test.YtangnigplachdaaKb
namespace Go.Proofs.Ytangnigplachdaa.lAllNumbers
set_option linter.unusedSimpArgs false
set_option linter.unusedVariables false
open Go.RowKit

def numF (l : List shLayer.T) (s : List (List Nat)) : List Nat := parF l ++ s.flatten
def res (d : shTrainState.T) : List Nat × Bool := if stoB d.1.1 d.2.1 d.2.2.1 d.2.2.2.1 then (numF d.1.1 d.2.1, true) else ([], false)
theorem flat_take {s : List (List Nat)} {i : Nat} (h : i < s.length) : (s.take (i + 1)).flatten = (s.take i).flatten ++ s.getD i [] := by
  rw [List.take_add_one, List.getElem?_eq_getElem h, getD_len h, List.flatten_append]
  simp only [Option.toList_some, List.flatten_cons, List.flatten_nil, List.append_nil]
theorem flat_small : ∀ {s : List (List Nat)} {N : Nat}, (∀ x ∈ s, x.length = N) → s.flatten.length = N * s.length
  | [], _, _ => by simp
  | x :: s, N, h => by
    rw [List.flatten_cons, List.length_append, h x (by simp), flat_small (fun y hy => h y (by simp [hy])), List.length_cons, Nat.mul_add, Nat.mul_one, Nat.add_comm]
theorem sto_small {l : List shLayer.T} {s : List (List Nat)} {x3 x4 : Int} (h : stoB l s x3 x4 = true) : (parF l).length ≤ 432 ∧ s.length ≤ 4 ∧ ∀ x ∈ s, x.length ≤ 432 := by
  unfold stoB at h
  simp only [Bool.and_eq_true, decide_eq_true_eq, List.all_eq_true] at h
  have h1 := modB_par h.1
  exact ⟨h1, h.2.1, fun x hx => by rw [h.2.2.2.2 x hx]; exact h1⟩
theorem flat_le : ∀ {s : List (List Nat)} {N : Nat}, (∀ x ∈ s, x.length ≤ N) → s.flatten.length ≤ N * s.length
  | [], _, _ => by simp
  | x :: s, N, h => by
    have h1 := h x (by simp)
    have h2 := flat_le (s := s) (N := N) (fun y hy => h y (by simp [hy]))
    rw [List.flatten_cons, List.length_append, List.length_cons, Nat.mul_add, Nat.mul_one]; omega
theorem res_bd (d : shTrainState.T) (_ : tot shTrainState d ≤ 1048576) (_ : Fit shTrainState d) : tot (.sl .flt) (res d).1 ≤ 1048576 := by
  rw [tot_flts]
  unfold res
  split
  · rename_i h
    obtain ⟨h1, h2, h3⟩ := sto_small h
    have := flat_le h3
    have h4 : 432 * d.2.1.length ≤ 432 * 4 := Nat.mul_le_mul_left _ h2
    unfold numF
    simp only [List.length_append]
    omega
  · simp
theorem own_outF {w w' : World} {v : Value} {xs : List Nat} {n : Nat} {vs : List Value} {e : Ending} (hl : xs.length = n) (h : w'.ownsRow w.heap.size 106 1 v n vs) (hf : F32s vs xs) (he : e = .returned (.tuple #[v, .bool true])) (hx : Ext w w') : OutOk w (.sl .flt) (xs, true) e w' := by
  subst hl
  obtain ⟨q, c, rfl⟩ : ∃ q c, v = .slice q xs.length c := by
    rcases h.2 with ⟨h1, h2⟩ | ⟨g, cap, cur, h1, _⟩
    · exact ⟨none, 0, by rw [h1, h2]⟩
    · exact ⟨_, _, h1⟩
  have h1 := own_flts.2 ⟨q, c, vs, rfl, ownRow_of h, hf, (own_cap h).1, (own_cap h).2, rfl⟩
  refine ⟨[.slice q xs.length c], _, he, h1, ?_, ?_, hx⟩
  · cases q <;> simp [blocksOf]
  · intro b hb
    cases q with
    | none => simp [blocksOf] at hb
    | some a => simp [blocksOf] at hb; subst hb; exact own_le h _ rfl

section
variable {P : Program} {w : World} {ops : Array Oper} {rest : List Oper} {o : Oper} {a : Act} {Q : Exit → Act → World → Prop}
theorem wl_appy {t e s b : Nat} {z : Value} [T : SlTy P t e s z b] {x1 x2 : Operand} {v : Value} {B n m c : Nat} {vs us : List Value} {p : Option Addr}
    (hg : o.guard = none) (ho : o.op = .call { callee := .builtin .append, args := #[x1, x2], argTypes := #[t, t] })
    (hx1 : a.eval x1 = v) (hx2 : a.eval x2 = .slice p m c) (how : w.ownsRow B e s v n vs) (hc : Cs w p us) (hm : us.length = m * s) (h1 : ∀ u ∈ us, u.oneCell' = true)
    (hn : n + m ≤ maxLen) (hb : (n + m) * b ≤ 140737488355328) (hB : B ≤ w.heap.size)
    (h : ∀ v' w', w'.ownsRow B e s v' (n + m) (vs ++ us) → w.grownBy w' v.ownBlock → wpList P ops Q rest (a.put o.dst v') w') : wpList P ops Q (o :: rest) a w := by
  obtain ⟨ti, hi, hzz⟩ := Option.map_eq_some_iff.1 T.inf
  simp only [Prod.mk.injEq] at hzz
  cases p with
  | some ad =>
    exact wpList_append_own _ hg x1 x2 t ho B e ti z s b T.und hi hzz.1 hzz.2.1 hzz.2.2 T.zs T.pos v n vs hx1 how ad m c us hx2 hm (fun j u hj => hc.cell j u hj) h1 hn hb hB (fun v' w' h1 h2 _ => h v' w' h1 h2)
  | none =>
    have hus : us = [] := Classical.byContradiction fun hn => by have := hc.isS hn; simp at this
    subst hus
    have hm0 : m = 0 := by
      rcases Nat.eq_zero_or_pos m with h | h
      · exact h
      · have := Nat.mul_pos h T.pos; simp at hm; omega
    subst hm0
    refine wpList_plain hg fun K hK' => ?_
    have hrun := run_append_none (P := P) B t o.type e ti s T.und hi v n c vs how
    unfold Oper.wp
    simp [execOp, ho, resolve, invoke, builtin, hx1, hx2, hrun, Result.andThen]
    exact hK' _ _ (h v w (by simpa using how) (World.grownBy.refl _ _))
end
theorem own_formF {w : World} {B e s n : Nat} {v : Value} {vs : List Value} (h : w.ownsRow B e s v n vs) : ∃ q c, v = .slice q n c := by
  rcases h.2 with ⟨h1, h2⟩ | ⟨g, cap, cur, h1, _⟩
  · exact ⟨none, 0, by rw [h1, h2]⟩
  · exact ⟨_, _, h1⟩

set_option maxRecDepth 100000 in
set_option maxHeartbeats 4000000 in
theorem allNumbers_any (p0 p1 : Option Addr) (n0 c0 n1 c1 : Nat) (x3 x4 : Int) (ub : Nat) (css : List (List Value)) (us : List Value) (l : List shLayer.T) (s : List (List Nat)) (w : World) (L1 : Lays w p0 n0 css l) (S1 : Slts w p1 n1 us s) (h1 : (parF l).length ≤ 432) (h2 : s.length ≤ 4) (h3 : ∀ x ∈ s, x.length ≤ 432) :
    Calls Try.prog 168 #[.agg #[.slice p0 n0 c0, .slice p1 n1 c1, .int .i64 x3, .int .i64 x4, .float .f32 ub]] w (RetFl w (numF l s)) := by
  have Cp := hid (fun W (h : Ext w W) => params_any p0 n0 c0 l css W L1.len L1.le (L1.cs.ext h) (L1.ext h).all L1.size L1.cnt (Nat.le_trans h1 (by decide)))
  have hs := S1.len
  have hn4 : n1 ≤ 4 := by omega
  have HB := hid (show ∀ i, ((s.take i).flatten : List Nat).length ≤ 1728 from fun i => by
    have := flat_le (s := s.take i) (N := 432) (fun x hx => h3 x (List.mem_of_mem_take hx))
    have h4 : (s.take i).length ≤ 4 := by rw [List.length_take]; omega
    have h5 : 432 * (s.take i).length ≤ 432 * 4 := Nat.mul_le_mul_left _ h4
    omega)
  have HS := hid hs
  unfold numF
  have E0 := Ext.alloc w (.cells #[.slice p0 n0 c0, .slice p1 n1 c1, .int .i64 x3, .int .i64 x4, .float .f32 ub] 113)
  generalize parF l = P at *
  clear L1 h2 h3 hs
  go_enter Try.func168, Try.ntmps168
  go_wp2_with fail
  refine (Cp.out _ E0).mono ?_
  rintro e w1 ⟨q, cq, vs, rfl, own1, fl1, e1⟩
  have own2 := own_base own1 (B' := w.heap.size) E0.size
  have x1 := e1.cellOf (b := w.heap.size) (by simp)
  have he1 := E0.trans e1
  clear own1 Cp
  go_wp2
  go_loopw [3, 12] (fun bv iv wr => ∃ (i : Nat) (vs : List Value) (q : Option Addr) (cq : Nat), i ≤ n1 ∧ iv = .int .i64 i ∧ bv = .slice q (P.length + (s.take i).flatten.length) cq ∧ wr.ownsRow w.heap.size 106 1 (.slice q (P.length + (s.take i).flatten.length) cq) (P.length + (s.take i).flatten.length) vs ∧ Hid (F32s vs (P ++ (s.take i).flatten)) ∧ Ext w wr) (fun _ iv _ => n1 - (intOf iv).toNat)
  case atStart => exact ⟨0, vs, q, cq, by omega, rfl, by simp, by simpa using own2, by simpa [Hid] using fl1, he1⟩
  case round =>
    clear own2 fl1 he1 x1 e1
    obtain ⟨i, vs, q, cq, hi, rfl, rfl, own0, HF, he⟩ := hrel
    have hB := he.size
    by_cases hlt : i < n1
    · obtain ⟨pu, cu, eu, fu⟩ := S1.at' i hlt
      have ku := S1.cs.ext he
      have Hu := hid eu
      have Hv := hid S1.cnt
      obtain ⟨ws, k1, k2, hfl, _⟩ := fu
      have hft := flat_take (s := s) (i := i) (by rw [HS.out]; exact hlt)
      have hb1 := HB.out (i + 1)
      rw [hft, List.length_append] at hb1
      have Hft := hid hft
      have u1 := k2.1
      have o1 := hid k2.one
      unfold maxLen at hfl
      clear eu hft
      generalize hX : s.getD i [] = X at *
      generalize (s.take i).flatten = Y at *
      go_wp2_with (first
        | ((with_reducible show wpList _ _ _ (Oper.mk _ (Op.indexAddr _ _ _) _ _ _ _ :: Oper.mk _ (Op.load _ _) _ _ _ _ :: _) _ _); refine wl_idxload rfl rfl rfl rfl (fun _ => rfl) rfl rfl ku Hv.out (by omega) (by omega) ?_; intro u hu; rw [Int.toNat_natCast, Hu.out] at hu; cases hu)
        | ((with_reducible show wpList _ _ _ (Oper.mk _ (Op.call _) _ _ _ _ :: _) _ _); refine wl_appy rfl rfl rfl rfl own0 (k1.ext he) (by rw [u1, Nat.mul_one]) o1.out (by unfold maxLen; omega) (by omega) (by omega) ?_; intro v1 w1 own1 g1))
      obtain ⟨q2, c2, rfl⟩ := own_formF own1
      go_roundw
      case rel =>
        refine ⟨i + 1, vs ++ ws, q2, c2, by omega, by go_num, by rw [Hft.out, List.length_append, ← Nat.add_assoc], by rw [Hft.out, List.length_append, ← Nat.add_assoc]; exact own1, ?_, he.grown g1 (fun k hk => own_le own0 k hk)⟩
        rw [Hid, Hft.out, ← List.append_assoc]; exact HF.out.app k2
      case measure => simp [intOf]; omega
    · obtain rfl : i = n1 := by omega
      have ht : s.take i = s := List.take_of_length_le (by rw [HS.out]; exact Nat.le_refl _)
      rw [ht] at HF
      go_wp2
      go_ret
      exact retFl_of (by rw [List.length_append, ht]) own0 HF.out rfl he
set_option maxRecDepth 100000 in
set_option maxHeartbeats 4000000 in
theorem l08All_any (b1 : Nat) (p0 p1 : Option Addr) (n0 c0 n1 c1 : Nat) (css : List (List Value)) (us : List Value) (l : List shLayer.T) (s : List (List Nat)) (w : World) (L1 : Lays w p0 n0 css l) (S1 : Slts w p1 n1 us s) (h1 : (parF l).length ≤ 432) (h2 : s.length ≤ 4) (h3 : ∀ x ∈ s, x.length ≤ 432)
    (g0 : w.cell? ⟨b1, 0, none⟩ = some (.slice p0 n0 c0)) (g1 : w.cell? ⟨b1, 1, none⟩ = some (.slice p1 n1 c1)) :
    Calls Try.prog 134 #[.pointer (some ⟨b1, 0, none⟩)] w (RetFl w (numF l s)) := by
  have Cp := hid (fun W (h : Ext w W) => l03Params_any (sp := none) b1 0 p0 n0 c0 l css W (h.cell g0) L1.len L1.le (L1.cs.ext h) (L1.ext h).all L1.size L1.cnt (Nat.le_trans h1 (by decide)))
  have hs := S1.len
  have hn4 : n1 ≤ 4 := by omega
  have HB := hid (show ∀ i, ((s.take i).flatten : List Nat).length ≤ 1728 from fun i => by
    have := flat_le (s := s.take i) (N := 432) (fun x hx => h3 x (List.mem_of_mem_take hx))
    have h4 : (s.take i).length ≤ 4 := by rw [List.length_take]; omega
    have h5 : 432 * (s.take i).length ≤ 432 * 4 := Nat.mul_le_mul_left _ h4
    omega)
  have HS := hid hs
  unfold numF
  have E0 := Ext.refl w
  generalize parF l = P at *
  clear L1 h2 h3 hs
  go_enter Try.func134, Try.ntmps134
  go_wp2_with fail
  refine (Cp.out _ E0).mono ?_
  rintro e w1 ⟨q, cq, vs, rfl, own1, fl1, e1⟩
  have own2 := own_base own1 (B' := w.heap.size) E0.size
  have he1 := E0.trans e1
  clear own1 Cp
  go_wp2
  go_loopw [3, 4] (fun bv iv wr => ∃ (i : Nat) (vs : List Value) (q : Option Addr) (cq : Nat), i ≤ n1 ∧ iv = .int .i64 i ∧ bv = .slice q (P.length + (s.take i).flatten.length) cq ∧ wr.ownsRow w.heap.size 106 1 (.slice q (P.length + (s.take i).flatten.length) cq) (P.length + (s.take i).flatten.length) vs ∧ Hid (F32s vs (P ++ (s.take i).flatten)) ∧ Ext w wr) (fun _ iv _ => n1 - (intOf iv).toNat)
  case atStart => exact ⟨0, vs, q, cq, by omega, rfl, by simp, by simpa using own2, by simpa [Hid] using fl1, he1⟩
  case round =>
    clear own2 fl1 he1 e1
    obtain ⟨i, vs, q, cq, hi, rfl, rfl, own0, HF, he⟩ := hrel
    have hB := he.size
    have y1 := he.cell g1
    by_cases hlt : i < n1
    · obtain ⟨pu, cu, eu, fu⟩ := S1.at' i hlt
      have ku := S1.cs.ext he
      have Hu := hid eu
      have Hv := hid S1.cnt
      obtain ⟨ws, k1, k2, hfl, _⟩ := fu
      have hft := flat_take (s := s) (i := i) (by rw [HS.out]; exact hlt)
      have hb1 := HB.out (i + 1)
      rw [hft, List.length_append] at hb1
      have Hft := hid hft
      have u1 := k2.1
      have o1 := hid k2.one
      unfold maxLen at hfl
      clear eu hft
      generalize hX : s.getD i [] = X at *
      generalize (s.take i).flatten = Y at *
      go_wp2_with (first
        | ((with_reducible show wpList _ _ _ (Oper.mk _ (Op.indexAddr _ _ _) _ _ _ _ :: Oper.mk _ (Op.load _ _) _ _ _ _ :: _) _ _); refine wl_idxload rfl rfl rfl rfl (fun _ => rfl) rfl rfl ku Hv.out (by omega) (by omega) ?_; intro u hu; rw [Int.toNat_natCast, Hu.out] at hu; cases hu)
        | ((with_reducible show wpList _ _ _ (Oper.mk _ (Op.call _) _ _ _ _ :: _) _ _); refine wl_appy rfl rfl rfl rfl own0 (k1.ext he) (by rw [u1, Nat.mul_one]) o1.out (by unfold maxLen; omega) (by omega) (by omega) ?_; intro v1 w1 own1 g1))
      obtain ⟨q2, c2, rfl⟩ := own_formF own1
      go_roundw
      case rel =>
        refine ⟨i + 1, vs ++ ws, q2, c2, by omega, by go_num, by rw [Hft.out, List.length_append, ← Nat.add_assoc], by rw [Hft.out, List.length_append, ← Nat.add_assoc]; exact own1, ?_, he.grown g1 (fun k hk => own_le own0 k hk)⟩
        rw [Hid, Hft.out, ← List.append_assoc]; exact HF.out.app k2
      case measure => simp [intOf]; omega
    · obtain rfl : i = n1 := by omega
      have ht : s.take i = s := List.take_of_length_le (by rw [HS.out]; exact Nat.le_refl _)
      rw [ht] at HF
      go_wp2
      go_ret
      exact retFl_of (by rw [List.length_append, ht]) own0 HF.out rfl he

end Go.Proofs.Ytangnigplachdaa.lAllNumbers
